/-
 The functions do what their models say. Printed by wip/ab/gen.py.
-/
import Derived.Test.YtoncbhomocgmcaaGreatDoorWlkIa
namespace Go.Proofs.YtoncbhomocgmcaaGreatDoor.Ab
set_option linter.defProp false
set_option linter.unusedVariables false
set_option linter.unusedSimpArgs false
set_option maxRecDepth 20000
set_option maxHeartbeats 4000000
open Go.RowKit
theorem J6 (n:Nat):(∀a0 a1 a2 a3 a4 r,B0 n a0 a1 a2 a3 a4=some r→AG Tryz.prog 34 [.box 1 0,.agg [.int .i64 a1.agent,.int .i64 a1.slot],.agg [(nop Stack.avs a2.e0),(nop Stack.avs a2.e1),(nop Stack.avs a2.e2),(nop Stack.avs a2.e3),(nop Stack.avs a2.e4),(nop Stack.avs a2.e5),(nop Stack.avs a2.e6),(nop Stack.avs a2.e7),(nop Stack.avs a2.e8)],(nop ReadBinder.avs a3),.int .i64 a4] [(1001,⟨List.map AB a0.origins,some 1,0,.no⟩),(1002,⟨List.map AB a0.times,some 1,0,.no⟩),(1003,⟨List.map AT a0.labels,some 1,0,.no⟩)] [(1,[.ro (a0.net.agents.map Agent.ds),.int .i64 a0.entered,.int .i64 a0.nodes,.own 1001,.own 1002,.own 1003])] (.tup [.agg [.int .i64 r.1.kind,.int .i64 r.1.value,.own 1501,.own 1502],.int .i64 r.2.1]) [(1501,⟨List.map AB r.1.data,some 1,0,.no⟩),(1502,⟨List.map Core.ds r.1.kids,some 4,0,.no⟩),(1503,⟨List.map AB r.2.2.origins,some 1,0,.no⟩),(1504,⟨List.map AB r.2.2.times,some 1,0,.no⟩),(1505,⟨List.map AT r.2.2.labels,some 1,0,.no⟩)] [(1,[.ro (a0.net.agents.map Agent.ds),.int .i64 r.2.2.entered,.int .i64 r.2.2.nodes,.own 1503,.own 1504,.own 1505])])∧
    (∀a0 a3 a4 u w y q g j k b d c e i l t s o (z:ByteArray) r,BJ n a0 a3 a4 u w y q g j k b d c e i l t s o z=some r→CF Tryz.prog Tryz.f34 [1,1,0,0] (.tup [.agg [.int .i64 r.1.kind,.int .i64 r.1.value,.own 1501,.own 1502],.int .i64 r.2.1]) [(1501,⟨List.map AB r.1.data,some 1,0,.no⟩),(1502,⟨List.map Core.ds r.1.kids,some 4,0,.no⟩),(1503,⟨List.map AB r.2.2.origins,some 1,0,.no⟩),(1504,⟨List.map AB r.2.2.times,some 1,0,.no⟩),(1505,⟨List.map AT r.2.2.labels,some 1,0,.no⟩)] [(1,[.ro (a0.net.agents.map Agent.ds),.int .i64 r.2.2.entered,.int .i64 r.2.2.nodes,.own 1503,.own 1504,.own 1505])] ⟨[(0,.box 1 0),(3,(nop ReadBinder.avs a3)),(4,.int .i64 a4),(6,.box 1000001500 0),(7,.box 1000001501 0),(10,.box 1000001502 0),(12,.str z)],[(1000001000,some ⟨List.map AB y,some 1,0,.no⟩),(1000001001,some ⟨List.map AB q,some 1,0,.no⟩),(1000001002,some ⟨List.map AT g,some 1,0,.no⟩)],[(1,some [.ro (a0.net.agents.map Agent.ds),.int .i64 u,.int .i64 w,.own 1000001000,.own 1000001001,.own 1000001002]),(1000001500,some [.int .i64 j,.int .i64 k]),(1000001501,some [(nop Stack.avs b),(nop Stack.avs d),(nop Stack.avs c),(nop Stack.avs e),(nop Stack.avs i),(nop Stack.avs l),(nop Stack.avs t),(nop Stack.avs s),(nop Stack.avs o)]),(1000001502,some [.int .i64 0,.int .i64 0,.nils,.nils])]⟩)∧
    (∀a0 a4 j k b d c e i l t s o u1 u2 u3 u4 u5 u6 u7 u8 r,Am n a0 a4 j k b d c e i l t s o u1 u2 u3 u4 u5 u6 u7 u8=some r→CF Tryz.prog Tryz.f34 [1,1,1,1,1,1,1] (.tup [.agg [.int .i64 r.1.kind,.int .i64 r.1.value,.own 1501,.own 1502],.int .i64 r.2.1]) [(1501,⟨List.map AB r.1.data,some 1,0,.no⟩),(1502,⟨List.map Core.ds r.1.kids,some 4,0,.no⟩),(1503,⟨List.map AB r.2.2.origins,some 1,0,.no⟩),(1504,⟨List.map AB r.2.2.times,some 1,0,.no⟩),(1505,⟨List.map AT r.2.2.labels,some 1,0,.no⟩)] [(1,[.ro (a0.net.agents.map Agent.ds),.int .i64 r.2.2.entered,.int .i64 r.2.2.nodes,.own 1503,.own 1504,.own 1505])] ⟨[(0,.box 1 0),(3,(nop ReadBinder.avs u7)),(4,.int .i64 a4),(6,.box 1000002500 0),(7,.box 1000002501 0),(10,.box 1000002502 0),(16,.box 1000002503 0),(17,.own 1000002005)],[(1000002000,some ⟨List.map AB u4,some 1,0,.no⟩),(1000002001,some ⟨List.map AB u5,some 1,0,.no⟩),(1000002002,some ⟨List.map AT u6,some 1,0,.no⟩),(1000002003,some ⟨List.map AB u1.1.data,some 1,0,.no⟩),(1000002004,some ⟨List.map Core.ds u8,some 4,0,.no⟩),(1000002005,some ⟨List.map AB u1.2.1,some 1,0,.no⟩)],[(1,some [.ro (a0.net.agents.map Agent.ds),.int .i64 u2,.int .i64 u3,.own 1000002000,.own 1000002001,.own 1000002002]),(1000002500,some [.int .i64 j,.int .i64 k]),(1000002501,some [(nop Stack.avs b),(nop Stack.avs d),(nop Stack.avs c),(nop Stack.avs e),(nop Stack.avs i),(nop Stack.avs l),(nop Stack.avs t),(nop Stack.avs s),(nop Stack.avs o)]),(1000002502,some [.int .i64 0,.int .i64 0,.nils,.nils]),(1000002503,some [.int .i64 u1.1.kind,.int .i64 u1.1.value,.own 1000002003,.own 1000002004])]⟩)∧
    (∀a0 a4 j k b d c e i l t s o u7 u1 u9 u10 u11 u12 u13 u14 u15 r,BK n a0 a4 j k b d c e i l t s o u7 u1 u9 u10 u11 u12 u13 u14 u15=some r→CF Tryz.prog Tryz.f34 [1,1,1,1,1,1,1,0,1,0] (.tup [.agg [.int .i64 r.1.kind,.int .i64 r.1.value,.own 1501,.own 1502],.int .i64 r.2.1]) [(1501,⟨List.map AB r.1.data,some 1,0,.no⟩),(1502,⟨List.map Core.ds r.1.kids,some 4,0,.no⟩),(1503,⟨List.map AB r.2.2.origins,some 1,0,.no⟩),(1504,⟨List.map AB r.2.2.times,some 1,0,.no⟩),(1505,⟨List.map AT r.2.2.labels,some 1,0,.no⟩)] [(1,[.ro (a0.net.agents.map Agent.ds),.int .i64 r.2.2.entered,.int .i64 r.2.2.nodes,.own 1503,.own 1504,.own 1505])] ⟨[(0,.box 1 0),(3,(nop ReadBinder.avs u7)),(4,.int .i64 a4),(6,.box 1000004500 0),(7,.box 1000004501 0),(10,.box 1000004502 0),(16,.box 1000004503 0),(125,.own 1000004005),(126,.int .i64 ((List.length u1.2.1 :Nat):Int)),(127,.int .i64 u15)],[(1000004000,some ⟨List.map AB u11,some 1,0,.no⟩),(1000004001,some ⟨List.map AB u12,some 1,0,.no⟩),(1000004002,some ⟨List.map AT u13,some 1,0,.no⟩),(1000004003,some ⟨List.map AB u1.1.data,some 1,0,.no⟩),(1000004004,some ⟨List.map Core.ds u14,some 4,0,.no⟩),(1000004005,some ⟨List.map AB u1.2.1,some 1,0,.no⟩)],[(1,some [.ro (a0.net.agents.map Agent.ds),.int .i64 u9,.int .i64 u10,.own 1000004000,.own 1000004001,.own 1000004002]),(1000004500,some [.int .i64 j,.int .i64 k]),(1000004501,some [(nop Stack.avs b),(nop Stack.avs d),(nop Stack.avs c),(nop Stack.avs e),(nop Stack.avs i),(nop Stack.avs l),(nop Stack.avs t),(nop Stack.avs s),(nop Stack.avs o)]),(1000004502,some [.int .i64 0,.int .i64 0,.nils,.nils]),(1000004503,some [.int .i64 u1.1.kind,.int .i64 u1.1.value,.own 1000004003,.own 1000004004])]⟩):=by
 induction n with
 |zero=>exact⟨(fun _ _ _ _ _ _ h=>by rw [B0] at h; cases h),(fun _ _ _ _ _ _ _ _ _ _ _ _ _ _ _ _ _ _ _ _ _ h=>by rw [BJ] at h; cases h),(fun _ _ _ _ _ _ _ _ _ _ _ _ _ _ _ _ _ _ _ _ _ _ h=>by rw [Am] at h; cases h),(fun _ _ _ _ _ _ _ _ _ _ _ _ _ _ _ _ _ _ _ _ _ _ _ h=>by rw [BK] at h; cases h)⟩
 | succ n ih=>
  obtain⟨ih0,ih1,ih2,ih3⟩:=ih
  refine⟨?_,?_,?_,?_⟩
  ·intro a0 a1 a2 a3 a4 r h
   rw [B0] at h
   refine agF Tryz.func34 mixed (h:=Z ?_)
   refine AS ?_
   exact SI (ih1 a0 a3 a4 a0.entered a0.nodes a0.origins a0.times a0.labels a1.agent a1.slot a2.e0 a2.e1 a2.e2 a2.e3 a2.e4 a2.e5 a2.e6 a2.e7 a2.e8 (ByteArray.mk #[]) _ h)
  ·intro a0 a3 a4 u w y q g j k b d c e i l t s o z r h
   rw [BJ] at h
   refine Aj rfl rfl (Z ?_)
   refine Bw (Z ?_)
   replace h:=AJ h; obtain⟨u16,u17,h⟩:=h
   refine caG ⟨[],(r3 1001 1000001000 []),[(1,1,0)],(r3 1501 48032 []),[],true⟩ (J7 _ _ _ u17) (Z ?_)
   refine AS ?_
   refine AO h (fun h=>Z ?_) (fun h=>Z ?_)
   ·cases h
    refine CK (.deep 0 2000000000 (some 1) .no [0,2] (by (first|rfl|(simp only [go_sem]; rfl))) (by simp only [go_sem]) (.deep 0 2000000001 (some 4) .no [0,3] (by (first|rfl|(simp only [go_sem]; rfl))) (by simp only [go_sem]) (.done _))) ((1501,2000000000)::(1502,2000000001)::r3 1503 48032 []) [(1,1)] ?_
    simp only [go_sem]
    all_goals try rfl
   ·refine AS ?_
    replace h:=AJ h; obtain⟨u18,u19,h⟩:=h
    refine AU (OT _ _ u19) (Z ?_)
    replace h:=AJ h; obtain⟨u20,u21,h⟩:=h
    have hq_:=Cj u21
    obtain⟨hv6003a,hv6003b⟩:=hq_
    refine AK hv6003a ?_
    rw [hv6003b]
    try simp only [go_sem]
    refine AS ?_
    refine BS [] .fin (by kernel_rfl) (Z ?_)
    replace h:=AJ h; obtain⟨u22,u23,h⟩:=h
    refine Aq u23 (Agent.ds_len _) (Z ?_)
    refine AS ?_
    refine AO h (fun h=>Z ?_) (fun h=>Z ?_)
    ·refine AS ?_
     replace h:=AJ h; obtain⟨u1,u24,h⟩:=h
     refine caG ⟨[],[],[],(r3 1501 192064 []),[],false⟩ (J8 _ _ _ _ _ u24) (Z ?_)
     refine AS ?_
     refine AO h (fun h=>Z ?_) (fun h=>Z ?_)
     ·cases h
      refine CK (.deep 0 2000000000 (some 1) .no [0,2] (by (first|rfl|(simp only [go_sem]; rfl))) (by simp only [go_sem]) (.deep 0 2000000001 (some 4) .no [0,3] (by (first|rfl|(simp only [go_sem]; rfl))) (by simp only [go_sem]) (.done _))) ((1501,2000000000)::(1502,2000000001)::r3 1503 48032 []) [(1,1)] ?_
      simp only [go_sem]
      all_goals try rfl
     ·refine AS ?_
      replace h:=AJ h; obtain⟨u25,u26,h⟩:=h
      refine caG ⟨[],(r3 1001 48032 []),[(1,1,0)],(r3 1501 240080 []),[],true⟩ (Gd _ _ _ _ _ u26) (Z ?_)
      refine AS ?_
      refine AO h (fun h=>Z ?_) (fun h=>Z ?_)
      ·cases h
       refine CK (.deep 0 2000000000 (some 1) .no [0,2] (by (first|rfl|(simp only [go_sem]; rfl))) (by simp only [go_sem]) (.deep 0 2000000001 (some 4) .no [0,3] (by (first|rfl|(simp only [go_sem]; rfl))) (by simp only [go_sem]) (.done _))) ((1501,2000000000)::(1502,2000000001)::r3 1503 240080 []) [(1,1)] ?_
       simp only [go_sem]
       all_goals try rfl
      ·refine AS ?_
       refine BS [false,false,false,false,false,false,false,false,false,false,true] (Tr.sq [10] .fin) (by kernel_rfl) (Z ?_)
       replace h:=AJ h; obtain⟨u27,u28,h⟩:=h
       refine Aq u28 (Agent.ds_len _) (Z ?_)
       refine AS ?_
       refine AO h (fun h=>Z ?_) (fun h=>Z ?_)
       ·replace h:=AJ h; obtain⟨u29,u30,h⟩:=h
        refine AU (Ho _ _ u30) (Z ?_)
        replace h:=AJ h; obtain⟨u31,u32,h⟩:=h
        have hq_:=Cj u32
        obtain⟨hv20004a,hv20004b⟩:=hq_
        refine AK hv20004a ?_
        rw [hv20004b]
        try simp only [go_sem]
        replace h:=AJ h; obtain⟨u33,u34,h⟩:=h
        refine caG ⟨[],(r3 1001 240080 []),[(1,1,0)],(r3 1501 320112 []),[],true⟩ (Gd _ _ _ _ _ u34) (Z ?_)
        refine AS ?_
        refine AO h (fun h=>Z ?_) (fun h=>Z ?_)
        ·cases h
         refine CK (.deep 0 2000000000 (some 1) .no [0,2] (by (first|rfl|(simp only [go_sem]; rfl))) (by simp only [go_sem]) (.deep 0 2000000001 (some 4) .no [0,3] (by (first|rfl|(simp only [go_sem]; rfl))) (by simp only [go_sem]) (.done _))) ((1501,2000000000)::(1502,2000000001)::r3 1503 320112 []) [(1,1)] ?_
         simp only [go_sem]
         all_goals try rfl
        ·refine AS ?_
         refine BS [false,false,false,false,false,false,false,false,true,true,true] (Tr.sq [8,9,10] .fin) (by kernel_rfl) (Z ?_)
         replace h:=AJ h; obtain⟨u35,u36,h⟩:=h
         refine Aq u36 rfl (Z ?_)
         replace h:=AJ h; obtain⟨u37,u38,h⟩:=h
         refine AZ (LD _ _ u38) (by (first|rfl|(simp only [go_sem]; rfl))) (by first|rfl|(simp only [go_sem])) (Z ?_)
         replace h:=AJ h; obtain⟨u39,u40,h⟩:=h
         have hq_:=AH u40
         obtain⟨hv23008a,hv23008b⟩:=hq_
         refine AP .no (Z ?_)
         refine AK (by (try refine⟨?_,?_⟩) <;> (try simp only [List.length_map,List.length_append,List.length_cons,List.length_nil] at*) <;> (try unfold maxLen) <;> omega) (Z ?_)
         refine AN (u39.map Core.ds) (by rw [← hv23008b]; simp only [List.map_append,List.map_cons,List.map_nil,List.nil_append,List.append_nil,go_sem,Core.ds_eq]) (Z ?_)
         exact AI (k1 ih2) h
       ·refine AO h (fun h=>Z ?_) (fun h=>Z ?_)
        ·refine Ie (EE rfl rfl (ih2 a0 a4 j k b d c e i l t s o u1 u25.2.entered u25.2.nodes u25.2.origins u25.2.times u25.2.labels (some (⟨j,(⟨b,d,c,e,i,l,t,s,o⟩:Stacks),a3⟩:ReadBinder)) u1.1.kids _ h):) (.one ⟨_,.frzB 25005 [(3,[]),(124,[])] [] _ _ _ (by (first|rfl|(simp only [go_sem]; rfl))) (by decide) (by rfl) (by (first|rfl|(simp only [go_sem]; rfl))) (by (first|rfl|(simp only [go_sem]; rfl))) (.done _),(r3 1000002000 240080 (r3 1000002003 192064 [])),((1,1)::r3 1000002500 1000001500 [(1000002503,12009)]),?_⟩)
         simp only [go_sem]
         all_goals try rfl
        ·exact AI (k1 ih2) h
    ·refine AS ?_
     replace h:=AJ h; obtain⟨u41,u42,h⟩:=h
     refine caG ⟨[],(r3 1001 48032 []),[(1,1,0),(2,1000001501,0)],(r3 1501 128032 []),[],true⟩ (Lt _ _ _ _ u42) (Z ?_)
     refine AS ?_
     refine AO h (fun h=>Z ?_) (fun h=>Z ?_)
     ·cases h
      refine CK (.deep 0 2000000000 (some 1) .no [0,2] (by (first|rfl|(simp only [go_sem]; rfl))) (by simp only [go_sem]) (.deep 0 2000000001 (some 4) .no [0,3] (by (first|rfl|(simp only [go_sem]; rfl))) (by simp only [go_sem]) (.done _))) ((1501,2000000000)::(1502,2000000001)::r3 1503 128032 []) [(1,1)] ?_
      simp only [go_sem]
      all_goals try rfl
     ·exact AI (k1 ih1) h
  ·intro a0 a4 j k b d c e i l t s o u1 u2 u3 u4 u5 u6 u7 u8 r h
   rw [Am] at h
   exact AI (k1 ih3) h
  ·intro a0 a4 j k b d c e i l t s o u7 u1 u9 u10 u11 u12 u13 u14 u15 r h
   rw [BK] at h
   refine Aj rfl rfl (Z ?_)
   refine Bw (Z ?_)
   refine AO h (fun h=>Z ?_) (fun h=>Z ?_)
   ·refine AS ?_
    replace h:=AJ h; obtain⟨u43,u44,h⟩:=h
    refine Aq u44 rfl (Z ?_)
    refine BN (A8 u44) (Z ?_)
    replace h:=AJ h; obtain⟨u45,u46,h⟩:=h
    replace h:=AJ h; obtain⟨u47,u48,h⟩:=h
    refine a8 (fun S=>⟨[(132,if S 0=true then .box 1 0 else .any),(133,if S 1=true then .box 1 0 else .any),(134,if S 2=true then .box 1 0 else .any),(135,if S 3=true then .box 1 0 else .any),(136,if S 4=true then .box 1000004500 0 else .any),(137,if S 5=true then .int .i64 j else .any),(138,if S 6=true then .int .i64 u43 else .any),(139,if S 7=true then .agg [.int .i64 j,.int .i64 u43] else .any),(140,if S 8=true then .agg [.int .i64 u45.agent,.int .i64 u45.slot] else .any),(141,if S 9=true then .agg [(nop Stack.avs b),(nop Stack.avs d),(nop Stack.avs c),(nop Stack.avs e),(nop Stack.avs i),(nop Stack.avs l),(nop Stack.avs t),(nop Stack.avs s),(nop Stack.avs o)] else .any),(142,if S 10=true then (nop ReadBinder.avs u7) else .any),(143,if S 11=true then .int .i64 a4 else .any),(144,if S 12=true then .int .i64 (IntKind.i64.wrap (a4+1)) else .any),(145,if S 13=true then .tup [.agg [.int .i64 u47.1.kind,.int .i64 u47.1.value,.own 464208,.own 464209],.int .i64 u47.2.1] else .any),(131,if S 14=true then .tup [.agg [.int .i64 u47.1.kind,.int .i64 u47.1.value,.own 464208,.own 464209],.int .i64 u47.2.1] else .any),(146,if S 15=true then .agg [.int .i64 u47.1.kind,.int .i64 u47.1.value,.own 464208,.own 464209] else .any),(147,if S 16=true then .int .i64 u47.2.1 else .any),(24,if S 17=true then .box 29017 0 else .any),(25,if S 19=true then .int .i64 u47.2.1 else .any),(0,.box 1 0),(3,(nop ReadBinder.avs u7)),(4,.int .i64 a4),(6,.box 1000004500 0),(7,.box 1000004501 0),(10,.box 1000004502 0),(16,.box 1000004503 0),(125,.own 1000004005),(126,.int .i64 ((List.length u1.2.1 :Nat):Int)),(127,.int .i64 u15),(128,.bool (decide (u15<((List.length u1.2.1 :Nat):Int)))),(129,.elt 1000004005 1 (Int.toNat u15) 0),(130,.int .i64 u43),(23,.int .i64 u43)],(optK (S 13) (464212,(some ⟨List.map AT u47.2.2.labels,some 1,0,.no⟩)) (optK (S 13) (464211,(some ⟨List.map AB u47.2.2.times,some 1,0,.no⟩)) (optK (S 13) (464210,(some ⟨List.map AB u47.2.2.origins,some 1,0,.no⟩)) (optK (S 13) (464209,(some ⟨List.map Core.ds u47.1.kids,some 4,0,.no⟩)) (optK (S 13) (464208,(some ⟨List.map AB u47.1.data,some 1,0,.no⟩)) [(1000004000,(if S 13=true then none else (some ⟨List.map AB u11,some 1,0,.no⟩))),(1000004001,(if S 13=true then none else (some ⟨List.map AB u12,some 1,0,.no⟩))),(1000004002,(if S 13=true then none else (some ⟨List.map AT u13,some 1,0,.no⟩))),(1000004003,(some ⟨List.map AB u1.1.data,some 1,0,.no⟩)),(1000004004,(some ⟨List.map Core.ds u14,some 4,0,.no⟩)),(1000004005,(some ⟨List.map AB u1.2.1,some 1,0,.no⟩))]))))),(optK (S 17) (29017,(if S 18=true then (some [.int .i64 u47.1.kind,.int .i64 u47.1.value,.own 464208,.own 464209]) else (some [.int .i64 0,.int .i64 0,.nils,.nils]))) [(1,(if S 13=true then (some [.ro (a0.net.agents.map Agent.ds),.int .i64 u47.2.2.entered,.int .i64 u47.2.2.nodes,.own 464210,.own 464211,.own 464212]) else (some [.ro (a0.net.agents.map Agent.ds),.int .i64 u9,.int .i64 u10,.own 1000004000,.own 1000004001,.own 1000004002]))),(1000004500,(some [.int .i64 j,.int .i64 k])),(1000004501,(some [(nop Stack.avs b),(nop Stack.avs d),(nop Stack.avs c),(nop Stack.avs e),(nop Stack.avs i),(nop Stack.avs l),(nop Stack.avs t),(nop Stack.avs s),(nop Stack.avs o)])),(1000004502,(some [.int .i64 0,.int .i64 0,.nils,.nils])),(1000004503,(some [.int .i64 u1.1.kind,.int .i64 u1.1.value,.own 1000004003,.own 1000004004]))])⟩) [([],[13,18]),([],[13,18]),([1],[13,18]),([2],[13,18]),([],[13,18]),([4],[13,18]),([],[13,18]),([5,6],[13,18]),([3,7],[13,18]),([],[13,18]),([],[13,18]),([],[13,18]),([11],[13,18]),([0,8,9,10,12],[18]),([13],[18]),([14],[18]),([14],[]),([],[18]),([0,1,2,3,4,5,6,7,8,9,10,11,12,13,14,15,17],[]),([0,1,2,3,4,5,6,7,8,9,10,11,12,13,14,15,16,17,18],[])] (by kernel_rfl) ?_ ?_ ?_
    ·(first|done|(simp (config:= {contextual:=true}) [go_sem,FJ,leO1,decide_eq_true_eq]; done))
    ·refine EL (by kernel_rfl) (by kernel_rfl) (fun S hS hd hu=>?_) ?_
     ·simp only [Cn,Bv,and_true] at hu
      obtain⟨hu0,hu1⟩:=hu
      try simp only [go_sem,hS,hu0,hu1]
      (first|done|(simp (config:= {contextual:=true}) [go_sem,FJ,leO1,hS,hu0,hu1]; done))
     refine EL (by kernel_rfl) (by kernel_rfl) (fun S hS hd hu=>?_) ?_
     ·simp only [Cn,Bv,and_true] at hu
      obtain⟨hu0,hu1⟩:=hu
      try simp only [go_sem,hS,hu0,hu1]
      (first|done|(simp (config:= {contextual:=true}) [go_sem,FJ,leO1,hS,hu0,hu1]; done))
     refine EL (by kernel_rfl) (by kernel_rfl) (fun S hS hd hu=>?_) ?_
     ·simp only [DV,Ci,and_true] at hd
      have hd0:=hd
      simp only [Cn,Bv,and_true] at hu
      obtain⟨hu0,hu1⟩:=hu
      try simp only [go_sem,hS,hd0,hu0,hu1]
      (first|done|(simp (config:= {contextual:=true}) [go_sem,FJ,leO1,hS,hd0,hu0,hu1]; done))
     refine EL (by kernel_rfl) (by kernel_rfl) (fun S hS hd hu=>?_) ?_
     ·simp only [DV,Ci,and_true] at hd
      have hd0:=hd
      simp only [Cn,Bv,and_true] at hu
      obtain⟨hu0,hu1⟩:=hu
      try simp only [go_sem,hS,hd0,hu0,hu1]
      (first|done|(simp (config:= {contextual:=true}) [go_sem,FJ,leO1,hS,hd0,hu0,hu1]; done))
     refine EL (by kernel_rfl) (by kernel_rfl) (fun S hS hd hu=>?_) ?_
     ·simp only [Cn,Bv,and_true] at hu
      obtain⟨hu0,hu1⟩:=hu
      try simp only [go_sem,hS,hu0,hu1]
      (first|done|(simp (config:= {contextual:=true}) [go_sem,FJ,leO1,hS,hu0,hu1]; done))
     refine EL (by kernel_rfl) (by kernel_rfl) (fun S hS hd hu=>?_) ?_
     ·simp only [DV,Ci,and_true] at hd
      have hd0:=hd
      simp only [Cn,Bv,and_true] at hu
      obtain⟨hu0,hu1⟩:=hu
      try simp only [go_sem,hS,hd0,hu0,hu1]
      (first|done|(simp (config:= {contextual:=true}) [go_sem,FJ,leO1,hS,hd0,hu0,hu1]; done))
     refine EL (by kernel_rfl) (by kernel_rfl) (fun S hS hd hu=>?_) ?_
     ·simp only [Cn,Bv,and_true] at hu
      obtain⟨hu0,hu1⟩:=hu
      try simp only [go_sem,hS,hu0,hu1]
      (first|done|(simp (config:= {contextual:=true}) [go_sem,FJ,leO1,hS,hu0,hu1]; done))
     refine EL (by kernel_rfl) (by kernel_rfl) (fun S hS hd hu=>?_) ?_
     ·simp only [DV,Ci,and_true] at hd
      obtain⟨hd0,hd1⟩:=hd
      simp only [Cn,Bv,and_true] at hu
      obtain⟨hu0,hu1⟩:=hu
      try simp only [go_sem,hS,hd0,hd1,hu0,hu1]
      (first|done|(simp (config:= {contextual:=true}) [go_sem,FJ,leO1,hS,hd0,hd1,hu0,hu1]; done))
     refine EL (by kernel_rfl) (by kernel_rfl) (fun S hS hd hu=>?_) ?_
     ·simp only [DV,Ci,and_true] at hd
      obtain⟨hd0,hd1⟩:=hd
      simp only [Cn,Bv,and_true] at hu
      obtain⟨hu0,hu1⟩:=hu
      try simp only [go_sem,hS,hd0,hd1,hu0,hu1]
      refine AU (Td (EC _ _ _ u46) (.cons (.rop rfl) (.cons (.refl _) .nil))) ?_
      try simp only [go_sem,hS,hd0,hd1,hu0,hu1]
      (first|done|(simp (config:= {contextual:=true}) [go_sem,FJ,leO1,hS,hd0,hd1,hu0,hu1]; done))
     refine EL (by kernel_rfl) (by kernel_rfl) (fun S hS hd hu=>?_) ?_
     ·simp only [Cn,Bv,and_true] at hu
      obtain⟨hu0,hu1⟩:=hu
      try simp only [go_sem,hS,hu0,hu1]
      (first|done|(simp (config:= {contextual:=true}) [go_sem,FJ,leO1,hS,hu0,hu1]; done))
     refine EL (by kernel_rfl) (by kernel_rfl) (fun S hS hd hu=>?_) ?_
     ·simp only [Cn,Bv,and_true] at hu
      obtain⟨hu0,hu1⟩:=hu
      try simp only [go_sem,hS,hu0,hu1]
      (first|done|(simp (config:= {contextual:=true}) [go_sem,FJ,leO1,hS,hu0,hu1]; done))
     refine EL (by kernel_rfl) (by kernel_rfl) (fun S hS hd hu=>?_) ?_
     ·simp only [Cn,Bv,and_true] at hu
      obtain⟨hu0,hu1⟩:=hu
      try simp only [go_sem,hS,hu0,hu1]
      (first|done|(simp (config:= {contextual:=true}) [go_sem,FJ,leO1,hS,hu0,hu1]; done))
     refine EL (by kernel_rfl) (by kernel_rfl) (fun S hS hd hu=>?_) ?_
     ·simp only [DV,Ci,and_true] at hd
      have hd0:=hd
      simp only [Cn,Bv,and_true] at hu
      obtain⟨hu0,hu1⟩:=hu
      try simp only [go_sem,hS,hd0,hu0,hu1]
      (first|done|(simp (config:= {contextual:=true}) [go_sem,FJ,leO1,hS,hd0,hu0,hu1]; done))
     refine EL (by kernel_rfl) (by kernel_rfl) (fun S hS hd hu=>?_) ?_
     ·simp only [DV,Ci,and_true] at hd
      obtain⟨hd0,hd1,hd2,hd3,hd4⟩:=hd
      simp only [Cn,Bv,and_true] at hu
      have hu0:=hu
      try simp only [go_sem,hS,hd0,hd1,hd2,hd3,hd4,hu0]
      refine caG ⟨[],(r3 1001 1000004000 []),[(1,1,0)],(r5 1501 464208 []),[],true⟩ (ih0 _ _ _ _ _ _ u48) ?_
      try simp only [go_sem,hS,hd0,hd1,hd2,hd3,hd4,hu0]
      (first|done|(simp (config:= {contextual:=true}) [go_sem,FJ,leO1,hS,hd0,hd1,hd2,hd3,hd4,hu0]; done))
     refine EL (by kernel_rfl) (by kernel_rfl) (fun S hS hd hu=>?_) ?_
     ·simp only [DV,Ci,and_true] at hd
      have hd0:=hd
      simp only [Cn,Bv,and_true] at hu
      have hu0:=hu
      try simp only [go_sem,hS,hd0,hu0]
      (first|done|(simp (config:= {contextual:=true}) [go_sem,FJ,leO1,hS,hd0,hu0]; done))
     refine EL (by kernel_rfl) (by kernel_rfl) (fun S hS hd hu=>?_) ?_
     ·simp only [DV,Ci,and_true] at hd
      have hd0:=hd
      simp only [Cn,Bv,and_true] at hu
      have hu0:=hu
      try simp only [go_sem,hS,hd0,hu0]
      (first|done|(simp (config:= {contextual:=true}) [go_sem,FJ,leO1,hS,hd0,hu0]; done))
     refine EL (by kernel_rfl) (by kernel_rfl) (fun S hS hd hu=>?_) ?_
     ·simp only [DV,Ci,and_true] at hd
      have hd0:=hd
      try simp only [go_sem,hS,hd0]
      (first|done|(simp (config:= {contextual:=true}) [go_sem,FJ,leO1,hS,hd0]; done))
     refine EL (by kernel_rfl) (by kernel_rfl) (fun S hS hd hu=>?_) ?_
     ·simp only [Cn,Bv,and_true] at hu
      have hu0:=hu
      try simp only [go_sem,hS,hu0]
      (first|done|(simp (config:= {contextual:=true}) [go_sem,FJ,leO1,hS,hu0]; done))
     refine EL (by kernel_rfl) (by kernel_rfl) (fun S hS hd hu=>?_) ?_
     ·simp only [DV,Ci,and_true] at hd
      obtain⟨hd0,hd1,hd2,hd3,hd4,hd5,hd6,hd7,hd8,hd9,hd10,hd11,hd12,hd13,hd14,hd15,hd16⟩:=hd
      try simp only [go_sem,hS,hd0,hd1,hd2,hd3,hd4,hd5,hd6,hd7,hd8,hd9,hd10,hd11,hd12,hd13,hd14,hd15,hd16]
      (first|done|(simp (config:= {contextual:=true}) [go_sem,FJ,leO1,hS,hd0,hd1,hd2,hd3,hd4,hd5,hd6,hd7,hd8,hd9,hd10,hd11,hd12,hd13,hd14,hd15,hd16]; done))
     refine EL (by kernel_rfl) (by kernel_rfl) (fun S hS hd hu=>?_) ?_
     ·simp only [DV,Ci,and_true] at hd
      obtain⟨hd0,hd1,hd2,hd3,hd4,hd5,hd6,hd7,hd8,hd9,hd10,hd11,hd12,hd13,hd14,hd15,hd16,hd17,hd18⟩:=hd
      try simp only [go_sem,hS,hd0,hd1,hd2,hd3,hd4,hd5,hd6,hd7,hd8,hd9,hd10,hd11,hd12,hd13,hd14,hd15,hd16,hd17,hd18]
      (first|done|(simp (config:= {contextual:=true}) [go_sem,FJ,leO1,hS,hd0,hd1,hd2,hd3,hd4,hd5,hd6,hd7,hd8,hd9,hd10,hd11,hd12,hd13,hd14,hd15,hd16,hd17,hd18]; done))
     exact ec
    try simp only [go_sem]
    refine AS ?_
    refine AO h (fun h=>Z ?_) (fun h=>Z ?_)
    ·cases h
     refine CK (.deep 0 2000000000 (some 1) .no [0,2] (by (first|rfl|(simp only [go_sem]; rfl))) (by simp only [go_sem]) (.deep 0 2000000001 (some 4) .no [0,3] (by (first|rfl|(simp only [go_sem]; rfl))) (by simp only [go_sem]) (.done _))) ((1501,2000000000)::(1502,2000000001)::r3 1503 464210 []) [(1,1)] ?_
     simp only [go_sem]
     all_goals try rfl
    ·refine AS ?_
     replace h:=AJ h; obtain⟨u49,u50,h⟩:=h
     have hq_:=AH u50
     obtain⟨hv32004a,hv32004b⟩:=hq_
     refine AP .no (Z ?_)
     refine AK (by (try refine⟨?_,?_⟩) <;> (try simp only [List.length_map,List.length_append,List.length_cons,List.length_nil] at*) <;> (try unfold maxLen) <;> omega) (Z ?_)
     refine AN (u49.map Core.ds) (by rw [← hv32004b]; simp only [List.map_append,List.map_cons,List.map_nil,List.nil_append,List.append_nil,go_sem,Core.ds_eq]) (Z ?_)
     exact AI (k1 ih3) h
   ·exact AI trivial h
def LG (n:Nat):=(J6 n).1
theorem Qt (a0 r) (h:Dv a0=some r) (hc:DI a0=some true):AG Tryz.prog 17 [.agg [.ro (a0.agents.map Agent.ds)]] [] [] (.tup [.box 1601 0,.agg [.int .i64 r.2.1.kind,.int .i64 r.2.1.value,.own 1504,.own 1505],.int .i64 r.2.2]) [(1501,⟨List.map AB r.1.origins,some 1,0,.no⟩),(1502,⟨List.map AB r.1.times,some 1,0,.no⟩),(1503,⟨List.map AT r.1.labels,some 1,0,.no⟩),(1504,⟨List.map AB r.2.1.data,some 1,0,.no⟩),(1505,⟨List.map Core.ds r.2.1.kids,some 4,0,.no⟩)] [(1601,[.ro (r.1.net.agents.map Agent.ds),.int .i64 r.1.entered,.int .i64 r.1.nodes,.own 1501,.own 1502,.own 1503])] :=by
 unfold Dv at h
 refine agF Tryz.func17 mixed (h:=Z ?_)
 refine AS ?_
 replace h:=AJ h; obtain⟨u,w,h⟩:=h
 refine AU (JX _ _ w) (Z ?_)
 refine AS ?_
 refine Hf (fun y=>?_) (fun y=>?_)
 ·rw [hc] at w
  cases w
  cases y
 ·replace h:=ifF (c:=(!u)) y h
  try simp only [go_sem]
  refine AS ?_
  refine BS [] .fin (by kernel_rfl) (Z ?_)
  replace h:=AJ h; obtain⟨q,g,h⟩:=h
  have hq_:=Kw g
  obtain⟨hv4004a,hv4004b,hv4004c⟩:=hq_
  refine AK (by refine⟨?_,?_,?_⟩ <;> omega) (Z ?_)
  refine AP .no (Z ?_)
  refine AN (q.map AB) (by rw [← hv4004c]; simp only [List.map_replicate,go_sem,slD]) (Z ?_)
  refine AS ?_
  replace h:=AJ h; obtain⟨j,k,h⟩:=h
  refine AU (EC _ _ _ k) (Z ?_)
  replace h:=AJ h; obtain⟨b,d,h⟩:=h
  refine caG ⟨[(3000080064,.nils,some 1),(3000080065,.nils,some 1)],[(1001,3000080064),(1002,64064),(1003,3000080065)],[(1,4006,0)],(r5 1501 80064 []),[],true⟩ (LG fuel _ _ _ _ _ _ d) (Z ?_)
  refine AS ?_
  refine BS [false,false,false,false,true,true] (Tr.sq [4,5] .fin) (by kernel_rfl) (Z ?_)
  exact AI trivial h
theorem Qu (a0:Net) (hc:DI a0=some false):AG Tryz.prog 17 [.agg [.ro (a0.agents.map Agent.ds)]] [] [] (.tup [.nilp,.agg [.int .i64 0,.int .i64 0,.nils,.nils],.int .i64 1]) [] [] :=by
 refine agF Tryz.func17 mixed (h:=Z ?_)
 refine AS ?_
 refine AU (JX _ _ hc) (Z ?_)
 refine AS ?_
 refine CK (.done _) [] [] ?_
 simp only [go_sem]
theorem readNet_cases {a0:Net} {v:Reading × Core × Int} (h:Dv a0=some v):DI a0=some true∨(DI a0=some false∧v=(⟨⟨[]⟩,0,0,[],[],[]⟩,⟨0,0,[],[]⟩,1)):=by
 unfold Dv at h
 replace h:=AJ h; obtain⟨b,hb,h⟩:=h
 cases b with
 |true=>exact .inl hb
 |false=>exact .inr ⟨hb,(Option.some.inj h).symm⟩
end Go.Proofs.YtoncbhomocgmcaaGreatDoor.Ab
