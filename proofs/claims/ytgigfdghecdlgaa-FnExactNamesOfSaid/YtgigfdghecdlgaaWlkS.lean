/-
 The functions do what their models say. Printed by wip/ab/gen.py.
-/
import Derived.Test.YtgigfdghecdlgaaModS
import Derived.Test.YtgigfdghecdlgaaTi2
import Derived.Test.YtgigfdghecdlgaaWlkR
namespace Go.Proofs.Ytgigfdghecdlgaa.Ab
set_option linter.unusedVariables false
set_option linter.unusedSimpArgs false
set_option maxRecDepth 20000
set_option maxHeartbeats 4000000
open Go.RowKit
theorem LX (n:Nat):(∀a0 a1 a2 r,DZ n a0 a1 a2=some r→AG Try.prog 40 [.rop [.int .i64 a0.kind,.int .i64 a0.value,.ro (List.map AM a0.data),.ro (List.map Core.ds a0.kids)] 0,.ro (List.map A2 a1),.box 1 0] [] [(1,[.int .i64 a2])] (.agg [.int .i64 r.1.kind,.int .i64 r.1.value,.ro (List.map AM r.1.data),.str r.1.label,.ro (List.map L38T.ds r.1.kids)]) [] [(1,[.int .i64 r.2])])∧
    (∀a0 a1 u w y q r,CG n a0 a1 u w y q=some r→F6 Try.prog Try.f40 [1,1,1,0,1,0] (.agg [.int .i64 r.1.kind,.int .i64 r.1.value,.ro (List.map AM r.1.data),.str r.1.label,.ro (List.map L38T.ds r.1.kids)]) [] [(1,[.int .i64 r.2])] ⟨[(0,.rop [.int .i64 a0.kind,.int .i64 a0.value,.ro (List.map AM a0.data),.ro (List.map Core.ds a0.kids)] 0),(1,.ro (List.map A2 a1)),(2,.box 1 0),(6,.box 1000001500 0),(7,.box 1000001501 0),(8,.int .i64 q)],[(1000001000,some ⟨List.map L38T.dz y,some 5,0,true⟩)],[(1,some [.int .i64 w]),(1000001500,some [.int .i64 0,.int .i64 0,.nils,.str ByteArray.empty,.nils]),(1000001501,some [.int .i64 a0.kind,.int .i64 a0.value,.ro (List.map AM a0.data),.str u,.own 1000001000])]⟩):=by
 induction n with
 |zero=>exact⟨(fun _ _ _ _ h=>by rw [DZ] at h; cases h),(fun _ _ _ _ _ _ _ h=>by rw [CG] at h; cases h)⟩
 | succ n ih=>
  obtain⟨ih0,ih1⟩:=ih
  refine⟨?_,?_⟩
  ·intro a0 a1 a2 r h
   rw [DZ] at h
   refine agF Try.func40 mixed (h:=Z ?_)
   refine AF ?_
   refine CO [false,false,false,false,false,false,false,false,false,false,false,false,false,false,false,false,false,false,false,false,true] (Tr.sq [20] .fin) (by kernel_rfl) (Z ?_)
   replace h:=AH h; obtain⟨u,g,h⟩:=h
   refine AY g rfl (Z ?_)
   refine AF ?_
   refine EU (BM rfl rfl (ih1 a0 a1 u (IntKind.i64.wrap (a2+1)) [] 0 _ h):) (.one ⟨_,.cell 2019 4 2000000000 (some 5) true _ (by simp only [go_sem]; rfl) (by rfl) (by simp only [go_sem]) (.done _),[(1000001000,2000000000)],[(1,1),(1000001500,1000),(1000001501,2019)],?_⟩)
   simp only [go_sem]
   all_goals try rfl
  ·intro a0 a1 u w y q r h
   rw [CG] at h
   refine DH rfl rfl (Z ?_)
   refine A1 (Z ?_)
   refine AD h (fun h=>Z ?_) (fun h=>Z ?_)
   ·refine AF ?_
    replace h:=AH h; obtain⟨j,k,h⟩:=h
    replace h:=AH h; obtain⟨b,d,h⟩:=h
    replace h:=AH h; obtain⟨c,e,h⟩:=h
    refine CO [false,true,false,true,true,true,false,true,false,false,true,true,true,true,true] (.br 1 (Tr.sq [3,4,5,7,10,11,12,13,14] .fin) (.br 3 (Tr.sq [4] (.br 1 (Tr.sq [5,7,10,11,12,13,14] .fin) (.br 5 (Tr.sq [7] (.br 1 (Tr.sq [10,11,12,13,14] .fin) (.br 10 (.br 1 (Tr.sq [11,12,13,14] .fin) (.br 11 (Tr.sq [1,12,13,14] .fin) .stop)) .stop))) .stop))) .stop)) (by kernel_rfl) ?_
    try simp only [go_sem]
    try simp only [go_sem]
    refine Ar ?_ ?_
    ·try simp only [go_sem]
     refine AY k (Core.ds_len _) (Z ?_)
     refine caG ⟨[],[],[(1,1,0)],[],[],true⟩ (ih0 _ _ _ _ d) (Z ?_)
     have hq_:=AO e
     obtain⟨hv7012a,hv7012b⟩:=hq_
     refine BE true (Z ?_)
     refine Ak (by refine⟨?_,?_⟩ <;> (try simp only [List.length_map,List.length_append,List.length_cons,List.length_nil] at*) <;> (try unfold maxLen) <;> omega) (Z ?_)
     refine Ag (List.map L38T.dz c) (by rw [← hv7012b]; simp only [List.map_append,List.map_cons,List.map_nil,List.nil_append,List.append_nil,go_sem,L38T.ds_eq,L38T.dz_eq]) (Z ?_)
     refine AF ?_
     exact lpG (ih1 a0 a1 u b.2 c (IntKind.i64.wrap (q+1)) _ h) [(1000001000,112192)] [(1,1),(1000001500,1000001500),(1000001501,1000001501)]
    ·try simp only [go_sem]
     try simp only [go_sem]
     refine Ar (Z ?_) (Z ?_)
     ·refine AY k (Core.ds_len _) (Z ?_)
      refine caG ⟨[],[],[(1,1,0)],[],[],true⟩ (ih0 _ _ _ _ d) (Z ?_)
      have hq_:=AO e
      obtain⟨hv7012a,hv7012b⟩:=hq_
      refine BE true (Z ?_)
      refine Ak (by refine⟨?_,?_⟩ <;> (try simp only [List.length_map,List.length_append,List.length_cons,List.length_nil] at*) <;> (try unfold maxLen) <;> omega) (Z ?_)
      refine Ag (List.map L38T.dz c) (by rw [← hv7012b]; simp only [List.map_append,List.map_cons,List.map_nil,List.nil_append,List.append_nil,go_sem,L38T.ds_eq,L38T.dz_eq]) (Z ?_)
      refine AF ?_
      exact lpG (ih1 a0 a1 u b.2 c (IntKind.i64.wrap (q+1)) _ h) [(1000001000,112192)] [(1,1),(1000001500,1000001500),(1000001501,1000001501)]
     ·refine AY k (Core.ds_len _) ?_
      try simp only [go_sem]
      try simp only [go_sem]
      refine Ar (Z ?_) (Z ?_)
      ·refine caG ⟨[],[],[(1,1,0)],[],[],true⟩ (ih0 _ _ _ _ d) (Z ?_)
       have hq_:=AO e
       obtain⟨hv7012a,hv7012b⟩:=hq_
       refine BE true (Z ?_)
       refine Ak (by refine⟨?_,?_⟩ <;> (try simp only [List.length_map,List.length_append,List.length_cons,List.length_nil] at*) <;> (try unfold maxLen) <;> omega) (Z ?_)
       refine Ag (List.map L38T.dz c) (by rw [← hv7012b]; simp only [List.map_append,List.map_cons,List.map_nil,List.nil_append,List.append_nil,go_sem,L38T.ds_eq,L38T.dz_eq]) (Z ?_)
       refine AF ?_
       exact lpG (ih1 a0 a1 u b.2 c (IntKind.i64.wrap (q+1)) _ h) [(1000001000,112192)] [(1,1),(1000001500,1000001500),(1000001501,1000001501)]
      ·refine caG ⟨[],[],[(1,1,0)],[],[],true⟩ (ih0 _ _ _ _ d) ?_
       try simp only [go_sem]
       try simp only [go_sem]
       refine Ar (Z ?_) (Z ?_)
       ·have hq_:=AO e
        obtain⟨hv7012a,hv7012b⟩:=hq_
        refine BE true (Z ?_)
        refine Ak (by refine⟨?_,?_⟩ <;> (try simp only [List.length_map,List.length_append,List.length_cons,List.length_nil] at*) <;> (try unfold maxLen) <;> omega) (Z ?_)
        refine Ag (List.map L38T.dz c) (by rw [← hv7012b]; simp only [List.map_append,List.map_cons,List.map_nil,List.nil_append,List.append_nil,go_sem,L38T.ds_eq,L38T.dz_eq]) (Z ?_)
        refine AF ?_
        exact lpG (ih1 a0 a1 u b.2 c (IntKind.i64.wrap (q+1)) _ h) [(1000001000,112192)] [(1,1),(1000001500,1000001500),(1000001501,1000001501)]
       ·have hq_:=AO e
        obtain⟨hv7012a,hv7012b⟩:=hq_
        refine BE true (Z ?_)
        refine Ak (by refine⟨?_,?_⟩ <;> (try simp only [List.length_map,List.length_append,List.length_cons,List.length_nil] at*) <;> (try unfold maxLen) <;> omega) (Z ?_)
        refine Ag (List.map L38T.dz c) (by rw [← hv7012b]; simp only [List.map_append,List.map_cons,List.map_nil,List.nil_append,List.append_nil,go_sem,L38T.ds_eq,L38T.dz_eq]) (Z ?_)
        refine AF ?_
        exact lpG (ih1 a0 a1 u b.2 c (IntKind.i64.wrap (q+1)) _ h) [(1000001000,112192)] [(1,1),(1000001500,1000001500),(1000001501,1000001501)]
   ·refine AF ?_
    cases h
    refine EG (.frzT 1000001000 [(0,[4])] [(1000001500,4),(1000001501,4)] _ _ _ (by (first|rfl|(simp only [go_sem]; rfl))) (by decide) (by (first|rfl|(simp only [go_sem]; rfl))) (by (first|rfl|(simp only [go_sem]; rfl))) (.done _)) [] [(1,1)] ?_
    simp only [go_sem]
    all_goals try rfl
theorem Aj (n:Nat):(∀a0 a1 a2 r,DZ n a0 a1 a2=some r→AG Try.prog 40 [.rop [.int .i64 a0.kind,.int .i64 a0.value,.ro (List.map AM a0.data),.ro (List.map Core.ds a0.kids)] 0,.ro (List.map A2 a1),.box 1 0] [] [(1,[.int .i64 a2])] (.agg [.int .i64 r.1.kind,.int .i64 r.1.value,.ro (List.map AM r.1.data),.str r.1.label,.ro (List.map L38T.ds r.1.kids)]) [] [(1,[.int .i64 r.2])]):=(LX n).1
theorem LY (n:Nat):(∀a0 a1 r,Da n a0 a1=some r→AG Try.prog 41 [.rop [.int .i64 a0.kind,.int .i64 a0.value,.ro (List.map AM a0.data),.str a0.label,.ro (List.map L38T.ds a0.kids)] 0,.box 1 0] [] [(1,[.int .i64 a1])] (.tup [.rop [.int .i64 r.1.kind,.int .i64 r.1.value,.ro (List.map AM r.1.data),.str r.1.label,.ro (List.map L38T.ds r.1.kids)] 0,.bool r.2.1]) [] [(1,[.int .i64 r.2.2])])∧
    (∀a0 u w r,CH n a0 u w=some r→F6 Try.prog Try.f41 [1,1,1,0,1,0] (.tup [.rop [.int .i64 r.1.kind,.int .i64 r.1.value,.ro (List.map AM r.1.data),.str r.1.label,.ro (List.map L38T.ds r.1.kids)] 0,.bool r.2.1]) [] [(1,[.int .i64 r.2.2])] ⟨[(0,.rop [.int .i64 a0.kind,.int .i64 a0.value,.ro (List.map AM a0.data),.str a0.label,.ro (List.map L38T.ds a0.kids)] 0),(1,.box 1 0),(6,.int .i64 w)],[],[(1,some [.int .i64 u])]⟩):=by
 induction n with
 |zero=>exact⟨(fun _ _ _ h=>by rw [Da] at h; cases h),(fun _ _ _ _ h=>by rw [CH] at h; cases h)⟩
 | succ n ih=>
  obtain⟨ih0,ih1⟩:=ih
  refine⟨?_,?_⟩
  ·intro a0 a1 r h
   rw [Da] at h
   refine agF Try.func41 mixed (h:=Z ?_)
   refine AD h (fun h=>Z ?_) (fun h=>Z ?_)
   ·cases h
    refine EG (.done _) [] [(1,1)] ?_
    simp only [go_sem]
   ·refine AF ?_
    exact loG (ih1 a0 (IntKind.i64.wrap (a1 - 1)) 0 _ h) [] [(1,1)]
  ·intro a0 u w r h
   rw [CH] at h
   refine DH rfl rfl (Z ?_)
   refine A1 (Z ?_)
   refine AD h (fun h=>Z ?_) (fun h=>Z ?_)
   ·refine AF ?_
    replace h:=AH h; obtain⟨y,q,h⟩:=h
    refine AY q (L38T.ds_len _) (Z ?_)
    replace h:=AH h; obtain⟨g,j,h⟩:=h
    refine caG ⟨[],[],[(1,1,0)],[],[],true⟩ (ih0 _ _ _ j) (Z ?_)
    refine AF ?_
    refine AD h (fun h=>Z ?_) (fun h=>Z ?_)
    ·cases h
     refine EG (.done _) [] [(1,1)] ?_
     simp only [go_sem]
    ·refine AF ?_
     exact lpG (ih1 a0 g.2.2 (IntKind.i64.wrap (w+1)) _ h) [] [(1,1)]
   ·refine AF ?_
    cases h
    refine EG (.done _) [] [(1,1)] ?_
    simp only [go_sem]
theorem M1 (n:Nat):(∀a0 a1 r,Da n a0 a1=some r→AG Try.prog 41 [.rop [.int .i64 a0.kind,.int .i64 a0.value,.ro (List.map AM a0.data),.str a0.label,.ro (List.map L38T.ds a0.kids)] 0,.box 1 0] [] [(1,[.int .i64 a1])] (.tup [.rop [.int .i64 r.1.kind,.int .i64 r.1.value,.ro (List.map AM r.1.data),.str r.1.label,.ro (List.map L38T.ds r.1.kids)] 0,.bool r.2.1]) [] [(1,[.int .i64 r.2.2])]):=(LY n).1
theorem Ad (a1:Int) (u:L38T × Int) (r:L38T × Bool) (h:F7 a1 u=some r):F6 Try.prog Try.f19 [1,1,1,1] (.tup [.rop [.int .i64 r.1.kind,.int .i64 r.1.value,.ro (List.map AM r.1.data),.str r.1.label,.ro (List.map L38T.ds r.1.kids)] 0,.bool r.2]) [] [] ⟨[(3,.box 1000000500 0),(7,.rop [.int .i64 u.1.kind,.int .i64 u.1.value,.ro (List.map AM u.1.data),.str u.1.label,.ro (List.map L38T.ds u.1.kids)] 0)],[],[(1000000500,some [.int .i64 a1])]⟩:=by
 unfold F7 at h
 refine DH rfl rfl (Z ?_)
 replace h:=AH h; obtain⟨w,y,h⟩:=h
 refine caG ⟨[],[],[(1,1000000500,0)],[],[],true⟩ (M1 fuel _ _ _ y) (Z ?_)
 refine AF ?_
 cases h
 refine EG (.done _) [] [] ?_
 simp only [go_sem]
theorem Pb (a0 a1 r) (h:IU a0 a1=some r):AG Try.prog 19 [.rop [.int .i64 a0.term.kind,.int .i64 a0.term.value,.ro (List.map AM a0.term.data),.ro (List.map Core.ds a0.term.kids),.ro (List.map A2 a0.labels)] 0,.int .i64 a1] [] [] (.tup [.rop [.int .i64 r.1.kind,.int .i64 r.1.value,.ro (List.map AM r.1.data),.str r.1.label,.ro (List.map L38T.ds r.1.kids)] 0,.bool r.2]) [] [] :=by
 unfold IU at h
 refine agF Try.func19 mixed (h:=Z ?_)
 refine CO [] .fin (by kernel_rfl) (Z ?_)
 replace h:=AH h; obtain⟨u,w,h⟩:=h
 refine AK (Cb _ _ _ _ w) (Z ?_)
 refine AF ?_
 refine AD h (fun h=>Z ?_) (fun h=>Z ?_)
 ·cases h
  refine EG (.frzB 3001 [(0,[0])] [] _ _ _ (by (first|rfl|(simp only [go_sem]; rfl))) (by decide) (by rfl) (by (first|rfl|(simp only [go_sem]; rfl))) (by (first|rfl|(simp only [go_sem]; rfl))) (.done _)) [] [] ?_
  simp only [go_sem]
  all_goals try rfl
 ·refine AF ?_
  refine AF ?_
  replace h:=AH h; obtain⟨y,q,h⟩:=h
  refine CO [false,true,true,false,true,true,true,true,true,true] (.br 1 (Tr.sq [2] (.br 4 (Tr.sq [5] (.br 6 (.br 7 (Tr.sq [8,9] .fin) (.br 8 (Tr.sq [7,9] .fin) .stop)) (.br 8 (Tr.sq [6,7,9] .fin) .stop))) (.br 8 (Tr.sq [4,5,6,7,9] .fin) .stop))) (.br 4 (Tr.sq [5] (.br 1 (Tr.sq [2] (.br 6 (.br 7 (Tr.sq [8,9] .fin) (.br 8 (Tr.sq [7,9] .fin) .stop)) (.br 8 (Tr.sq [6,7,9] .fin) .stop))) (.br 6 (.br 1 (Tr.sq [2] (.br 7 (Tr.sq [8,9] .fin) (.br 8 (Tr.sq [7,9] .fin) .stop))) (.br 8 (Tr.sq [1,2,7,9] .fin) .stop)) (.br 8 (.br 1 (Tr.sq [2,6,7,9] .fin) (.br 6 (Tr.sq [1,2,7,9] .fin) .stop)) .stop)))) (.br 8 (.br 1 (Tr.sq [2,4,5,6,7,9] .fin) (.br 4 (Tr.sq [5] (.br 1 (Tr.sq [2,6,7,9] .fin) (.br 6 (Tr.sq [1,2,7,9] .fin) .stop))) .stop)) .stop))) (by kernel_rfl) ?_
  try simp only [go_sem]
  try simp only [go_sem]
  refine Ar ?_ ?_
  ·try simp only [go_sem]
   try simp only [go_sem]
   refine Ar ?_ ?_
   ·try simp only [go_sem]
    try simp only [go_sem]
    refine Ar ?_ ?_
    ·try simp only [go_sem]
     try simp only [go_sem]
     refine Ar (Z ?_) (Z ?_)
     ·refine caG ⟨[],[],[(1,4000,0)],[],[],true⟩ (Aj fuel _ _ _ _ q) (Z ?_)
      refine Cr (BM rfl rfl (Ad a1 y _ h):) (.one ⟨_,.frzB 5008 [(7,[])] [] _ _ _ (by (first|rfl|(simp only [go_sem]; rfl))) (by decide) (by rfl) (by (first|rfl|(simp only [go_sem]; rfl))) (by (first|rfl|(simp only [go_sem]; rfl))) (.done _),[],[(1000000500,1000)],?_⟩)
      simp only [go_sem]
      all_goals try rfl
     ·refine caG ⟨[],[],[(1,4000,0)],[],[],true⟩ (Aj fuel _ _ _ _ q) (Z ?_)
      refine Cr (BM rfl rfl (Ad a1 y _ h):) (.one ⟨_,.frzB 5008 [(7,[])] [] _ _ _ (by (first|rfl|(simp only [go_sem]; rfl))) (by decide) (by rfl) (by (first|rfl|(simp only [go_sem]; rfl))) (by (first|rfl|(simp only [go_sem]; rfl))) (.done _),[],[(1000000500,1000)],?_⟩)
      simp only [go_sem]
      all_goals try rfl
    ·try simp only [go_sem]
     refine caG ⟨[],[],[(1,4000,0)],[],[],true⟩ (Aj fuel _ _ _ _ q) (Z ?_)
     refine Cr (BM rfl rfl (Ad a1 y _ h):) (.one ⟨_,.frzB 5008 [(7,[])] [] _ _ _ (by (first|rfl|(simp only [go_sem]; rfl))) (by decide) (by rfl) (by (first|rfl|(simp only [go_sem]; rfl))) (by (first|rfl|(simp only [go_sem]; rfl))) (.done _),[],[(1000000500,1000)],?_⟩)
     simp only [go_sem]
     all_goals try rfl
   ·try simp only [go_sem]
    refine caG ⟨[],[],[(1,4000,0)],[],[],true⟩ (Aj fuel _ _ _ _ q) (Z ?_)
    refine Cr (BM rfl rfl (Ad a1 y _ h):) (.one ⟨_,.frzB 5008 [(7,[])] [] _ _ _ (by (first|rfl|(simp only [go_sem]; rfl))) (by decide) (by rfl) (by (first|rfl|(simp only [go_sem]; rfl))) (by (first|rfl|(simp only [go_sem]; rfl))) (.done _),[],[(1000000500,1000)],?_⟩)
    simp only [go_sem]
    all_goals try rfl
  ·try simp only [go_sem]
   refine Ar ?_ ?_
   ·try simp only [go_sem]
    try simp only [go_sem]
    refine Ar ?_ ?_
    ·try simp only [go_sem]
     try simp only [go_sem]
     refine Ar ?_ ?_
     ·try simp only [go_sem]
      try simp only [go_sem]
      refine Ar (Z ?_) (Z ?_)
      ·refine caG ⟨[],[],[(1,4000,0)],[],[],true⟩ (Aj fuel _ _ _ _ q) (Z ?_)
       refine Cr (BM rfl rfl (Ad a1 y _ h):) (.one ⟨_,.frzB 5008 [(7,[])] [] _ _ _ (by (first|rfl|(simp only [go_sem]; rfl))) (by decide) (by rfl) (by (first|rfl|(simp only [go_sem]; rfl))) (by (first|rfl|(simp only [go_sem]; rfl))) (.done _),[],[(1000000500,1000)],?_⟩)
       simp only [go_sem]
       all_goals try rfl
      ·refine caG ⟨[],[],[(1,4000,0)],[],[],true⟩ (Aj fuel _ _ _ _ q) (Z ?_)
       refine Cr (BM rfl rfl (Ad a1 y _ h):) (.one ⟨_,.frzB 5008 [(7,[])] [] _ _ _ (by (first|rfl|(simp only [go_sem]; rfl))) (by decide) (by rfl) (by (first|rfl|(simp only [go_sem]; rfl))) (by (first|rfl|(simp only [go_sem]; rfl))) (.done _),[],[(1000000500,1000)],?_⟩)
       simp only [go_sem]
       all_goals try rfl
     ·try simp only [go_sem]
      refine caG ⟨[],[],[(1,4000,0)],[],[],true⟩ (Aj fuel _ _ _ _ q) (Z ?_)
      refine Cr (BM rfl rfl (Ad a1 y _ h):) (.one ⟨_,.frzB 5008 [(7,[])] [] _ _ _ (by (first|rfl|(simp only [go_sem]; rfl))) (by decide) (by rfl) (by (first|rfl|(simp only [go_sem]; rfl))) (by (first|rfl|(simp only [go_sem]; rfl))) (.done _),[],[(1000000500,1000)],?_⟩)
      simp only [go_sem]
      all_goals try rfl
    ·try simp only [go_sem]
     refine Ar ?_ ?_
     ·try simp only [go_sem]
      try simp only [go_sem]
      refine Ar ?_ ?_
      ·try simp only [go_sem]
       try simp only [go_sem]
       refine Ar (Z ?_) (Z ?_)
       ·refine caG ⟨[],[],[(1,4000,0)],[],[],true⟩ (Aj fuel _ _ _ _ q) (Z ?_)
        refine Cr (BM rfl rfl (Ad a1 y _ h):) (.one ⟨_,.frzB 5008 [(7,[])] [] _ _ _ (by (first|rfl|(simp only [go_sem]; rfl))) (by decide) (by rfl) (by (first|rfl|(simp only [go_sem]; rfl))) (by (first|rfl|(simp only [go_sem]; rfl))) (.done _),[],[(1000000500,1000)],?_⟩)
        simp only [go_sem]
        all_goals try rfl
       ·refine caG ⟨[],[],[(1,4000,0)],[],[],true⟩ (Aj fuel _ _ _ _ q) (Z ?_)
        refine Cr (BM rfl rfl (Ad a1 y _ h):) (.one ⟨_,.frzB 5008 [(7,[])] [] _ _ _ (by (first|rfl|(simp only [go_sem]; rfl))) (by decide) (by rfl) (by (first|rfl|(simp only [go_sem]; rfl))) (by (first|rfl|(simp only [go_sem]; rfl))) (.done _),[],[(1000000500,1000)],?_⟩)
        simp only [go_sem]
        all_goals try rfl
      ·try simp only [go_sem]
       refine caG ⟨[],[],[(1,4000,0)],[],[],true⟩ (Aj fuel _ _ _ _ q) (Z ?_)
       refine Cr (BM rfl rfl (Ad a1 y _ h):) (.one ⟨_,.frzB 5008 [(7,[])] [] _ _ _ (by (first|rfl|(simp only [go_sem]; rfl))) (by decide) (by rfl) (by (first|rfl|(simp only [go_sem]; rfl))) (by (first|rfl|(simp only [go_sem]; rfl))) (.done _),[],[(1000000500,1000)],?_⟩)
       simp only [go_sem]
       all_goals try rfl
     ·try simp only [go_sem]
      try simp only [go_sem]
      refine Ar (Z ?_) (Z ?_)
      ·refine caG ⟨[],[],[(1,4000,0)],[],[],true⟩ (Aj fuel _ _ _ _ q) (Z ?_)
       refine Cr (BM rfl rfl (Ad a1 y _ h):) (.one ⟨_,.frzB 5008 [(7,[])] [] _ _ _ (by (first|rfl|(simp only [go_sem]; rfl))) (by decide) (by rfl) (by (first|rfl|(simp only [go_sem]; rfl))) (by (first|rfl|(simp only [go_sem]; rfl))) (.done _),[],[(1000000500,1000)],?_⟩)
       simp only [go_sem]
       all_goals try rfl
      ·refine caG ⟨[],[],[(1,4000,0)],[],[],true⟩ (Aj fuel _ _ _ _ q) (Z ?_)
       refine Cr (BM rfl rfl (Ad a1 y _ h):) (.one ⟨_,.frzB 5008 [(7,[])] [] _ _ _ (by (first|rfl|(simp only [go_sem]; rfl))) (by decide) (by rfl) (by (first|rfl|(simp only [go_sem]; rfl))) (by (first|rfl|(simp only [go_sem]; rfl))) (.done _),[],[(1000000500,1000)],?_⟩)
       simp only [go_sem]
       all_goals try rfl
   ·try simp only [go_sem]
    try simp only [go_sem]
    refine Ar ?_ ?_
    ·try simp only [go_sem]
     refine caG ⟨[],[],[(1,4000,0)],[],[],true⟩ (Aj fuel _ _ _ _ q) (Z ?_)
     refine Cr (BM rfl rfl (Ad a1 y _ h):) (.one ⟨_,.frzB 5008 [(7,[])] [] _ _ _ (by (first|rfl|(simp only [go_sem]; rfl))) (by decide) (by rfl) (by (first|rfl|(simp only [go_sem]; rfl))) (by (first|rfl|(simp only [go_sem]; rfl))) (.done _),[],[(1000000500,1000)],?_⟩)
     simp only [go_sem]
     all_goals try rfl
    ·try simp only [go_sem]
     try simp only [go_sem]
     refine Ar (Z ?_) (Z ?_)
     ·refine caG ⟨[],[],[(1,4000,0)],[],[],true⟩ (Aj fuel _ _ _ _ q) (Z ?_)
      refine Cr (BM rfl rfl (Ad a1 y _ h):) (.one ⟨_,.frzB 5008 [(7,[])] [] _ _ _ (by (first|rfl|(simp only [go_sem]; rfl))) (by decide) (by rfl) (by (first|rfl|(simp only [go_sem]; rfl))) (by (first|rfl|(simp only [go_sem]; rfl))) (.done _),[],[(1000000500,1000)],?_⟩)
      simp only [go_sem]
      all_goals try rfl
     ·refine caG ⟨[],[],[(1,4000,0)],[],[],true⟩ (Aj fuel _ _ _ _ q) (Z ?_)
      refine Cr (BM rfl rfl (Ad a1 y _ h):) (.one ⟨_,.frzB 5008 [(7,[])] [] _ _ _ (by (first|rfl|(simp only [go_sem]; rfl))) (by decide) (by rfl) (by (first|rfl|(simp only [go_sem]; rfl))) (by (first|rfl|(simp only [go_sem]; rfl))) (.done _),[],[(1000000500,1000)],?_⟩)
      simp only [go_sem]
      all_goals try rfl
theorem GI (a0:Core) (u:Bool) (r:Int) (h:Do a0 u=some r):BY Try.prog Try.f42 [1,0,1,0,1,1,1,1,1,0,0,1] (.int .i64 r) ⟨[(0,.rop [.int .i64 a0.kind,.int .i64 a0.value,.ro (List.map AM a0.data),.ro (List.map Core.ds a0.kids)] 0),(73,.bool u)],[],[]⟩:=by
 unfold Do at h
 refine AR rfl rfl (Z ?_)
 refine AD h (fun h=>Z ?_) (fun h=>Z ?_)
 ·cases h
  simp only [go_sem]
 ·refine AF ?_
  replace h:=AH h; obtain⟨w,y,h⟩:=h
  refine AY y (Core.ds_len _) (Z ?_)
  refine AD h (fun h=>Z ?_) (fun h=>Z ?_)
  ·cases h
   simp only [go_sem]
  ·refine AF ?_
   cases h
   simp only [go_sem]
theorem My (a0 r) (h:Fj a0=some r):AC Try.prog 42 [.rop (Core.avs a0) 0] (.int .i64 r):=by
 unfold Fj at h
 refine acF Try.func42 mixed (h:=Z ?_)
 refine AD h (fun h=>Z ?_) (fun h=>Z ?_)
 ·replace h:=AH h; obtain⟨u,w,h⟩:=h
  refine AY w (Core.ds_len _) (Z ?_)
  refine AD h (fun h=>Z ?_) (fun h=>Z ?_)
  ·cases h
   simp only [go_sem]
  ·refine AD h (fun h=>Z ?_) (fun h=>Z ?_)
   ·cases h
    simp only [go_sem]
   ·refine AF ?_
    cases h
    simp only [go_sem]
 ·refine AD h (fun h=>Z ?_) (fun h=>Z ?_)
  ·replace h:=AH h; obtain⟨y,q,h⟩:=h
   refine AY q (Core.ds_len _) (Z ?_)
   refine AD h (fun h=>Z ?_) (fun h=>Z ?_)
   ·cases h
    simp only [go_sem]
   ·refine AF ?_
    replace h:=AH h; obtain⟨g,j,h⟩:=h
    refine AY j (Core.ds_len _) (Z ?_)
    refine AD h (fun h=>Z ?_) (fun h=>Z ?_)
    ·replace h:=AH h; obtain⟨k,b,h⟩:=h
     refine AY b (Core.ds_len _) (Z ?_)
     refine AD h (fun h=>Z ?_) (fun h=>Z ?_)
     ·cases h
      simp only [go_sem]
     ·refine AD h (fun h=>Z ?_) (fun h=>Z ?_)
      ·cases h
       simp only [go_sem]
      ·refine AF ?_
       cases h
       simp only [go_sem]
    ·refine AF ?_
     cases h
     simp only [go_sem]
  ·refine AD h (fun h=>Z ?_) (fun h=>Z ?_)
   ·refine CO [] .fin (by kernel_rfl) (Z ?_)
    replace h:=AH h; obtain⟨d,c,h⟩:=h
    refine AY c (Core.ds_len _) (Z ?_)
    refine AD h (fun h=>Z ?_) (fun h=>Z ?_)
    ·replace h:=AH h; obtain⟨e,i,h⟩:=h
     refine AY i (Core.ds_len _) (Z ?_)
     exact A4 (GI a0 (decide (e.value<((List.length a0.data:Nat):Int))) _ h) [] []
    ·exact A4 (GI a0 false _ h) [] []
   ·refine AD h (fun h=>Z ?_) (fun h=>Z ?_)
    ·replace h:=AH h; obtain⟨l,t,h⟩:=h
     refine AY t (Core.ds_len _) (Z ?_)
     refine AD h (fun h=>Z ?_) (fun h=>Z ?_)
     ·cases h
      simp only [go_sem]
     ·refine AD h (fun h=>Z ?_) (fun h=>Z ?_)
      ·cases h
       simp only [go_sem]
      ·refine AF ?_
       cases h
       simp only [go_sem]
    ·refine AF ?_
     cases h
     simp only [go_sem]
theorem GJ (a0:L38T) (u:Bool) (r:ByteArray) (h:C6 a0 u=some r):BY Try.prog Try.f21 [1,0,1] (.str r) ⟨[(0,.rop [.int .i64 a0.kind,.int .i64 a0.value,.ro (List.map AM a0.data),.str a0.label,.ro (List.map L38T.ds a0.kids)] 0),(17,.bool u)],[],[]⟩:=by
 unfold C6 at h
 refine AR rfl rfl (Z ?_)
 refine AD h (fun h=>Z ?_) (fun h=>Z ?_)
 ·refine CO [] .fin (by kernel_rfl) (Z ?_)
  replace h:=AH h; obtain⟨w,y,h⟩:=h
  refine AY y (L38T.ds_len _) (Z ?_)
  replace h:=AH h; obtain⟨q,g,h⟩:=h
  have hq_:=Ec g
  obtain⟨hv3007a,hv3007b⟩:=hq_
  refine Ak hv3007a ?_
  rw [hv3007b]
  try simp only [go_sem]
  replace h:=AH h; obtain⟨j,k,h⟩:=h
  refine AY k (L38T.ds_len _) (Z ?_)
  replace h:=AH h; obtain⟨b,d,h⟩:=h
  have hq_:=Ec d
  obtain⟨hv3015a,hv3015b⟩:=hq_
  refine Ak hv3015a ?_
  rw [hv3015b]
  try simp only [go_sem]
  refine AF ?_
  cases h
  simp only [go_sem]
 ·refine AF ?_
  replace h:=AH h; obtain⟨c,e,h⟩:=h
  refine AY e (L38T.ds_len _) (Z ?_)
  cases h
  simp only [go_sem]
theorem Mz (a0 r) (h:Eg a0=some r):AC Try.prog 21 [.rop (L38T.avs a0) 0] (.str r):=by
 unfold Eg at h
 refine acF Try.func21 mixed (h:=Z ?_)
 refine AD h (fun h=>Z ?_) (fun h=>Z ?_)
 ·replace h:=AH h; obtain⟨u,w,h⟩:=h
  refine AY w (L38T.ds_len _) (Z ?_)
  exact A4 (GJ a0 (decide (u.kind=2)) _ h) [] []
 ·exact A4 (GJ a0 false _ h) [] []
end Go.Proofs.Ytgigfdghecdlgaa.Ab
