/-
 The functions do what their models say. Printed by wip/ab/gen.py.
-/
import Derived.Test.YtgigfdghecdlgaaModT
import Derived.Test.YtgigfdghecdlgaaTi2
import Derived.Test.YtgigfdghecdlgaaWlk
namespace Go.Proofs.Ytgigfdghecdlgaa.Ab
set_option linter.unusedVariables false
set_option linter.unusedSimpArgs false
set_option maxRecDepth 20000
set_option maxHeartbeats 4000000
open Go.RowKit
theorem HP (n:Nat):(∀a0 a1 a2 r,BK n a0 a1 a2=some r→AG Try.prog 51 [.agg [.int .i64 a0.term.kind,.int .i64 a0.term.value,.ro (List.map AM a0.term.data),.ro (List.map Core.ds a0.term.kids),.ro (List.map A2 a0.labels)],.agg [.int .i64 a1.kind,.int .i64 a1.value,.ro (List.map AM a1.data),.ro (List.map Core.ds a1.kids)],.box 1 0] [] [(1,[.int .i64 a2])] (.rop [.int .i64 r.1.core.kind,.int .i64 r.1.core.value,.ro (List.map AM r.1.core.data),.ro (List.map Core.ds r.1.core.kids),.str r.1.label,.int .i64 r.1.att,.ro (List.map (pD LabelNode.ds) r.1.kids)] 0) [] [(1,[.int .i64 r.2])])∧
    (∀a0 a1 a2 u w y q r,Au n a0 a1 a2 u w y q=some r→F6 Try.prog Try.f51 [1,1,1,0,1,0] (.rop [.int .i64 r.1.core.kind,.int .i64 r.1.core.value,.ro (List.map AM r.1.core.data),.ro (List.map Core.ds r.1.core.kids),.str r.1.label,.int .i64 r.1.att,.ro (List.map (pD LabelNode.ds) r.1.kids)] 0) [] [(1,[.int .i64 r.2])] ⟨[(2,.box 1 0),(3,.box 1000001500 0),(7,.box 1000001501 0),(29,.ro (List.map Core.ds a1.kids)),(30,.int .i64 ((List.length a1.kids:Nat):Int)),(31,.int .i64 q)],[(1000001000,some ⟨List.map (pD LabelNode.ds) y,some 1,0,true⟩)],[(1,some [.int .i64 w]),(1000001500,some [.int .i64 a0.term.kind,.int .i64 a0.term.value,.ro (List.map AM a0.term.data),.ro (List.map Core.ds a0.term.kids),.ro (List.map A2 a0.labels)]),(1000001501,some [.int .i64 a1.kind,.int .i64 a1.value,.ro (List.map AM a1.data),.ro (List.map Core.ds a1.kids),.str u,.int .i64 a2,.own 1000001000])]⟩):=by
 induction n with
 |zero=>exact⟨(fun _ _ _ _ h=>by rw [BK] at h; cases h),(fun _ _ _ _ _ _ _ _ h=>by rw [Au] at h; cases h)⟩
 | succ n ih=>
  obtain⟨ih0,ih1⟩:=ih
  refine⟨?_,?_⟩
  ·intro a0 a1 a2 r h
   rw [BK] at h
   refine agF Try.func51 mixed (h:=Z ?_)
   refine CO [] .fin (by kernel_rfl) (Z ?_)
   replace h:=AH h; obtain⟨u,g,h⟩:=h
   refine AY g rfl (Z ?_)
   refine AF ?_
   refine EU (BM rfl rfl (ih1 a0 a1 a2 u (IntKind.i64.wrap (a2+1)) [] 0 _ h):) (.one ⟨_,.cell 2012 6 2000000000 (some 1) true _ (by simp only [go_sem]; rfl) (by rfl) (by simp only [go_sem]) (.done _),[(1000001000,2000000000)],[(1,1),(1000001500,1000),(1000001501,2012)],?_⟩)
   simp only [go_sem]
   all_goals try rfl
  ·intro a0 a1 a2 u w y q r h
   rw [Au] at h
   refine DH rfl rfl (Z ?_)
   refine A1 (Z ?_)
   refine AD h (fun h=>Z ?_) (fun h=>Z ?_)
   ·refine AF ?_
    replace h:=AH h; obtain⟨j,k,h⟩:=h
    refine AY k (Core.ds_len _) (Z ?_)
    refine AF ?_
    replace h:=AH h; obtain⟨b,d,h⟩:=h
    replace h:=AH h; obtain⟨c,e,h⟩:=h
    refine CO [false,false,true,true,true,true,true,false,true,true,true,true,true,true] (.br 2 (Tr.sq [3] (.br 4 (.br 5 (Tr.sq [6,8,9,10,11,12,13] .fin) (.br 6 (Tr.sq [5,8,9,10,11,12,13] .fin) .stop)) (.br 5 (.br 4 (Tr.sq [6,8,9,10,11,12,13] .fin) (.br 6 (.br 4 (Tr.sq [8,9,10,11,12,13] .fin) (.br 8 (.br 4 (Tr.sq [9,10,11,12,13] .fin) (.br 9 (Tr.sq [4,10,11,12,13] .fin) .stop)) .stop)) .stop)) (.br 6 (.br 4 (Tr.sq [5,8,9,10,11,12,13] .fin) (.br 5 (.br 4 (Tr.sq [8,9,10,11,12,13] .fin) (.br 8 (.br 4 (Tr.sq [9,10,11,12,13] .fin) (.br 9 (Tr.sq [4,10,11,12,13] .fin) .stop)) .stop)) .stop)) .stop)))) (.br 5 (.br 2 (Tr.sq [3] (.br 4 (Tr.sq [6,8,9,10,11,12,13] .fin) (.br 6 (.br 4 (Tr.sq [8,9,10,11,12,13] .fin) (.br 8 (.br 4 (Tr.sq [9,10,11,12,13] .fin) (.br 9 (Tr.sq [4,10,11,12,13] .fin) .stop)) .stop)) .stop))) (.br 6 (.br 2 (Tr.sq [3] (.br 4 (Tr.sq [8,9,10,11,12,13] .fin) (.br 8 (.br 4 (Tr.sq [9,10,11,12,13] .fin) (.br 9 (Tr.sq [4,10,11,12,13] .fin) .stop)) .stop))) (.br 8 (.br 2 (Tr.sq [3] (.br 4 (Tr.sq [9,10,11,12,13] .fin) (.br 9 (Tr.sq [4,10,11,12,13] .fin) .stop))) (.br 9 (Tr.sq [2,3,4,10,11,12,13] .fin) .stop)) .stop)) .stop)) (.br 6 (.br 2 (Tr.sq [3] (.br 4 (Tr.sq [5,8,9,10,11,12,13] .fin) (.br 5 (.br 4 (Tr.sq [8,9,10,11,12,13] .fin) (.br 8 (.br 4 (Tr.sq [9,10,11,12,13] .fin) (.br 9 (Tr.sq [4,10,11,12,13] .fin) .stop)) .stop)) .stop))) (.br 5 (.br 2 (Tr.sq [3] (.br 4 (Tr.sq [8,9,10,11,12,13] .fin) (.br 8 (.br 4 (Tr.sq [9,10,11,12,13] .fin) (.br 9 (Tr.sq [4,10,11,12,13] .fin) .stop)) .stop))) (.br 8 (.br 2 (Tr.sq [3] (.br 4 (Tr.sq [9,10,11,12,13] .fin) (.br 9 (Tr.sq [4,10,11,12,13] .fin) .stop))) (.br 9 (Tr.sq [2,3,4,10,11,12,13] .fin) .stop)) .stop)) .stop)) .stop))) (by kernel_rfl) ?_
    try simp only [go_sem]
    try simp only [go_sem]
    refine Ar ?_ ?_
    ·try simp only [go_sem]
     try simp only [go_sem]
     refine Ar ?_ ?_
     ·try simp only [go_sem]
      try simp only [go_sem]
      refine Ar (Z ?_) (Z ?_)
      ·refine caG ⟨[],[],[(1,1,0)],[],[],true⟩ (ih0 _ _ _ _ d) (Z ?_)
       have hq_:=AO e
       obtain⟨hv7010a,hv7010b⟩:=hq_
       refine BE true (Z ?_)
       refine Ak (by refine⟨?_,?_⟩ <;> (try simp only [List.length_map,List.length_append,List.length_cons,List.length_nil] at*) <;> (try unfold maxLen) <;> omega) (Z ?_)
       refine Ag (List.map (pD LabelNode.ds) c) (by rw [← hv7010b]; simp only [List.map_append,List.map_cons,List.map_nil,List.nil_append,List.append_nil,go_sem,pD,LabelNode.ds_eq]) (Z ?_)
       refine AF ?_
       exact lpG (ih1 a0 a1 a2 u b.2 c (IntKind.i64.wrap (q+1)) _ h) [(1000001000,112160)] [(1,1),(1000001500,1000001500),(1000001501,1000001501)]
      ·refine caG ⟨[],[],[(1,1,0)],[],[],true⟩ (ih0 _ _ _ _ d) (Z ?_)
       have hq_:=AO e
       obtain⟨hv7010a,hv7010b⟩:=hq_
       refine BE true (Z ?_)
       refine Ak (by refine⟨?_,?_⟩ <;> (try simp only [List.length_map,List.length_append,List.length_cons,List.length_nil] at*) <;> (try unfold maxLen) <;> omega) (Z ?_)
       refine Ag (List.map (pD LabelNode.ds) c) (by rw [← hv7010b]; simp only [List.map_append,List.map_cons,List.map_nil,List.nil_append,List.append_nil,go_sem,pD,LabelNode.ds_eq]) (Z ?_)
       refine AF ?_
       exact lpG (ih1 a0 a1 a2 u b.2 c (IntKind.i64.wrap (q+1)) _ h) [(1000001000,112160)] [(1,1),(1000001500,1000001500),(1000001501,1000001501)]
     ·try simp only [go_sem]
      refine Ar ?_ ?_
      ·try simp only [go_sem]
       try simp only [go_sem]
       refine Ar ?_ ?_
       ·try simp only [go_sem]
        refine caG ⟨[],[],[(1,1,0)],[],[],true⟩ (ih0 _ _ _ _ d) (Z ?_)
        have hq_:=AO e
        obtain⟨hv7010a,hv7010b⟩:=hq_
        refine BE true (Z ?_)
        refine Ak (by refine⟨?_,?_⟩ <;> (try simp only [List.length_map,List.length_append,List.length_cons,List.length_nil] at*) <;> (try unfold maxLen) <;> omega) (Z ?_)
        refine Ag (List.map (pD LabelNode.ds) c) (by rw [← hv7010b]; simp only [List.map_append,List.map_cons,List.map_nil,List.nil_append,List.append_nil,go_sem,pD,LabelNode.ds_eq]) (Z ?_)
        refine AF ?_
        exact lpG (ih1 a0 a1 a2 u b.2 c (IntKind.i64.wrap (q+1)) _ h) [(1000001000,112160)] [(1,1),(1000001500,1000001500),(1000001501,1000001501)]
       ·try simp only [go_sem]
        try simp only [go_sem]
        refine Ar (Z ?_) (Z ?_)
        ·refine caG ⟨[],[],[(1,1,0)],[],[],true⟩ (ih0 _ _ _ _ d) (Z ?_)
         have hq_:=AO e
         obtain⟨hv7010a,hv7010b⟩:=hq_
         refine BE true (Z ?_)
         refine Ak (by refine⟨?_,?_⟩ <;> (try simp only [List.length_map,List.length_append,List.length_cons,List.length_nil] at*) <;> (try unfold maxLen) <;> omega) (Z ?_)
         refine Ag (List.map (pD LabelNode.ds) c) (by rw [← hv7010b]; simp only [List.map_append,List.map_cons,List.map_nil,List.nil_append,List.append_nil,go_sem,pD,LabelNode.ds_eq]) (Z ?_)
         refine AF ?_
         exact lpG (ih1 a0 a1 a2 u b.2 c (IntKind.i64.wrap (q+1)) _ h) [(1000001000,112160)] [(1,1),(1000001500,1000001500),(1000001501,1000001501)]
        ·refine caG ⟨[],[],[(1,1,0)],[],[],true⟩ (ih0 _ _ _ _ d) ?_
         try simp only [go_sem]
         try simp only [go_sem]
         refine Ar (Z ?_) (Z ?_)
         ·have hq_:=AO e
          obtain⟨hv7010a,hv7010b⟩:=hq_
          refine BE true (Z ?_)
          refine Ak (by refine⟨?_,?_⟩ <;> (try simp only [List.length_map,List.length_append,List.length_cons,List.length_nil] at*) <;> (try unfold maxLen) <;> omega) (Z ?_)
          refine Ag (List.map (pD LabelNode.ds) c) (by rw [← hv7010b]; simp only [List.map_append,List.map_cons,List.map_nil,List.nil_append,List.append_nil,go_sem,pD,LabelNode.ds_eq]) (Z ?_)
          refine AF ?_
          exact lpG (ih1 a0 a1 a2 u b.2 c (IntKind.i64.wrap (q+1)) _ h) [(1000001000,112160)] [(1,1),(1000001500,1000001500),(1000001501,1000001501)]
         ·have hq_:=AO e
          obtain⟨hv7010a,hv7010b⟩:=hq_
          refine BE true (Z ?_)
          refine Ak (by refine⟨?_,?_⟩ <;> (try simp only [List.length_map,List.length_append,List.length_cons,List.length_nil] at*) <;> (try unfold maxLen) <;> omega) (Z ?_)
          refine Ag (List.map (pD LabelNode.ds) c) (by rw [← hv7010b]; simp only [List.map_append,List.map_cons,List.map_nil,List.nil_append,List.append_nil,go_sem,pD,LabelNode.ds_eq]) (Z ?_)
          refine AF ?_
          exact lpG (ih1 a0 a1 a2 u b.2 c (IntKind.i64.wrap (q+1)) _ h) [(1000001000,112160)] [(1,1),(1000001500,1000001500),(1000001501,1000001501)]
      ·try simp only [go_sem]
       try simp only [go_sem]
       refine Ar ?_ ?_
       ·try simp only [go_sem]
        refine caG ⟨[],[],[(1,1,0)],[],[],true⟩ (ih0 _ _ _ _ d) (Z ?_)
        have hq_:=AO e
        obtain⟨hv7010a,hv7010b⟩:=hq_
        refine BE true (Z ?_)
        refine Ak (by refine⟨?_,?_⟩ <;> (try simp only [List.length_map,List.length_append,List.length_cons,List.length_nil] at*) <;> (try unfold maxLen) <;> omega) (Z ?_)
        refine Ag (List.map (pD LabelNode.ds) c) (by rw [← hv7010b]; simp only [List.map_append,List.map_cons,List.map_nil,List.nil_append,List.append_nil,go_sem,pD,LabelNode.ds_eq]) (Z ?_)
        refine AF ?_
        exact lpG (ih1 a0 a1 a2 u b.2 c (IntKind.i64.wrap (q+1)) _ h) [(1000001000,112160)] [(1,1),(1000001500,1000001500),(1000001501,1000001501)]
       ·try simp only [go_sem]
        try simp only [go_sem]
        refine Ar (Z ?_) (Z ?_)
        ·refine caG ⟨[],[],[(1,1,0)],[],[],true⟩ (ih0 _ _ _ _ d) (Z ?_)
         have hq_:=AO e
         obtain⟨hv7010a,hv7010b⟩:=hq_
         refine BE true (Z ?_)
         refine Ak (by refine⟨?_,?_⟩ <;> (try simp only [List.length_map,List.length_append,List.length_cons,List.length_nil] at*) <;> (try unfold maxLen) <;> omega) (Z ?_)
         refine Ag (List.map (pD LabelNode.ds) c) (by rw [← hv7010b]; simp only [List.map_append,List.map_cons,List.map_nil,List.nil_append,List.append_nil,go_sem,pD,LabelNode.ds_eq]) (Z ?_)
         refine AF ?_
         exact lpG (ih1 a0 a1 a2 u b.2 c (IntKind.i64.wrap (q+1)) _ h) [(1000001000,112160)] [(1,1),(1000001500,1000001500),(1000001501,1000001501)]
        ·refine caG ⟨[],[],[(1,1,0)],[],[],true⟩ (ih0 _ _ _ _ d) ?_
         try simp only [go_sem]
         try simp only [go_sem]
         refine Ar (Z ?_) (Z ?_)
         ·have hq_:=AO e
          obtain⟨hv7010a,hv7010b⟩:=hq_
          refine BE true (Z ?_)
          refine Ak (by refine⟨?_,?_⟩ <;> (try simp only [List.length_map,List.length_append,List.length_cons,List.length_nil] at*) <;> (try unfold maxLen) <;> omega) (Z ?_)
          refine Ag (List.map (pD LabelNode.ds) c) (by rw [← hv7010b]; simp only [List.map_append,List.map_cons,List.map_nil,List.nil_append,List.append_nil,go_sem,pD,LabelNode.ds_eq]) (Z ?_)
          refine AF ?_
          exact lpG (ih1 a0 a1 a2 u b.2 c (IntKind.i64.wrap (q+1)) _ h) [(1000001000,112160)] [(1,1),(1000001500,1000001500),(1000001501,1000001501)]
         ·have hq_:=AO e
          obtain⟨hv7010a,hv7010b⟩:=hq_
          refine BE true (Z ?_)
          refine Ak (by refine⟨?_,?_⟩ <;> (try simp only [List.length_map,List.length_append,List.length_cons,List.length_nil] at*) <;> (try unfold maxLen) <;> omega) (Z ?_)
          refine Ag (List.map (pD LabelNode.ds) c) (by rw [← hv7010b]; simp only [List.map_append,List.map_cons,List.map_nil,List.nil_append,List.append_nil,go_sem,pD,LabelNode.ds_eq]) (Z ?_)
          refine AF ?_
          exact lpG (ih1 a0 a1 a2 u b.2 c (IntKind.i64.wrap (q+1)) _ h) [(1000001000,112160)] [(1,1),(1000001500,1000001500),(1000001501,1000001501)]
    ·try simp only [go_sem]
     refine Ar ?_ ?_
     ·try simp only [go_sem]
      try simp only [go_sem]
      refine Ar ?_ ?_
      ·try simp only [go_sem]
       try simp only [go_sem]
       refine Ar ?_ ?_
       ·try simp only [go_sem]
        refine caG ⟨[],[],[(1,1,0)],[],[],true⟩ (ih0 _ _ _ _ d) (Z ?_)
        have hq_:=AO e
        obtain⟨hv7010a,hv7010b⟩:=hq_
        refine BE true (Z ?_)
        refine Ak (by refine⟨?_,?_⟩ <;> (try simp only [List.length_map,List.length_append,List.length_cons,List.length_nil] at*) <;> (try unfold maxLen) <;> omega) (Z ?_)
        refine Ag (List.map (pD LabelNode.ds) c) (by rw [← hv7010b]; simp only [List.map_append,List.map_cons,List.map_nil,List.nil_append,List.append_nil,go_sem,pD,LabelNode.ds_eq]) (Z ?_)
        refine AF ?_
        exact lpG (ih1 a0 a1 a2 u b.2 c (IntKind.i64.wrap (q+1)) _ h) [(1000001000,112160)] [(1,1),(1000001500,1000001500),(1000001501,1000001501)]
       ·try simp only [go_sem]
        try simp only [go_sem]
        refine Ar (Z ?_) (Z ?_)
        ·refine caG ⟨[],[],[(1,1,0)],[],[],true⟩ (ih0 _ _ _ _ d) (Z ?_)
         have hq_:=AO e
         obtain⟨hv7010a,hv7010b⟩:=hq_
         refine BE true (Z ?_)
         refine Ak (by refine⟨?_,?_⟩ <;> (try simp only [List.length_map,List.length_append,List.length_cons,List.length_nil] at*) <;> (try unfold maxLen) <;> omega) (Z ?_)
         refine Ag (List.map (pD LabelNode.ds) c) (by rw [← hv7010b]; simp only [List.map_append,List.map_cons,List.map_nil,List.nil_append,List.append_nil,go_sem,pD,LabelNode.ds_eq]) (Z ?_)
         refine AF ?_
         exact lpG (ih1 a0 a1 a2 u b.2 c (IntKind.i64.wrap (q+1)) _ h) [(1000001000,112160)] [(1,1),(1000001500,1000001500),(1000001501,1000001501)]
        ·refine caG ⟨[],[],[(1,1,0)],[],[],true⟩ (ih0 _ _ _ _ d) ?_
         try simp only [go_sem]
         try simp only [go_sem]
         refine Ar (Z ?_) (Z ?_)
         ·have hq_:=AO e
          obtain⟨hv7010a,hv7010b⟩:=hq_
          refine BE true (Z ?_)
          refine Ak (by refine⟨?_,?_⟩ <;> (try simp only [List.length_map,List.length_append,List.length_cons,List.length_nil] at*) <;> (try unfold maxLen) <;> omega) (Z ?_)
          refine Ag (List.map (pD LabelNode.ds) c) (by rw [← hv7010b]; simp only [List.map_append,List.map_cons,List.map_nil,List.nil_append,List.append_nil,go_sem,pD,LabelNode.ds_eq]) (Z ?_)
          refine AF ?_
          exact lpG (ih1 a0 a1 a2 u b.2 c (IntKind.i64.wrap (q+1)) _ h) [(1000001000,112160)] [(1,1),(1000001500,1000001500),(1000001501,1000001501)]
         ·have hq_:=AO e
          obtain⟨hv7010a,hv7010b⟩:=hq_
          refine BE true (Z ?_)
          refine Ak (by refine⟨?_,?_⟩ <;> (try simp only [List.length_map,List.length_append,List.length_cons,List.length_nil] at*) <;> (try unfold maxLen) <;> omega) (Z ?_)
          refine Ag (List.map (pD LabelNode.ds) c) (by rw [← hv7010b]; simp only [List.map_append,List.map_cons,List.map_nil,List.nil_append,List.append_nil,go_sem,pD,LabelNode.ds_eq]) (Z ?_)
          refine AF ?_
          exact lpG (ih1 a0 a1 a2 u b.2 c (IntKind.i64.wrap (q+1)) _ h) [(1000001000,112160)] [(1,1),(1000001500,1000001500),(1000001501,1000001501)]
      ·try simp only [go_sem]
       try simp only [go_sem]
       refine Ar ?_ ?_
       ·try simp only [go_sem]
        try simp only [go_sem]
        refine Ar (Z ?_) (Z ?_)
        ·refine caG ⟨[],[],[(1,1,0)],[],[],true⟩ (ih0 _ _ _ _ d) (Z ?_)
         have hq_:=AO e
         obtain⟨hv7010a,hv7010b⟩:=hq_
         refine BE true (Z ?_)
         refine Ak (by refine⟨?_,?_⟩ <;> (try simp only [List.length_map,List.length_append,List.length_cons,List.length_nil] at*) <;> (try unfold maxLen) <;> omega) (Z ?_)
         refine Ag (List.map (pD LabelNode.ds) c) (by rw [← hv7010b]; simp only [List.map_append,List.map_cons,List.map_nil,List.nil_append,List.append_nil,go_sem,pD,LabelNode.ds_eq]) (Z ?_)
         refine AF ?_
         exact lpG (ih1 a0 a1 a2 u b.2 c (IntKind.i64.wrap (q+1)) _ h) [(1000001000,112160)] [(1,1),(1000001500,1000001500),(1000001501,1000001501)]
        ·refine caG ⟨[],[],[(1,1,0)],[],[],true⟩ (ih0 _ _ _ _ d) ?_
         try simp only [go_sem]
         try simp only [go_sem]
         refine Ar (Z ?_) (Z ?_)
         ·have hq_:=AO e
          obtain⟨hv7010a,hv7010b⟩:=hq_
          refine BE true (Z ?_)
          refine Ak (by refine⟨?_,?_⟩ <;> (try simp only [List.length_map,List.length_append,List.length_cons,List.length_nil] at*) <;> (try unfold maxLen) <;> omega) (Z ?_)
          refine Ag (List.map (pD LabelNode.ds) c) (by rw [← hv7010b]; simp only [List.map_append,List.map_cons,List.map_nil,List.nil_append,List.append_nil,go_sem,pD,LabelNode.ds_eq]) (Z ?_)
          refine AF ?_
          exact lpG (ih1 a0 a1 a2 u b.2 c (IntKind.i64.wrap (q+1)) _ h) [(1000001000,112160)] [(1,1),(1000001500,1000001500),(1000001501,1000001501)]
         ·have hq_:=AO e
          obtain⟨hv7010a,hv7010b⟩:=hq_
          refine BE true (Z ?_)
          refine Ak (by refine⟨?_,?_⟩ <;> (try simp only [List.length_map,List.length_append,List.length_cons,List.length_nil] at*) <;> (try unfold maxLen) <;> omega) (Z ?_)
          refine Ag (List.map (pD LabelNode.ds) c) (by rw [← hv7010b]; simp only [List.map_append,List.map_cons,List.map_nil,List.nil_append,List.append_nil,go_sem,pD,LabelNode.ds_eq]) (Z ?_)
          refine AF ?_
          exact lpG (ih1 a0 a1 a2 u b.2 c (IntKind.i64.wrap (q+1)) _ h) [(1000001000,112160)] [(1,1),(1000001500,1000001500),(1000001501,1000001501)]
       ·try simp only [go_sem]
        refine caG ⟨[],[],[(1,1,0)],[],[],true⟩ (ih0 _ _ _ _ d) ?_
        try simp only [go_sem]
        try simp only [go_sem]
        refine Ar ?_ ?_
        ·try simp only [go_sem]
         try simp only [go_sem]
         refine Ar (Z ?_) (Z ?_)
         ·have hq_:=AO e
          obtain⟨hv7010a,hv7010b⟩:=hq_
          refine BE true (Z ?_)
          refine Ak (by refine⟨?_,?_⟩ <;> (try simp only [List.length_map,List.length_append,List.length_cons,List.length_nil] at*) <;> (try unfold maxLen) <;> omega) (Z ?_)
          refine Ag (List.map (pD LabelNode.ds) c) (by rw [← hv7010b]; simp only [List.map_append,List.map_cons,List.map_nil,List.nil_append,List.append_nil,go_sem,pD,LabelNode.ds_eq]) (Z ?_)
          refine AF ?_
          exact lpG (ih1 a0 a1 a2 u b.2 c (IntKind.i64.wrap (q+1)) _ h) [(1000001000,112160)] [(1,1),(1000001500,1000001500),(1000001501,1000001501)]
         ·have hq_:=AO e
          obtain⟨hv7010a,hv7010b⟩:=hq_
          refine BE true (Z ?_)
          refine Ak (by refine⟨?_,?_⟩ <;> (try simp only [List.length_map,List.length_append,List.length_cons,List.length_nil] at*) <;> (try unfold maxLen) <;> omega) (Z ?_)
          refine Ag (List.map (pD LabelNode.ds) c) (by rw [← hv7010b]; simp only [List.map_append,List.map_cons,List.map_nil,List.nil_append,List.append_nil,go_sem,pD,LabelNode.ds_eq]) (Z ?_)
          refine AF ?_
          exact lpG (ih1 a0 a1 a2 u b.2 c (IntKind.i64.wrap (q+1)) _ h) [(1000001000,112160)] [(1,1),(1000001500,1000001500),(1000001501,1000001501)]
        ·try simp only [go_sem]
         have hq_:=AO e
         obtain⟨hv7010a,hv7010b⟩:=hq_
         refine BE true (Z ?_)
         refine Ak (by refine⟨?_,?_⟩ <;> (try simp only [List.length_map,List.length_append,List.length_cons,List.length_nil] at*) <;> (try unfold maxLen) <;> omega) (Z ?_)
         refine Ag (List.map (pD LabelNode.ds) c) (by rw [← hv7010b]; simp only [List.map_append,List.map_cons,List.map_nil,List.nil_append,List.append_nil,go_sem,pD,LabelNode.ds_eq]) (Z ?_)
         refine AF ?_
         exact lpG (ih1 a0 a1 a2 u b.2 c (IntKind.i64.wrap (q+1)) _ h) [(1000001000,112160)] [(1,1),(1000001500,1000001500),(1000001501,1000001501)]
     ·try simp only [go_sem]
      try simp only [go_sem]
      refine Ar ?_ ?_
      ·try simp only [go_sem]
       try simp only [go_sem]
       refine Ar ?_ ?_
       ·try simp only [go_sem]
        refine caG ⟨[],[],[(1,1,0)],[],[],true⟩ (ih0 _ _ _ _ d) (Z ?_)
        have hq_:=AO e
        obtain⟨hv7010a,hv7010b⟩:=hq_
        refine BE true (Z ?_)
        refine Ak (by refine⟨?_,?_⟩ <;> (try simp only [List.length_map,List.length_append,List.length_cons,List.length_nil] at*) <;> (try unfold maxLen) <;> omega) (Z ?_)
        refine Ag (List.map (pD LabelNode.ds) c) (by rw [← hv7010b]; simp only [List.map_append,List.map_cons,List.map_nil,List.nil_append,List.append_nil,go_sem,pD,LabelNode.ds_eq]) (Z ?_)
        refine AF ?_
        exact lpG (ih1 a0 a1 a2 u b.2 c (IntKind.i64.wrap (q+1)) _ h) [(1000001000,112160)] [(1,1),(1000001500,1000001500),(1000001501,1000001501)]
       ·try simp only [go_sem]
        try simp only [go_sem]
        refine Ar (Z ?_) (Z ?_)
        ·refine caG ⟨[],[],[(1,1,0)],[],[],true⟩ (ih0 _ _ _ _ d) (Z ?_)
         have hq_:=AO e
         obtain⟨hv7010a,hv7010b⟩:=hq_
         refine BE true (Z ?_)
         refine Ak (by refine⟨?_,?_⟩ <;> (try simp only [List.length_map,List.length_append,List.length_cons,List.length_nil] at*) <;> (try unfold maxLen) <;> omega) (Z ?_)
         refine Ag (List.map (pD LabelNode.ds) c) (by rw [← hv7010b]; simp only [List.map_append,List.map_cons,List.map_nil,List.nil_append,List.append_nil,go_sem,pD,LabelNode.ds_eq]) (Z ?_)
         refine AF ?_
         exact lpG (ih1 a0 a1 a2 u b.2 c (IntKind.i64.wrap (q+1)) _ h) [(1000001000,112160)] [(1,1),(1000001500,1000001500),(1000001501,1000001501)]
        ·refine caG ⟨[],[],[(1,1,0)],[],[],true⟩ (ih0 _ _ _ _ d) ?_
         try simp only [go_sem]
         try simp only [go_sem]
         refine Ar (Z ?_) (Z ?_)
         ·have hq_:=AO e
          obtain⟨hv7010a,hv7010b⟩:=hq_
          refine BE true (Z ?_)
          refine Ak (by refine⟨?_,?_⟩ <;> (try simp only [List.length_map,List.length_append,List.length_cons,List.length_nil] at*) <;> (try unfold maxLen) <;> omega) (Z ?_)
          refine Ag (List.map (pD LabelNode.ds) c) (by rw [← hv7010b]; simp only [List.map_append,List.map_cons,List.map_nil,List.nil_append,List.append_nil,go_sem,pD,LabelNode.ds_eq]) (Z ?_)
          refine AF ?_
          exact lpG (ih1 a0 a1 a2 u b.2 c (IntKind.i64.wrap (q+1)) _ h) [(1000001000,112160)] [(1,1),(1000001500,1000001500),(1000001501,1000001501)]
         ·have hq_:=AO e
          obtain⟨hv7010a,hv7010b⟩:=hq_
          refine BE true (Z ?_)
          refine Ak (by refine⟨?_,?_⟩ <;> (try simp only [List.length_map,List.length_append,List.length_cons,List.length_nil] at*) <;> (try unfold maxLen) <;> omega) (Z ?_)
          refine Ag (List.map (pD LabelNode.ds) c) (by rw [← hv7010b]; simp only [List.map_append,List.map_cons,List.map_nil,List.nil_append,List.append_nil,go_sem,pD,LabelNode.ds_eq]) (Z ?_)
          refine AF ?_
          exact lpG (ih1 a0 a1 a2 u b.2 c (IntKind.i64.wrap (q+1)) _ h) [(1000001000,112160)] [(1,1),(1000001500,1000001500),(1000001501,1000001501)]
      ·try simp only [go_sem]
       try simp only [go_sem]
       refine Ar ?_ ?_
       ·try simp only [go_sem]
        try simp only [go_sem]
        refine Ar (Z ?_) (Z ?_)
        ·refine caG ⟨[],[],[(1,1,0)],[],[],true⟩ (ih0 _ _ _ _ d) (Z ?_)
         have hq_:=AO e
         obtain⟨hv7010a,hv7010b⟩:=hq_
         refine BE true (Z ?_)
         refine Ak (by refine⟨?_,?_⟩ <;> (try simp only [List.length_map,List.length_append,List.length_cons,List.length_nil] at*) <;> (try unfold maxLen) <;> omega) (Z ?_)
         refine Ag (List.map (pD LabelNode.ds) c) (by rw [← hv7010b]; simp only [List.map_append,List.map_cons,List.map_nil,List.nil_append,List.append_nil,go_sem,pD,LabelNode.ds_eq]) (Z ?_)
         refine AF ?_
         exact lpG (ih1 a0 a1 a2 u b.2 c (IntKind.i64.wrap (q+1)) _ h) [(1000001000,112160)] [(1,1),(1000001500,1000001500),(1000001501,1000001501)]
        ·refine caG ⟨[],[],[(1,1,0)],[],[],true⟩ (ih0 _ _ _ _ d) ?_
         try simp only [go_sem]
         try simp only [go_sem]
         refine Ar (Z ?_) (Z ?_)
         ·have hq_:=AO e
          obtain⟨hv7010a,hv7010b⟩:=hq_
          refine BE true (Z ?_)
          refine Ak (by refine⟨?_,?_⟩ <;> (try simp only [List.length_map,List.length_append,List.length_cons,List.length_nil] at*) <;> (try unfold maxLen) <;> omega) (Z ?_)
          refine Ag (List.map (pD LabelNode.ds) c) (by rw [← hv7010b]; simp only [List.map_append,List.map_cons,List.map_nil,List.nil_append,List.append_nil,go_sem,pD,LabelNode.ds_eq]) (Z ?_)
          refine AF ?_
          exact lpG (ih1 a0 a1 a2 u b.2 c (IntKind.i64.wrap (q+1)) _ h) [(1000001000,112160)] [(1,1),(1000001500,1000001500),(1000001501,1000001501)]
         ·have hq_:=AO e
          obtain⟨hv7010a,hv7010b⟩:=hq_
          refine BE true (Z ?_)
          refine Ak (by refine⟨?_,?_⟩ <;> (try simp only [List.length_map,List.length_append,List.length_cons,List.length_nil] at*) <;> (try unfold maxLen) <;> omega) (Z ?_)
          refine Ag (List.map (pD LabelNode.ds) c) (by rw [← hv7010b]; simp only [List.map_append,List.map_cons,List.map_nil,List.nil_append,List.append_nil,go_sem,pD,LabelNode.ds_eq]) (Z ?_)
          refine AF ?_
          exact lpG (ih1 a0 a1 a2 u b.2 c (IntKind.i64.wrap (q+1)) _ h) [(1000001000,112160)] [(1,1),(1000001500,1000001500),(1000001501,1000001501)]
       ·try simp only [go_sem]
        refine caG ⟨[],[],[(1,1,0)],[],[],true⟩ (ih0 _ _ _ _ d) ?_
        try simp only [go_sem]
        try simp only [go_sem]
        refine Ar ?_ ?_
        ·try simp only [go_sem]
         try simp only [go_sem]
         refine Ar (Z ?_) (Z ?_)
         ·have hq_:=AO e
          obtain⟨hv7010a,hv7010b⟩:=hq_
          refine BE true (Z ?_)
          refine Ak (by refine⟨?_,?_⟩ <;> (try simp only [List.length_map,List.length_append,List.length_cons,List.length_nil] at*) <;> (try unfold maxLen) <;> omega) (Z ?_)
          refine Ag (List.map (pD LabelNode.ds) c) (by rw [← hv7010b]; simp only [List.map_append,List.map_cons,List.map_nil,List.nil_append,List.append_nil,go_sem,pD,LabelNode.ds_eq]) (Z ?_)
          refine AF ?_
          exact lpG (ih1 a0 a1 a2 u b.2 c (IntKind.i64.wrap (q+1)) _ h) [(1000001000,112160)] [(1,1),(1000001500,1000001500),(1000001501,1000001501)]
         ·have hq_:=AO e
          obtain⟨hv7010a,hv7010b⟩:=hq_
          refine BE true (Z ?_)
          refine Ak (by refine⟨?_,?_⟩ <;> (try simp only [List.length_map,List.length_append,List.length_cons,List.length_nil] at*) <;> (try unfold maxLen) <;> omega) (Z ?_)
          refine Ag (List.map (pD LabelNode.ds) c) (by rw [← hv7010b]; simp only [List.map_append,List.map_cons,List.map_nil,List.nil_append,List.append_nil,go_sem,pD,LabelNode.ds_eq]) (Z ?_)
          refine AF ?_
          exact lpG (ih1 a0 a1 a2 u b.2 c (IntKind.i64.wrap (q+1)) _ h) [(1000001000,112160)] [(1,1),(1000001500,1000001500),(1000001501,1000001501)]
        ·try simp only [go_sem]
         have hq_:=AO e
         obtain⟨hv7010a,hv7010b⟩:=hq_
         refine BE true (Z ?_)
         refine Ak (by refine⟨?_,?_⟩ <;> (try simp only [List.length_map,List.length_append,List.length_cons,List.length_nil] at*) <;> (try unfold maxLen) <;> omega) (Z ?_)
         refine Ag (List.map (pD LabelNode.ds) c) (by rw [← hv7010b]; simp only [List.map_append,List.map_cons,List.map_nil,List.nil_append,List.append_nil,go_sem,pD,LabelNode.ds_eq]) (Z ?_)
         refine AF ?_
         exact lpG (ih1 a0 a1 a2 u b.2 c (IntKind.i64.wrap (q+1)) _ h) [(1000001000,112160)] [(1,1),(1000001500,1000001500),(1000001501,1000001501)]
   ·refine AF ?_
    cases h
    refine EG (.frzT 1000001000 [] [(1000001501,6)] _ _ _ (by (first|rfl|(simp only [go_sem]; rfl))) (by decide) (by (first|rfl|(simp only [go_sem]; rfl))) (by (first|rfl|(simp only [go_sem]; rfl))) (.frzB 1000001501 [(0,[])] [] _ _ _ (by (first|rfl|(simp only [go_sem]; rfl))) (by decide) (by rfl) (by (first|rfl|(simp only [go_sem]; rfl))) (by (first|rfl|(simp only [go_sem]; rfl))) (.done _))) [] [(1,1)] ?_
    simp only [go_sem]
    all_goals try rfl
theorem H3 (n:Nat):(∀a0 a1 a2 r,BK n a0 a1 a2=some r→AG Try.prog 51 [.agg [.int .i64 a0.term.kind,.int .i64 a0.term.value,.ro (List.map AM a0.term.data),.ro (List.map Core.ds a0.term.kids),.ro (List.map A2 a0.labels)],.agg [.int .i64 a1.kind,.int .i64 a1.value,.ro (List.map AM a1.data),.ro (List.map Core.ds a1.kids)],.box 1 0] [] [(1,[.int .i64 a2])] (.rop [.int .i64 r.1.core.kind,.int .i64 r.1.core.value,.ro (List.map AM r.1.core.data),.ro (List.map Core.ds r.1.core.kids),.str r.1.label,.int .i64 r.1.att,.ro (List.map (pD LabelNode.ds) r.1.kids)] 0) [] [(1,[.int .i64 r.2])]):=(HP n).1
theorem H1 (a0 r) (h:DI a0=some r):AG Try.prog 26 [.agg [.int .i64 a0.term.kind,.int .i64 a0.term.value,.ro (List.map AM a0.term.data),.ro (List.map Core.ds a0.term.kids),.ro (List.map A2 a0.labels)]] [] [] (.rop [.int .i64 r.core.kind,.int .i64 r.core.value,.ro (List.map AM r.core.data),.ro (List.map Core.ds r.core.kids),.str r.label,.int .i64 r.att,.ro (List.map (pD LabelNode.ds) r.kids)] 0) [] [] :=by
 unfold DI at h
 refine agF Try.func26 mixed (h:=Z ?_)
 refine AF ?_
 replace h:=AH h; obtain⟨u,w,h⟩:=h
 refine caG ⟨[],[],[(1,2000,0)],[],[],true⟩ (H3 fuel _ _ _ _ w) (Z ?_)
 refine AF ?_
 cases h
 refine EG (.done _) [] [] ?_
 simp only [go_sem]
end Go.Proofs.Ytgigfdghecdlgaa.Ab
