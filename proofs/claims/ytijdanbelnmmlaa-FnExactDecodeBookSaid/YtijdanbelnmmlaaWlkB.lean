/-
 The functions do what their models say. Printed by wip/ab/gen.py.
-/
import Derived.Test.YtijdanbelnmmlaaModB
import Derived.Test.YtijdanbelnmmlaaTi2
import Derived.Test.YtijdanbelnmmlaaWlkC
namespace Go.Proofs.Ytijdanbelnmmlaa.Ab
set_option linter.unusedVariables false
set_option linter.unusedSimpArgs false
set_option maxRecDepth 20000
set_option maxHeartbeats 4000000
open Go.RowKit
theorem Ja (n:Nat):(∀a0 a1 r,Ce n a0 a1=some r→AG Try.prog 34 [.own 1001,.agg [.int .i64 a1.kind,.int .i64 a1.value,.ro (List.map BC a1.data),.ro (List.map Core.ds a1.kids)]] [(1001,⟨List.map u8D a0,some 1,0,false⟩)] [] (.own 1501) [(1501,⟨List.map u8D r,some 1,0,false⟩)] [])∧
    (∀a1 u r,DG n a1 u=some r→Cy Try.prog Try.f34 [1,1] (.own 1501) [(1501,⟨List.map u8D r,some 1,0,false⟩)] [] ⟨[(0,.own 1000000000),(3,.box 1000000500 0)],[(1000000000,some ⟨List.map u8D u,some 1,0,false⟩)],[(1000000500,some [.int .i64 a1.kind,.int .i64 a1.value,.ro (List.map BC a1.data),.ro (List.map Core.ds a1.kids)])]⟩)∧
    (∀a1 w y r,Bg n a1 w y=some r→Cy Try.prog Try.f34 [1,1,1,0,1,0] (.own 1501) [(1501,⟨List.map u8D r,some 1,0,false⟩)] [] ⟨[(0,.own 1000002000),(3,.box 1000002500 0),(26,.ro (List.map BC a1.data)),(27,.int .i64 ((List.length a1.data:Nat):Int)),(28,.int .i64 y)],[(1000002000,some ⟨List.map u8D w,some 1,0,false⟩)],[(1000002500,some [.int .i64 a1.kind,.int .i64 a1.value,.ro (List.map BC a1.data),.ro (List.map Core.ds a1.kids)])]⟩)∧
    (∀a1 q g r,Bh n a1 q g=some r→Cy Try.prog Try.f34 [1,1,1,1,1,0,1,0] (.own 1501) [(1501,⟨List.map u8D r,some 1,0,false⟩)] [] ⟨[(0,.own 1000004000),(46,.ro (List.map Core.ds a1.kids)),(47,.int .i64 ((List.length a1.kids:Nat):Int)),(48,.int .i64 g)],[(1000004000,some ⟨List.map u8D q,some 1,0,false⟩)],[]⟩):=by
 induction n with
 |zero=>exact⟨(fun _ _ _ h=>by rw [Ce] at h; cases h),(fun _ _ _ h=>by rw [DG] at h; cases h),(fun _ _ _ _ h=>by rw [Bg] at h; cases h),(fun _ _ _ _ h=>by rw [Bh] at h; cases h)⟩
 | succ n ih=>
  obtain⟨ih0,ih1,ih2,ih3⟩:=ih
  refine⟨?_,?_,?_,?_⟩
  ·intro a0 a1 r h
   rw [Ce] at h
   refine agF Try.func34 mixed (h:=Z ?_)
   replace h:=AH h; obtain⟨j,k,h⟩:=h
   replace h:=AH h; obtain⟨u,b,h⟩:=h
   refine B3 [false,false,true,true,true,true,false,true,true,true] (.br 2 (.br 3 (.br 4 (.br 5 (Tr.sq [7,8,9] .fin) (.br 7 (Tr.sq [5,8,9] .fin) .stop)) (.br 7 (Tr.sq [4,5,8,9] .fin) .stop)) (.br 7 (Tr.sq [3,4,5,8,9] .fin) .stop)) (.br 7 (Tr.sq [2,3,4,5,8,9] .fin) .stop)) (by kernel_rfl) ?_
   try simp only [go_sem]
   try simp only [go_sem]
   refine Bm ?_ ?_
   ·try simp only [go_sem]
    try simp only [go_sem]
    refine Bm ?_ ?_
    ·try simp only [go_sem]
     try simp only [go_sem]
     refine Bm ?_ ?_
     ·try simp only [go_sem]
      try simp only [go_sem]
      refine Bm (Z ?_) (Z ?_)
      ·have hq_:=AN k
       obtain⟨hv2005a,hv2005b⟩:=hq_
       refine BW false (Z ?_)
       refine Ak (by refine⟨?_,?_⟩ <;> (try simp only [List.length_map,List.length_append,List.length_cons,List.length_nil] at*) <;> (try unfold maxLen) <;> omega) (Z ?_)
       refine AU (List.map u8D j) (by rw [← hv2005b]; simp only [List.map_append,List.map_cons,List.map_nil,List.nil_append,List.append_nil,go_sem,slD]) (Z ?_)
       refine caG ⟨[],[(1001,32080)],[],[(1501,32128)],[],true⟩ (B0 _ _ _ b) (Z ?_)
       exact By (ih1 a1 u _ h) [(1000000000,32128)] [(1000000500,1000)]
      ·have hq_:=AN k
       obtain⟨hv2005a,hv2005b⟩:=hq_
       refine BW false (Z ?_)
       refine Ak (by refine⟨?_,?_⟩ <;> (try simp only [List.length_map,List.length_append,List.length_cons,List.length_nil] at*) <;> (try unfold maxLen) <;> omega) (Z ?_)
       refine AU (List.map u8D j) (by rw [← hv2005b]; simp only [List.map_append,List.map_cons,List.map_nil,List.nil_append,List.append_nil,go_sem,slD]) (Z ?_)
       refine caG ⟨[],[(1001,32080)],[],[(1501,32128)],[],true⟩ (B0 _ _ _ b) (Z ?_)
       exact By (ih1 a1 u _ h) [(1000000000,32128)] [(1000000500,1000)]
     ·try simp only [go_sem]
      have hq_:=AN k
      obtain⟨hv2005a,hv2005b⟩:=hq_
      refine BW false (Z ?_)
      refine Ak (by refine⟨?_,?_⟩ <;> (try simp only [List.length_map,List.length_append,List.length_cons,List.length_nil] at*) <;> (try unfold maxLen) <;> omega) (Z ?_)
      refine AU (List.map u8D j) (by rw [← hv2005b]; simp only [List.map_append,List.map_cons,List.map_nil,List.nil_append,List.append_nil,go_sem,slD]) (Z ?_)
      refine caG ⟨[],[(1001,32080)],[],[(1501,32128)],[],true⟩ (B0 _ _ _ b) (Z ?_)
      exact By (ih1 a1 u _ h) [(1000000000,32128)] [(1000000500,1000)]
    ·try simp only [go_sem]
     have hq_:=AN k
     obtain⟨hv2005a,hv2005b⟩:=hq_
     refine BW false (Z ?_)
     refine Ak (by refine⟨?_,?_⟩ <;> (try simp only [List.length_map,List.length_append,List.length_cons,List.length_nil] at*) <;> (try unfold maxLen) <;> omega) (Z ?_)
     refine AU (List.map u8D j) (by rw [← hv2005b]; simp only [List.map_append,List.map_cons,List.map_nil,List.nil_append,List.append_nil,go_sem,slD]) (Z ?_)
     refine caG ⟨[],[(1001,32080)],[],[(1501,32128)],[],true⟩ (B0 _ _ _ b) (Z ?_)
     exact By (ih1 a1 u _ h) [(1000000000,32128)] [(1000000500,1000)]
   ·try simp only [go_sem]
    have hq_:=AN k
    obtain⟨hv2005a,hv2005b⟩:=hq_
    refine BW false (Z ?_)
    refine Ak (by refine⟨?_,?_⟩ <;> (try simp only [List.length_map,List.length_append,List.length_cons,List.length_nil] at*) <;> (try unfold maxLen) <;> omega) (Z ?_)
    refine AU (List.map u8D j) (by rw [← hv2005b]; simp only [List.map_append,List.map_cons,List.map_nil,List.nil_append,List.append_nil,go_sem,slD]) (Z ?_)
    refine caG ⟨[],[(1001,32080)],[],[(1501,32128)],[],true⟩ (B0 _ _ _ b) (Z ?_)
    exact By (ih1 a1 u _ h) [(1000000000,32128)] [(1000000500,1000)]
  ·intro a1 u r h
   rw [DG] at h
   refine Av rfl rfl (Z ?_)
   replace h:=AH h; obtain⟨d,c,h⟩:=h
   have hq_:=AN c
   obtain⟨hv3006a,hv3006b⟩:=hq_
   refine BW false (Z ?_)
   refine Ak (by refine⟨?_,?_⟩ <;> (try simp only [List.length_map,List.length_append,List.length_cons,List.length_nil] at*) <;> (try unfold maxLen) <;> omega) (Z ?_)
   refine AU (List.map u8D d) (by rw [← hv3006b]; simp only [List.map_append,List.map_cons,List.map_nil,List.nil_append,List.append_nil,go_sem,slD]) (Z ?_)
   refine AF ?_
   exact loG (ih2 a1 d 0 _ h) [(1000002000,48096)] [(1000002500,1000000500)]
  ·intro a1 w y r h
   rw [Bg] at h
   refine Av rfl rfl (Z ?_)
   refine A3 (Z ?_)
   refine AB h (fun h=>Z ?_) (fun h=>Z ?_)
   ·refine AF ?_
    replace h:=AH h; obtain⟨e,i,h⟩:=h
    refine Af i rfl (Z ?_)
    replace h:=AH h; obtain⟨l,t,h⟩:=h
    have hq_:=AN t
    obtain⟨hv7004a,hv7004b⟩:=hq_
    refine BW false (Z ?_)
    refine Ak (by refine⟨?_,?_⟩ <;> (try simp only [List.length_map,List.length_append,List.length_cons,List.length_nil] at*) <;> (try unfold maxLen) <;> omega) (Z ?_)
    refine AU (List.map u8D l) (by rw [← hv7004b]; simp only [List.map_append,List.map_cons,List.map_nil,List.nil_append,List.append_nil,go_sem,slD]) (Z ?_)
    refine AF ?_
    exact lpG (ih2 a1 l (IntKind.i64.wrap (y+1)) _ h) [(1000002000,112064)] [(1000002500,1000002500)]
   ·refine AF ?_
    replace h:=AH h; obtain⟨s,o,h⟩:=h
    have hq_:=AN o
    obtain⟨hv9006a,hv9006b⟩:=hq_
    refine BW false (Z ?_)
    refine Ak (by refine⟨?_,?_⟩ <;> (try simp only [List.length_map,List.length_append,List.length_cons,List.length_nil] at*) <;> (try unfold maxLen) <;> omega) (Z ?_)
    refine AU (List.map u8D s) (by rw [← hv9006b]; simp only [List.map_append,List.map_cons,List.map_nil,List.nil_append,List.append_nil,go_sem,slD]) (Z ?_)
    refine AF ?_
    exact loG (ih3 a1 s 0 _ h) [(1000004000,144096)] []
  ·intro a1 q g r h
   rw [Bh] at h
   refine Av rfl rfl (Z ?_)
   refine A3 (Z ?_)
   refine AB h (fun h=>Z ?_) (fun h=>Z ?_)
   ·refine AF ?_
    replace h:=AH h; obtain⟨z,u1,h⟩:=h
    refine Af u1 (Core.ds_len _) (Z ?_)
    refine AF ?_
    replace h:=AH h; obtain⟨u2,u3,h⟩:=h
    refine caG ⟨[],[(1001,1000004000)],[],[(1501,208032)],[],true⟩ (ih0 _ _ _ u3) (Z ?_)
    refine AF ?_
    exact lpG (ih3 a1 u2 (IntKind.i64.wrap (g+1)) _ h) [(1000004000,208032)] []
   ·refine AF ?_
    cases h
    refine CL (.done _) [(1501,1000004000)] [] ?_
    simp only [go_sem]
theorem J5 (n:Nat):(∀a0 a1 r,Ce n a0 a1=some r→AG Try.prog 34 [.own 1001,.agg [.int .i64 a1.kind,.int .i64 a1.value,.ro (List.map BC a1.data),.ro (List.map Core.ds a1.kids)]] [(1001,⟨List.map u8D a0,some 1,0,false⟩)] [] (.own 1501) [(1501,⟨List.map u8D r,some 1,0,false⟩)] []):=(Ja n).1
theorem IV (n:Nat):(∀a0 u w r,Bi n a0 u w=some r→BX Try.prog Try.f19 [1,1,1,0,1,0] (.tup [.ow (some 1) (List.map u8D r.1),.int .i64 r.2]) ⟨[(4,.own 1000001000),(15,.ro (List.map Core.ds a0.defs)),(16,.int .i64 ((List.length a0.defs:Nat):Int)),(17,.int .i64 w)],[(1000001000,some ⟨List.map u8D u,some 1,0,false⟩)],[]⟩):=by
 induction n with
 |zero=>exact((fun _ _ _ _ h=>by rw [Bi] at h; cases h))
 | succ n ih=>
  have ih0:=ih
  ·intro a0 u w r h
   rw [Bi] at h
   refine AP rfl rfl (Z ?_)
   refine A3 (Z ?_)
   refine AB h (fun h=>Z ?_) (fun h=>Z ?_)
   ·refine AF ?_
    replace h:=AH h; obtain⟨y,q,h⟩:=h
    refine Af q (Core.ds_len _) (Z ?_)
    refine AF ?_
    replace h:=AH h; obtain⟨g,j,h⟩:=h
    refine caG ⟨[],[(1001,1000001000)],[],[(1501,128032)],[],true⟩ (J5 fuel _ _ _ j) (Z ?_)
    refine AF ?_
    exact lpF (ih0 a0 g (IntKind.i64.wrap (w+1)) _ h) [(1000001000,128032)] []
   ·refine AF ?_
    replace h:=AH h; obtain⟨k,b,h⟩:=h
    refine AK (Ju _ _ _ b) (Z ?_)
    refine AF ?_
    cases h
    simp only [go_sem]
theorem J6 (a0 r) (h:Dc a0=some r):AC Try.prog 19 [.agg (Book.avs a0)] (.tup [.ow (some 1) (List.map u8D r.1),.int .i64 r.2]):=by
 unfold Dc at h
 refine acF Try.func19 mixed (h:=Z ?_)
 replace h:=AH h; obtain⟨u,w,h⟩:=h
 refine AK (Lf _ _ w) (Z ?_)
 refine AF ?_
 refine AB h (fun h=>Z ?_) (fun h=>Z ?_)
 ·cases h
  simp only [go_sem]
 ·refine AF ?_
  replace h:=AH h; obtain⟨y,q,h⟩:=h
  refine caG ⟨[(3000064048,.nils,some 1)],[(1001,3000064048)],[],[(1501,64048)],[],true⟩ (B0 _ _ _ q) (Z ?_)
  refine AF ?_
  exact loF (IV fuel a0 y 0 _ h) [(1000001000,64048)] []
theorem J7 (n:Nat):(∀a0 u w r,CE n a0 u w=some r→BX Try.prog Try.f39 [1,1,0,1,0] (.int .u32 r) ⟨[(0,.ro (List.map u8D a0)),(3,.int .u32 u),(4,.int .i64 w)],[],[]⟩)∧
    (∀a0 w y q r,Cf n a0 w y q=some r→BX Try.prog Try.f39 [1,1,0,1,0,0,1,0,0,1,1,0] (.int .u32 r) ⟨[(0,.ro (List.map u8D a0)),(3,.int .u32 y),(4,.int .i64 w),(5,.int .i64 q)],[],[]⟩):=by
 induction n with
 |zero=>exact⟨(fun _ _ _ _ h=>by rw [CE] at h; cases h),(fun _ _ _ _ _ h=>by rw [Cf] at h; cases h)⟩
 | succ n ih=>
  obtain⟨ih0,ih1⟩:=ih
  refine⟨?_,?_⟩
  ·intro a0 u w r h
   rw [CE] at h
   refine AP rfl rfl (Z ?_)
   refine A3 (Z ?_)
   refine AB h (fun h=>Z ?_) (fun h=>Z ?_)
   ·refine AF ?_
    replace h:=AH h; obtain⟨g,j,h⟩:=h
    refine Af j rfl (Z ?_)
    exact loF (ih1 a0 w (bits BinOp.xor IntKind.u32 u (IntKind.u32.wrap g)) 0 _ h) [] []
   ·refine AF ?_
    cases h
    simp only [go_sem]
  ·intro a0 w y q r h
   rw [Cf] at h
   refine AP rfl rfl (Z ?_)
   refine A3 (Z ?_)
   refine AB h (fun h=>Z ?_) (fun h=>Z ?_)
   ·refine AF ?_
    refine Ak (by decide) (Z ?_)
    refine AB h (fun h=>Z ?_) (fun h=>Z ?_)
    ·refine AF ?_
     exact lpF (ih1 a0 w (bits BinOp.xor IntKind.u32 (y / 2 ^ min (Int.toNat 1) (IntKind.bits IntKind.u32)) 3988292384) (IntKind.i64.wrap (q+1)) _ h) [] []
    ·refine AF ?_
     exact lpF (ih1 a0 w (y / 2 ^ min (Int.toNat 1) (IntKind.bits IntKind.u32)) (IntKind.i64.wrap (q+1)) _ h) [] []
   ·refine AF ?_
    exact lpF (ih0 a0 y (IntKind.i64.wrap (w+1)) _ h) [] []
theorem Lj (n:Nat):(∀a0 u w r,CE n a0 u w=some r→BX Try.prog Try.f39 [1,1,0,1,0] (.int .u32 r) ⟨[(0,.ro (List.map u8D a0)),(3,.int .u32 u),(4,.int .i64 w)],[],[]⟩):=(J7 n).1
theorem O1 (a0 r) (h:HM a0=some r):AC Try.prog 39 [.ro (List.map u8D a0)] (.int .u32 r):=by
 unfold HM at h
 refine acF Try.func39 mixed (h:=Z ?_)
 exact loF (Lj fuel a0 4294967295 0 _ h) [] []
theorem Du (a0:List Int) (u:Bool) (r:Int × (List Int) × Int) (h:Cg a0 u=some r):Cy Try.prog Try.f23 [1,1,1,1,1,0,1] (.tup [.int .i64 r.1,.ro (List.map u8D r.2.1),.int .i64 r.2.2]) [] [] ⟨[(0,.ro (List.map u8D a0)),(5,.int .i64 (IntKind.i64.wrap (((List.length a0:Nat):Int) - 4))),(100,.bool u)],[],[]⟩:=by
 unfold Cg at h
 refine Av rfl rfl (Z ?_)
 refine AB h (fun h=>Z ?_) (fun h=>Z ?_)
 ·cases h
  refine CL (.frzN [(0,[1])] [] _ _ (by (first|rfl|(simp only [go_sem]; rfl))) (by (first|rfl|(simp only [go_sem]; rfl))) (.done _)) [] [] ?_
  simp only [go_sem]
  all_goals try rfl
 ·refine AF ?_
  refine B3 [] .fin (by kernel_rfl) (Z ?_)
  replace h:=AH h; obtain⟨w,y,h⟩:=h
  refine Af y rfl (Z ?_)
  replace h:=AH h; obtain⟨q,g,h⟩:=h
  refine Ak (HK (by intro x; exact rfl) _) (Z ?_)
  refine Br (NH g) (Z ?_)
  refine AF ?_
  cases h
  refine CL (.done _) [] [] ?_
  simp only [go_sem]
theorem Bl (a0:List Int) (u:Bool) (r:Int × (List Int) × Int) (h:BM a0 u=some r):Cy Try.prog Try.f23 [1,1,1,0,1] (.tup [.int .i64 r.1,.ro (List.map u8D r.2.1),.int .i64 r.2.2]) [] [] ⟨[(0,.ro (List.map u8D a0)),(5,.int .i64 (IntKind.i64.wrap (((List.length a0:Nat):Int) - 4))),(56,.bool u)],[],[]⟩:=by
 unfold BM at h
 refine Av rfl rfl (Z ?_)
 refine AB h (fun h=>Z ?_) (fun h=>Z ?_)
 ·cases h
  refine CL (.frzN [(0,[1])] [] _ _ (by (first|rfl|(simp only [go_sem]; rfl))) (by (first|rfl|(simp only [go_sem]; rfl))) (.done _)) [] [] ?_
  simp only [go_sem]
  all_goals try rfl
 ·refine AF ?_
  replace h:=AH h; obtain⟨w,y,h⟩:=h
  refine Ak (HK (by intro x; exact rfl) _) (Z ?_)
  refine Br (NH y) (Z ?_)
  replace h:=AH h; obtain⟨q,g,h⟩:=h
  refine AK (O1 _ _ g) (Z ?_)
  refine AF ?_
  replace h:=AH h; obtain⟨j,k,h⟩:=h
  refine Af k rfl (Z ?_)
  refine AB h (fun h=>Z ?_) (fun h=>Z ?_)
  ·exact By (Du a0 true _ h) [] []
  ·replace h:=AH h; obtain⟨b,d,h⟩:=h
   refine Af d rfl (Z ?_)
   refine Ak (by decide) (Z ?_)
   refine AB h (fun h=>Z ?_) (fun h=>Z ?_)
   ·exact By (Du a0 true _ h) [] []
   ·replace h:=AH h; obtain⟨c,e,h⟩:=h
    refine Af e rfl (Z ?_)
    refine Ak (by decide) (Z ?_)
    refine AB h (fun h=>Z ?_) (fun h=>Z ?_)
    ·exact By (Du a0 true _ h) [] []
    ·replace h:=AH h; obtain⟨i,l,h⟩:=h
     refine Af l rfl (Z ?_)
     refine Ak (by decide) (Z ?_)
     refine PY (E7 rfl rfl (Du a0 (!decide (i=(IntKind.u8.wrap (q / 2 ^ min (Int.toNat 24) (IntKind.bits IntKind.u32))))) _ h):) (.one ⟨_,.done _,[],[],Z ?_⟩)
     all_goals try rfl
theorem I4 (a0 r) (h:DN a0=some r):AG Try.prog 23 [.ro (List.map u8D a0)] [] [] (.tup [.int .i64 r.1,.ro (List.map u8D r.2.1),.int .i64 r.2.2]) [] [] :=by
 unfold DN at h
 refine agF Try.func23 mixed (h:=Z ?_)
 refine AB h (fun h=>Z ?_) (fun h=>Z ?_)
 ·cases h
  refine CL (.frzN [(0,[1])] [] _ _ (by (first|rfl|(simp only [go_sem]; rfl))) (by (first|rfl|(simp only [go_sem]; rfl))) (.done _)) [] [] ?_
  simp only [go_sem]
  all_goals try rfl
 ·refine AF ?_
  refine AB h (fun h=>Z ?_) (fun h=>Z ?_)
  ·exact By (Bl a0 true _ h) [] []
  ·replace h:=AH h; obtain⟨u,w,h⟩:=h
   refine Af w rfl (Z ?_)
   refine AB h (fun h=>Z ?_) (fun h=>Z ?_)
   ·exact By (Bl a0 true _ h) [] []
   ·replace h:=AH h; obtain⟨y,q,h⟩:=h
    refine Af q rfl (Z ?_)
    refine AB h (fun h=>Z ?_) (fun h=>Z ?_)
    ·exact By (Bl a0 true _ h) [] []
    ·replace h:=AH h; obtain⟨g,j,h⟩:=h
     refine Af j rfl (Z ?_)
     refine AB h (fun h=>Z ?_) (fun h=>Z ?_)
     ·exact By (Bl a0 true _ h) [] []
     ·replace h:=AH h; obtain⟨k,b,h⟩:=h
      refine Af b rfl (Z ?_)
      refine AB h (fun h=>Z ?_) (fun h=>Z ?_)
      ·exact By (Bl a0 true _ h) [] []
      ·replace h:=AH h; obtain⟨d,c,h⟩:=h
       refine Af c rfl (Z ?_)
       refine AB h (fun h=>Z ?_) (fun h=>Z ?_)
       ·exact By (Bl a0 true _ h) [] []
       ·replace h:=AH h; obtain⟨e,i,h⟩:=h
        refine Af i rfl (Z ?_)
        refine AB h (fun h=>Z ?_) (fun h=>Z ?_)
        ·exact By (Bl a0 true _ h) [] []
        ·replace h:=AH h; obtain⟨l,t,h⟩:=h
         refine Af t rfl (Z ?_)
         exact By (Bl a0 (decide (3<l)) _ h) [] []
theorem Hu (n:Nat):(∀a0 a1 u r,Bo n a0 a1 u=some r→BX Try.prog Try.f29 [1,1,0,1,0] (.bool r) ⟨[(0,.ro (List.map u8D a0)),(1,.ro (List.map u8D a1)),(12,.int .i64 ((List.length a0:Nat):Int)),(13,.int .i64 u)],[],[]⟩):=by
 induction n with
 |zero=>exact((fun _ _ _ _ h=>by rw [Bo] at h; cases h))
 | succ n ih=>
  have ih0:=ih
  ·intro a0 a1 u r h
   rw [Bo] at h
   refine AP rfl rfl (Z ?_)
   refine A3 (Z ?_)
   refine AB h (fun h=>Z ?_) (fun h=>Z ?_)
   ·refine AF ?_
    refine B3 [] .fin (by kernel_rfl) (Z ?_)
    replace h:=AH h; obtain⟨w,y,h⟩:=h
    refine Af y rfl (Z ?_)
    replace h:=AH h; obtain⟨q,g,h⟩:=h
    refine Af g rfl (Z ?_)
    refine AF ?_
    refine AB h (fun h=>Z ?_) (fun h=>Z ?_)
    ·cases h
     simp only [go_sem]
    ·refine AF ?_
     exact lpF (ih0 a0 a1 (IntKind.i64.wrap (u+1)) _ h) [] []
   ·refine AF ?_
    cases h
    simp only [go_sem]
theorem GE (a0 a1 r) (h:Co a0 a1=some r):AC Try.prog 29 [.ro (List.map u8D a0),.ro (List.map u8D a1)] (.bool r):=by
 unfold Co at h
 refine acF Try.func29 mixed (h:=Z ?_)
 refine AB h (fun h=>Z ?_) (fun h=>Z ?_)
 ·cases h
  simp only [go_sem]
 ·refine AF ?_
  exact loF (Hu fuel a0 a1 0 _ h) [] []
theorem Ft (a0:List Int) (u:Int) (w:List Int) (y:Bool) (r:Int × (List Int) × Int) (h:DX a0 u w y=some r):Cy Try.prog Try.f28 [1,1,1,1,0,1] (.tup [.int .i64 r.1,.ro (List.map u8D r.2.1),.int .i64 r.2.2]) [] [] ⟨[(0,.ro (List.map u8D a0)),(5,.int .u8 u),(6,.ro (List.map u8D w)),(28,.bool y)],[],[]⟩:=by
 unfold DX at h
 refine Av rfl rfl (Z ?_)
 refine AB h (fun h=>Z ?_) (fun h=>Z ?_)
 ·cases h
  refine CL (.frzN [(0,[1])] [] _ _ (by (first|rfl|(simp only [go_sem]; rfl))) (by (first|rfl|(simp only [go_sem]; rfl))) (.done _)) [] [] ?_
  simp only [go_sem]
  all_goals try rfl
 ·refine AF ?_
  replace h:=AH h; obtain⟨q,g,h⟩:=h
  refine AK (Ju _ _ _ g) (Z ?_)
  refine AF ?_
  replace h:=AH h; obtain⟨j,k,h⟩:=h
  refine AK (GE _ _ _ k) (Z ?_)
  refine AF ?_
  refine AB h (fun h=>Z ?_) (fun h=>Z ?_)
  ·cases h
   refine CL (.frzN [(0,[1])] [] _ _ (by (first|rfl|(simp only [go_sem]; rfl))) (by (first|rfl|(simp only [go_sem]; rfl))) (.done _)) [] [] ?_
   simp only [go_sem]
   all_goals try rfl
  ·refine AF ?_
   cases h
   refine CL (.done _) [] [] ?_
   simp only [go_sem]
theorem Lk (a0 r) (h:Ch a0=some r):AG Try.prog 28 [.ro (List.map u8D a0)] [] [] (.tup [.int .i64 r.1,.ro (List.map u8D r.2.1),.int .i64 r.2.2]) [] [] :=by
 unfold Ch at h
 refine agF Try.func28 mixed (h:=Z ?_)
 refine AB h (fun h=>Z ?_) (fun h=>Z ?_)
 ·cases h
  refine CL (.frzN [(0,[1])] [] _ _ (by (first|rfl|(simp only [go_sem]; rfl))) (by (first|rfl|(simp only [go_sem]; rfl))) (.done _)) [] [] ?_
  simp only [go_sem]
  all_goals try rfl
 ·refine AF ?_
  refine AB h (fun h=>Z ?_) (fun h=>Z ?_)
  ·cases h
   refine CL (.frzN [(0,[1])] [] _ _ (by (first|rfl|(simp only [go_sem]; rfl))) (by (first|rfl|(simp only [go_sem]; rfl))) (.done _)) [] [] ?_
   simp only [go_sem]
   all_goals try rfl
  ·refine AF ?_
   refine B3 [] .fin (by kernel_rfl) (Z ?_)
   replace h:=AH h; obtain⟨u,w,h⟩:=h
   refine Af w rfl (Z ?_)
   replace h:=AH h; obtain⟨y,q,h⟩:=h
   refine Ak (HK (by intro x; exact rfl) _) (Z ?_)
   refine Br (NH q) (Z ?_)
   refine AF ?_
   refine AB h (fun h=>Z ?_) (fun h=>Z ?_)
   ·exact By (Ft a0 u y true _ h) [] []
   ·exact By (Ft a0 u y (decide (3<u)) _ h) [] []
end Go.Proofs.Ytijdanbelnmmlaa.Ab
