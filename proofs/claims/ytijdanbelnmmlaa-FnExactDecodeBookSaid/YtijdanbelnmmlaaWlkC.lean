/-
 The functions do what their models say. Printed by wip/ab/gen.py.
-/
import Derived.Test.YtijdanbelnmmlaaModC
import Derived.Test.YtijdanbelnmmlaaTi2
import Derived.Test.YtijdanbelnmmlaaWlkM
namespace Go.Proofs.Ytijdanbelnmmlaa.Ab
set_option linter.unusedVariables false
set_option linter.unusedSimpArgs false
set_option maxRecDepth 20000
set_option maxHeartbeats 4000000
open Go.RowKit
theorem HV (n:Nat):(∀u w r,Bb n u w=some r→Cy Try.prog Try.f33 [1,1,1,0,0] (.own 1501) [(1501,⟨List.map u8D r,some 1,0,false⟩)] [] ⟨[(0,.own 1000002000),(5,.int .i64 w)],[(1000002000,some ⟨List.map u8D u,some 1,0,false⟩)],[]⟩):=by
 induction n with
 |zero=>exact((fun _ _ _ h=>by rw [Bb] at h; cases h))
 | succ n ih=>
  have ih0:=ih
  ·intro u w r h
   rw [Bb] at h
   refine Av rfl rfl (Z ?_)
   refine A3 (Z ?_)
   refine AB h (fun h=>Z ?_) (fun h=>Z ?_)
   ·refine AF ?_
    refine Ak (by decide) (Z ?_)
    replace h:=AH h; obtain⟨y,q,h⟩:=h
    have hq_:=AN q
    obtain⟨hv6006a,hv6006b⟩:=hq_
    refine BW false (Z ?_)
    refine Ak (by refine⟨?_,?_⟩ <;> (try simp only [List.length_map,List.length_append,List.length_cons,List.length_nil] at*) <;> (try unfold maxLen) <;> omega) (Z ?_)
    refine AU (List.map u8D y) (by rw [← hv6006b]; simp only [List.map_append,List.map_cons,List.map_nil,List.nil_append,List.append_nil,go_sem,slD]) (Z ?_)
    refine AF ?_
    refine Ak (by decide) (Z ?_)
    exact lpG (ih0 y (IntKind.i64.wrap (Int.tdiv w 128)) _ h) [(1000002000,96096)] []
   ·refine AF ?_
    replace h:=AH h; obtain⟨g,j,h⟩:=h
    have hq_:=AN j
    obtain⟨hv8004a,hv8004b⟩:=hq_
    refine BW false (Z ?_)
    refine Ak (by refine⟨?_,?_⟩ <;> (try simp only [List.length_map,List.length_append,List.length_cons,List.length_nil] at*) <;> (try unfold maxLen) <;> omega) (Z ?_)
    refine AU (List.map u8D g) (by rw [← hv8004b]; simp only [List.map_append,List.map_cons,List.map_nil,List.nil_append,List.append_nil,go_sem,slD]) (Z ?_)
    refine AF ?_
    cases h
    refine CL (.done _) [(1501,128064)] [] ?_
    simp only [go_sem]
theorem Et (a0:List Int) (u:Int) (r:(List Int)) (h:Ci a0 u=some r):Cy Try.prog Try.f33 [1,1,1] (.own 1501) [(1501,⟨List.map u8D r,some 1,0,false⟩)] [] ⟨[(0,.own 1000000000),(5,.int .i64 u)],[(1000000000,some ⟨List.map u8D a0,some 1,0,false⟩)],[]⟩:=by
 unfold Ci at h
 refine Av rfl rfl (Z ?_)
 exact loG (HV fuel a0 u _ h) [(1000002000,1000000000)] []
theorem B0 (a0 a1 r) (h:C0 a0 a1=some r):AG Try.prog 33 [.own 1001,.int .i64 a1] [(1001,⟨List.map u8D a0,some 1,0,false⟩)] [] (.own 1501) [(1501,⟨List.map u8D r,some 1,0,false⟩)] [] :=by
 unfold C0 at h
 refine agF Try.func33 mixed (h:=Z ?_)
 refine AB h (fun h=>Z ?_) (fun h=>Z ?_)
 ·exact By (Et a0 (IntKind.i64.wrap ((IntKind.i64.wrap ((-2)*a1)) - 1)) _ h) [(1000000000,1001)] []
 ·exact By (Et a0 (IntKind.i64.wrap (2*a1)) _ h) [(1000000000,1001)] []
theorem Ll  (r:(List Int)) (h:Fr=some r):AG Try.prog 48 [] [] [] (.own 1501) [(1501,⟨List.map u8D r,some 1,0,false⟩)] [] :=by
 unfold Fr at h
 refine agF Try.func48 mixed (h:=Z ?_)
 cases h
 refine CL (.lit 0 2000000000 2000 5 1 false [] _ _ (by (first|rfl|(simp only [go_sem]; rfl))) (by simp only [go_sem]; rfl) (by (first|rfl|(simp only [go_sem]; rfl))) (by (first|rfl|(simp only [go_sem]; rfl))) (by decide) (by decide) (by simp only [go_sem]) (.done _)) [(1501,2000000000)] [] ?_
 simp only [go_sem]
 all_goals try rfl
theorem Hv (n:Nat):(∀a0 u w r,BB n a0 u w=some r→BX Try.prog Try.f49 [1,1,0,1,0] (.int .i64 r) ⟨[(3,.int .u32 u),(7,.ro (List.map u8D a0)),(8,.int .i64 ((List.length a0:Nat):Int)),(9,.int .i64 w)],[],[]⟩)∧
    (∀a0 w y q r,BN n a0 w y q=some r→BX Try.prog Try.f49 [1,1,0,1,0,0,1,1,0,0,1,1,1,0] (.int .i64 r) ⟨[(3,.int .u32 y),(7,.ro (List.map u8D a0)),(8,.int .i64 ((List.length a0:Nat):Int)),(9,.int .i64 w),(17,.int .i64 q)],[],[]⟩):=by
 induction n with
 |zero=>exact⟨(fun _ _ _ _ h=>by rw [BB] at h; cases h),(fun _ _ _ _ _ h=>by rw [BN] at h; cases h)⟩
 | succ n ih=>
  obtain⟨ih0,ih1⟩:=ih
  refine⟨?_,?_⟩
  ·intro a0 u w r h
   rw [BB] at h
   refine AP rfl rfl (Z ?_)
   refine A3 (Z ?_)
   refine AB h (fun h=>Z ?_) (fun h=>Z ?_)
   ·refine AF ?_
    replace h:=AH h; obtain⟨g,j,h⟩:=h
    refine Af j rfl (Z ?_)
    exact loF (ih1 a0 w (bits BinOp.xor IntKind.u32 u (IntKind.u32.wrap g)) 0 _ h) [] []
   ·refine AF ?_
    cases h
    simp only [go_sem]
  ·intro a0 w y q r h
   rw [BN] at h
   refine AP rfl rfl (Z ?_)
   refine A3 (Z ?_)
   refine AB h (fun h=>Z ?_) (fun h=>Z ?_)
   ·refine AF ?_
    refine Ak (by decide) (Z ?_)
    refine AB h (fun h=>Z ?_) (fun h=>Z ?_)
    ·refine AF ?_
     exact lpF (ih1 a0 w (bits BinOp.xor IntKind.u32 (y / 2 ^ min (Int.toNat 1) (IntKind.bits IntKind.u32)) 3988292384) (IntKind.i64.wrap (q+1)) _ h) [] []
    ·refine AF ?_
     exact lpF (ih1 a0 w (y / 2 ^ min (Int.toNat 1) (IntKind.bits IntKind.u32)) (IntKind.i64.wrap (q+1)) _ h) [] []
   ·refine AF ?_
    exact lpF (ih0 a0 y (IntKind.i64.wrap (w+1)) _ h) [] []
theorem IW (n:Nat):(∀a0 u w r,BB n a0 u w=some r→BX Try.prog Try.f49 [1,1,0,1,0] (.int .i64 r) ⟨[(3,.int .u32 u),(7,.ro (List.map u8D a0)),(8,.int .i64 ((List.length a0:Nat):Int)),(9,.int .i64 w)],[],[]⟩):=(Hv n).1
theorem J8 (a0 r) (h:EL a0=some r):AC Try.prog 49 [.ro (List.map u8D a0)] (.int .i64 r):=by
 unfold EL at h
 refine acF Try.func49 mixed (h:=Z ?_)
 exact loF (IW fuel a0 4294967295 0 _ h) [] []
theorem Lm (n:Nat):(∀u w y r,Bu n u w y=some r→BX Try.prog Try.f35 [1,1,1,0,1,0] (.tup [.ow (some 1) (List.map u8D r.1),.int .i64 r.2]) ⟨[(6,.own 1000001000),(7,.int .i64 w),(16,.int .i64 y)],[(1000001000,some ⟨List.map u8D u,some 1,0,false⟩)],[]⟩):=by
 induction n with
 |zero=>exact((fun _ _ _ _ h=>by rw [Bu] at h; cases h))
 | succ n ih=>
  have ih0:=ih
  ·intro u w y r h
   rw [Bu] at h
   refine AP rfl rfl (Z ?_)
   refine A3 (Z ?_)
   refine AB h (fun h=>Z ?_) (fun h=>Z ?_)
   ·refine AF ?_
    refine Ak (by decide) (Z ?_)
    replace h:=AH h; obtain⟨q,g,h⟩:=h
    have hq_:=AN g
    obtain⟨hv6005a,hv6005b⟩:=hq_
    refine BW false (Z ?_)
    refine Ak (by refine⟨?_,?_⟩ <;> (try simp only [List.length_map,List.length_append,List.length_cons,List.length_nil] at*) <;> (try unfold maxLen) <;> omega) (Z ?_)
    refine AU (List.map u8D q) (by rw [← hv6005b]; simp only [List.map_append,List.map_cons,List.map_nil,List.nil_append,List.append_nil,go_sem,slD]) (Z ?_)
    refine AF ?_
    refine Ak (by decide) (Z ?_)
    refine AF ?_
    exact lpF (ih0 q (IntKind.i64.wrap (Int.tdiv w 256)) (IntKind.i64.wrap (y+1)) _ h) [(1000001000,96080)] []
   ·refine AF ?_
    refine AB h (fun h=>Z ?_) (fun h=>Z ?_)
    ·cases h
     simp only [go_sem]
    ·refine AF ?_
     cases h
     simp only [go_sem]
theorem Ju (a0 a1 r) (h:GB a0 a1=some r):AC Try.prog 35 [.int .u8 a0,.ro (List.map u8D a1)] (.tup [.ow (some 1) (List.map u8D r.1),.int .i64 r.2]):=by
 unfold GB at h
 refine acF Try.func35 mixed (h:=Z ?_)
 replace h:=AH h; obtain⟨u,w,h⟩:=h
 refine U9 (Ll  _ w) (by (first|rfl|(simp only [go_sem]; rfl))) (Z ?_)
 replace h:=AH h; obtain⟨y,q,h⟩:=h
 have hq_:=AN q
 obtain⟨hv2003a,hv2003b⟩:=hq_
 refine BW false (Z ?_)
 refine Ak (by refine⟨?_,?_⟩ <;> (try simp only [List.length_map,List.length_append,List.length_cons,List.length_nil] at*) <;> (try unfold maxLen) <;> omega) (Z ?_)
 refine AU (List.map u8D y) (by rw [← hv2003b]; simp only [List.map_append,List.map_cons,List.map_nil,List.nil_append,List.append_nil,go_sem,slD]) (Z ?_)
 replace h:=AH h; obtain⟨g,j,h⟩:=h
 have hq_:=AN j
 obtain⟨hv2005a,hv2005b⟩:=hq_
 refine BW false (Z ?_)
 refine Ak (NI (by intro x; exact⟨rfl,by simp [go_sem,D.flat]⟩) _) (Z ?_)
 refine Ak (by refine⟨?_,?_⟩ <;> (try simp only [List.length_map,List.length_append,List.length_cons,List.length_nil] at*) <;> (try unfold maxLen) <;> omega) (Z ?_)
 refine AU (List.map u8D g) (by rw [← hv2005b]; simp only [List.map_append,List.map_cons,List.map_nil,List.nil_append,List.append_nil,go_sem,slD]) (Z ?_)
 refine AF ?_
 replace h:=AH h; obtain⟨k,b,h⟩:=h
 refine AK (J8 _ _ b) (Z ?_)
 refine AF ?_
 exact loF (Lm fuel g k 0 _ h) [(1000001000,32080)] []
theorem J9 (n:Nat):(∀a0 u w r,Cj n a0 u w=some r→BX Try.prog Try.f5 [1,1,0,1,0] (.ow (some 1) (List.map u8D r)) ⟨[(0,.ro (List.map u8D a0)),(3,.own 1000001000),(4,.int .i64 w)],[(1000001000,some ⟨List.map u8D u,some 1,0,false⟩)],[]⟩):=by
 induction n with
 |zero=>exact((fun _ _ _ _ h=>by rw [Cj] at h; cases h))
 | succ n ih=>
  have ih0:=ih
  ·intro a0 u w r h
   rw [Cj] at h
   refine AP rfl rfl (Z ?_)
   refine A3 (Z ?_)
   refine AB h (fun h=>Z ?_) (fun h=>Z ?_)
   ·refine AF ?_
    replace h:=AH h; obtain⟨y,q,h⟩:=h
    refine Af q rfl (Z ?_)
    replace h:=AH h; obtain⟨g,j,h⟩:=h
    refine Af j rfl (Z ?_)
    replace h:=AH h; obtain⟨k,b,h⟩:=h
    refine Br (Ba j) (Z ?_)
    refine AU (List.map u8D k) (by rw [← AX b]; simp only [List.map_set,go_sem,slD]) (Z ?_)
    refine AF ?_
    exact lpF (ih0 a0 k (IntKind.i64.wrap (w+1)) _ h) [(1000001000,1000001000)] []
   ·refine AF ?_
    cases h
    simp only [go_sem]
theorem E8 (a0 r) (h:Dd a0=some r):AC Try.prog 5 [.ro (List.map u8D a0)] (.ow (some 1) (List.map u8D r)):=by
 unfold Dd at h
 refine acF Try.func5 mixed (h:=Z ?_)
 replace h:=AH h; obtain⟨u,w,h⟩:=h
 have hq_:=TL w
 obtain⟨hv2002a,hv2002b,hv2002c⟩:=hq_
 refine Ak (by refine⟨?_,?_,?_⟩ <;> omega) (Z ?_)
 refine AU (List.map u8D u) (by rw [← hv2002c]; simp only [List.map_replicate,go_sem,slD]) (Z ?_)
 refine AF ?_
 exact loF (J9 fuel a0 u 0 _ h) [(1000001000,32032)] []
theorem KA (n:Nat):(∀a0 a1 u r,DC n a0 a1 u=some r→BX Try.prog Try.f8 [1,1,0,1,0] (.bool r) ⟨[(0,.ro (List.map u8D a0)),(1,.ro (List.map u8D a1)),(5,.int .i64 u)],[],[]⟩):=by
 induction n with
 |zero=>exact((fun _ _ _ _ h=>by rw [DC] at h; cases h))
 | succ n ih=>
  have ih0:=ih
  ·intro a0 a1 u r h
   rw [DC] at h
   refine AP rfl rfl (Z ?_)
   refine A3 (Z ?_)
   refine AB h (fun h=>Z ?_) (fun h=>Z ?_)
   ·refine AF ?_
    refine B3 [] .fin (by kernel_rfl) (Z ?_)
    replace h:=AH h; obtain⟨w,y,h⟩:=h
    refine Af y rfl (Z ?_)
    replace h:=AH h; obtain⟨q,g,h⟩:=h
    refine Af g rfl (Z ?_)
    refine AF ?_
    refine AB h (fun h=>Z ?_) (fun h=>Z ?_)
    ·cases h
     simp only [go_sem]
    ·refine AF ?_
     exact lpF (ih0 a0 a1 (IntKind.i64.wrap (u+1)) _ h) [] []
   ·refine AF ?_
    cases h
    simp only [go_sem]
theorem Ng (a0 a1 r) (h:FF a0 a1=some r):AC Try.prog 8 [.ro (List.map u8D a0),.ro (List.map u8D a1)] (.bool r):=by
 unfold FF at h
 refine acF Try.func8 mixed (h:=Z ?_)
 refine AB h (fun h=>Z ?_) (fun h=>Z ?_)
 ·cases h
  simp only [go_sem]
 ·refine AF ?_
  exact loF (KA fuel a0 a1 0 _ h) [] []
theorem I5 (n:Nat):(∀u w y (z1:Option Nat) r,Bv n u w y=some r→Cy Try.prog Try.f9 [1,0,1,0] (.int .i64 r.1) [(1,⟨List.map u8D r.2,z1,0,false⟩)] [] ⟨[(0,.own 1),(1,.int .i64 w),(5,.int .i64 y)],[(1,some ⟨List.map u8D u,z1,0,false⟩)],[]⟩):=by
 induction n with
 |zero=>exact((fun _ _ _ _ _ h=>by rw [Bv] at h; cases h))
 | succ n ih=>
  have ih0:=ih
  ·intro u w y z1 r h
   rw [Bv] at h
   refine Av rfl rfl (Z ?_)
   refine A3 (Z ?_)
   refine AB h (fun h=>Z ?_) (fun h=>Z ?_)
   ·refine AF ?_
    replace h:=AH h; obtain⟨q,g,h⟩:=h
    refine Af g rfl (Z ?_)
    replace h:=AH h; obtain⟨j,k,h⟩:=h
    refine Br (Ba g) (Z ?_)
    refine AU (List.map u8D j) (by rw [← AX k]; simp only [List.map_set,go_sem,slD]) (Z ?_)
    refine AF ?_
    exact lpG (ih0 j (IntKind.i64.wrap (w+1)) (IntKind.i64.wrap (y+1)) z1 _ h) [(1,1)] []
   ·refine AF ?_
    cases h
    refine CL (.done _) [(1,1)] [] ?_
    simp only [go_sem]
theorem Ln (a0 a1) (z1:Option Nat) (r) (h:EB a0 a1=some r):AG Try.prog 9 [.own 1,.int .i64 a1] [(1,⟨List.map u8D a0,z1,0,false⟩)] [] (.int .i64 r.1) [(1,⟨List.map u8D r.2,z1,0,false⟩)] [] :=by
 unfold EB at h
 refine agF Try.func9 mixed (h:=Z ?_)
 exact loG (I5 fuel a0 a1 0 z1 _ h) [(1,1)] []
end Go.Proofs.Ytijdanbelnmmlaa.Ab
