/-
 The functions do what their models say. Printed by wip/ab/gen.py.
-/
import Derived.Test.YtckcfdggbbabfaaGreatModQ
import Derived.Test.YtckcfdggbbabfaaGreatTi2
import Derived.Test.YtckcfdggbbabfaaGreatWlkS
namespace Go.Proofs.YtckcfdggbbabfaaGreat.Ab
set_option linter.unusedVariables false
set_option linter.unusedSimpArgs false
set_option maxRecDepth 20000
set_option maxHeartbeats 4000000
open Go.RowKit
theorem N0 (n:Nat):(∀a0 u w r,Cd n a0 u w=some r→Al Tryz.prog Tryz.f94 [1,1,0,1,0] (.ow (some 1) (List.map AO r)) ⟨[(0,.ro (List.map AO a0)),(3,.own 1000001000),(4,.int .i64 w)],[(1000001000,some ⟨List.map AO u,some 1,0,false⟩)],[]⟩):=by
 induction n with
 |zero=>exact((fun _ _ _ _ h=>by rw [Cd] at h; cases h))
 | succ n ih=>
  have ih0:=ih
  ·intro a0 u w r h
   rw [Cd] at h
   refine AN rfl rfl (Z ?_)
   refine AX (Z ?_)
   refine AD h (fun h=>Z ?_) (fun h=>Z ?_)
   ·refine AF ?_
    replace h:=AB h; obtain⟨y,q,h⟩:=h
    refine AM q rfl (Z ?_)
    replace h:=AB h; obtain⟨g,j,h⟩:=h
    refine AM j rfl (Z ?_)
    refine AZ (AP j) (Z ?_)
    replace h:=AB h; obtain⟨k,b,h⟩:=h
    refine AM b rfl (Z ?_)
    replace h:=AB h; obtain⟨d,c,h⟩:=h
    refine AZ (AP b) (Z ?_)
    refine An (List.map AO d) (by rw [← Ao c]; simp only [List.map_set,go_sem,slD]) (Z ?_)
    refine AF ?_
    exact lpF (ih0 a0 d (IntKind.i64.wrap (w+1)) _ h) [(1000001000,1000001000)] []
   ·refine AF ?_
    cases h
    simp only [go_sem]
theorem Qf (a0 r) (h:IU a0=some r):AC Tryz.prog 94 [.ro (List.map AO a0)] (.ow (some 1) (List.map AO r)):=by
 unfold IU at h
 refine acF Tryz.func94 mixed (h:=Z ?_)
 refine Ch (DK rfl rfl (N0 fuel a0 [0,0,0,0,0,0,0] 0 _ h):) (.one ⟨_,.lit 3 2000000000 2000 7 1 false [] _ _ (by (first|rfl|(simp only [go_sem]; rfl))) (by simp only [go_sem]; rfl) (by (first|rfl|(simp only [go_sem]; rfl))) (by (first|rfl|(simp only [go_sem]; rfl))) (by decide) (by decide) (by simp only [go_sem]) (.done _),[(1000001000,2000000000)],[],?_⟩)
 simp only [go_sem]
 all_goals try rfl
theorem Mc (n:Nat):(∀u w y r,Ba n u w y=some r→Al Tryz.prog Tryz.f42 [1,1,1,1,0,1,0] (.tup [.ow (some 1) (List.map (slD AO) r.1),.int .i64 r.2]) ⟨[(8,.own 1000001000),(10,.own 1000001001),(11,.int .i64 y)],[(1000001000,some ⟨List.map (slD AO) u.1,some 1,0,false⟩),(1000001001,some ⟨List.map (slD AO) w,some 1,0,false⟩)],[]⟩):=by
 induction n with
 |zero=>exact((fun _ _ _ _ h=>by rw [Ba] at h; cases h))
 | succ n ih=>
  have ih0:=ih
  ·intro u w y r h
   rw [Ba] at h
   refine AN rfl rfl (Z ?_)
   refine AX (Z ?_)
   refine AD h (fun h=>Z ?_) (fun h=>Z ?_)
   ·refine AF ?_
    replace h:=AB h; obtain⟨q,g,h⟩:=h
    refine AM g rfl (Z ?_)
    refine AZ (AP g) (Z ?_)
    replace h:=AB h; obtain⟨k,b,h⟩:=h
    refine Jy (by simp only [AP g,slD,DJ (sz:=1) (j:=0) (r:=List.map AO q) (AP (f:=(slD AO)) g) rfl (by rfl),go_sem,Nat.reduceEqDiff,reduceIte] <;> rfl) (Qf _ _ b) (Z ?_)
    replace h:=AB h; obtain⟨d,c,h⟩:=h
    have hq_:=A5 c
    obtain⟨hv9007a,hv9007b⟩:=hq_
    refine Di false (Z ?_)
    refine BC (by refine⟨?_,?_⟩ <;> (try simp only [List.length_map,List.length_append,List.length_cons,List.length_nil] at*) <;> (try unfold maxLen) <;> omega) (Z ?_)
    refine An (List.map (slD AO) d) (by rw [← hv9007b]; simp only [List.map_append,List.map_cons,List.map_nil,List.nil_append,List.append_nil,go_sem,slD]) (Z ?_)
    refine AF ?_
    exact lpF (ih0 u d (IntKind.i64.wrap (y+1)) _ h) [(1000001000,1000001000),(1000001001,144112)] []
   ·refine AF ?_
    cases h
    simp only [go_sem]
theorem O6 (a0 a1 a2 r) (h:Fd a0 a1 a2=some r):AC Tryz.prog 42 [.ro (List.map Net.ds a0),.agg (Net.avs a1),.int .i64 a2] (.tup [.ow (some 1) (List.map (slD AO) r.1),.int .i64 r.2]):=by
 unfold Fd at h
 refine acF Tryz.func42 mixed (h:=Z ?_)
 replace h:=AB h; obtain⟨u,w,h⟩:=h
 refine AH (JV _ _ _ _ _ w) (Z ?_)
 refine AF ?_
 refine AD h (fun h=>Z ?_) (fun h=>Z ?_)
 ·cases h
  simp only [go_sem]
 ·refine AF ?_
  refine Ch (DK rfl rfl (Mc fuel u [] 0 _ h):) (.one ⟨_,.lit 10 2000000000 5000 0 1 false [] _ _ (by (first|rfl|(simp only [go_sem]; rfl))) (by simp only [go_sem]; rfl) (by (first|rfl|(simp only [go_sem]; rfl))) (by (first|rfl|(simp only [go_sem]; rfl))) (by decide) (by decide) (by simp only [go_sem]) (.done _),[(1000001000,32032),(1000001001,2000000000)],[],?_⟩)
  simp only [go_sem]
  all_goals try rfl
theorem Js (a0 a1 a2 r) (h:Eb a0 a1 a2=some r):AC Tryz.prog 43 [.ro (List.map Net.ds a0),.agg (Net.avs a1),.int .i64 a2] (.tup [.ow (some 1) (List.map (slD AO) r.1),.int .i64 r.2]):=by
 unfold Eb at h
 refine acF Tryz.func43 mixed (h:=Z ?_)
 replace h:=AB h; obtain⟨u,w,h⟩:=h
 refine caG ⟨[],[],[],[(1501,32048)],[],true⟩ (NM _ _ _ _ w) (Z ?_)
 refine AF ?_
 cases h
 simp only [go_sem]
theorem O7 (n:Nat):(∀a0 a1 u r,Dm n a0 a1 u=some r→Al Tryz.prog Tryz.f44 [1,1,0,1,0] (.bool r) ⟨[(0,.ro (List.map (slD AO) a0)),(1,.ro (List.map (slD AO) a1)),(5,.int .i64 u)],[],[]⟩):=by
 induction n with
 |zero=>exact((fun _ _ _ _ h=>by rw [Dm] at h; cases h))
 | succ n ih=>
  have ih0:=ih
  ·intro a0 a1 u r h
   rw [Dm] at h
   refine AN rfl rfl (Z ?_)
   refine AX (Z ?_)
   refine AD h (fun h=>Z ?_) (fun h=>Z ?_)
   ·refine AF ?_
    refine AY [] .fin (by kernel_rfl) (Z ?_)
    replace h:=AB h; obtain⟨w,y,h⟩:=h
    refine AM y rfl (Z ?_)
    replace h:=AB h; obtain⟨q,g,h⟩:=h
    refine AM g rfl (Z ?_)
    replace h:=AB h; obtain⟨j,k,h⟩:=h
    refine AH (GK _ _ _ k) (Z ?_)
    refine AF ?_
    refine AD h (fun h=>Z ?_) (fun h=>Z ?_)
    ·cases h
     simp only [go_sem]
    ·refine AF ?_
     exact lpF (ih0 a0 a1 (IntKind.i64.wrap (u+1)) _ h) [] []
   ·refine AF ?_
    cases h
    simp only [go_sem]
theorem JW (a0 a1 r) (h:Eo a0 a1=some r):AC Tryz.prog 44 [.ro (List.map (slD AO) a0),.ro (List.map (slD AO) a1)] (.bool r):=by
 unfold Eo at h
 refine acF Tryz.func44 mixed (h:=Z ?_)
 refine AD h (fun h=>Z ?_) (fun h=>Z ?_)
 ·cases h
  simp only [go_sem]
 ·refine AF ?_
  exact loF (O7 fuel a0 a1 0 _ h) [] []
theorem M5 (n:Nat):(∀u w y (z1:Option Nat) r,CI n u w y=some r→DA Tryz.prog Tryz.f45 [1,0,1,0] (.int .i64 r.1) [(1,⟨List.map (slD AO) r.2,z1,0,false⟩)] [] ⟨[(0,.own 1),(1,.int .i64 w),(5,.int .i64 y)],[(1,some ⟨List.map (slD AO) u,z1,0,false⟩)],[]⟩):=by
 induction n with
 |zero=>exact((fun _ _ _ _ _ h=>by rw [CI] at h; cases h))
 | succ n ih=>
  have ih0:=ih
  ·intro u w y z1 r h
   rw [CI] at h
   refine Av rfl rfl (Z ?_)
   refine AX (Z ?_)
   refine AD h (fun h=>Z ?_) (fun h=>Z ?_)
   ·refine AF ?_
    replace h:=AB h; obtain⟨q,g,h⟩:=h
    refine AM g rfl (Z ?_)
    refine AZ (AP g) (Z ?_)
    replace h:=AB h; obtain⟨j,k,h⟩:=h
    replace h:=AB h; obtain⟨b,d,h⟩:=h
    refine caG ⟨[(3000080080,.sub 1 0 [(1,Int.toNat y,0)],none)],[(1,3000080080)],[],[],[],true⟩ (IC _ _ none _ k) (Z ?_)
    refine AZ (DJ (r:=List.map AO q) (AP g) rfl (by simp only [go_sem,slD])) (Z ?_)
    refine An ((List.map (slD AO) u).set (Int.toNat y) [.gone]) ((GT (AP g) (d':=.sl (List.map AO q)) (by simp only [go_sem,slD])).trans (by simp only [go_sem,slD])) (Z ?_)
    refine BC (T0 (Jz (AP g)) rfl rfl) (Z ?_)
    refine An (List.map (slD AO) b) (((GT (Jz (AP g)) (d':=.gone) rfl).trans (List.set_set ..)).trans (by rw [← Ao d]; simp only [List.map_set,go_sem,slD])) (Z ?_)
    refine AF ?_
    exact lpG (ih0 b j.1 (IntKind.i64.wrap (y+1)) z1 _ h) [(1,1)] []
   ·refine AF ?_
    cases h
    refine A7 (.done _) [(1,1)] [] ?_
    simp only [go_sem]
theorem Pn (a0 a1) (z1:Option Nat) (r) (h:FF a0 a1=some r):AG Tryz.prog 45 [.own 1,.int .i64 a1] [(1,⟨List.map (slD AO) a0,z1,0,false⟩)] [] (.int .i64 r.1) [(1,⟨List.map (slD AO) r.2,z1,0,false⟩)] [] :=by
 unfold FF at h
 refine agF Tryz.func45 mixed (h:=Z ?_)
 exact loG (M5 fuel a0 a1 0 z1 _ h) [(1,1)] []
theorem M6 (n:Nat):(∀a0 u w r,CJ n a0 u w=some r→Al Tryz.prog Tryz.f46 [1,0,1,0] (.int .i64 r) ⟨[(0,.ro (List.map (slD AO) a0)),(1,.int .i64 u),(5,.int .i64 w)],[],[]⟩):=by
 induction n with
 |zero=>exact((fun _ _ _ _ h=>by rw [CJ] at h; cases h))
 | succ n ih=>
  have ih0:=ih
  ·intro a0 u w r h
   rw [CJ] at h
   refine AN rfl rfl (Z ?_)
   refine AX (Z ?_)
   refine AD h (fun h=>Z ?_) (fun h=>Z ?_)
   ·refine AF ?_
    replace h:=AB h; obtain⟨y,q,h⟩:=h
    refine AM q rfl (Z ?_)
    replace h:=AB h; obtain⟨g,j,h⟩:=h
    refine AH (ID _ _ _ j) (Z ?_)
    refine AF ?_
    refine AD h (fun h=>Z ?_) (fun h=>Z ?_)
    ·cases h
     simp only [go_sem]
    ·refine AF ?_
     exact lpF (ih0 a0 g (IntKind.i64.wrap (w+1)) _ h) [] []
   ·refine AF ?_
    cases h
    simp only [go_sem]
theorem Kk (a0 a1 r) (h:EO a0 a1=some r):AC Tryz.prog 46 [.ro (List.map (slD AO) a0),.int .i64 a1] (.int .i64 r):=by
 unfold EO at h
 refine acF Tryz.func46 mixed (h:=Z ?_)
 exact loF (M6 fuel a0 a1 0 _ h) [] []
theorem FO (u:Int × (List (List Int))) (w:Bool) (r:Bool) (h:Bx u w=some r):Al Tryz.prog Tryz.f9 [1,1,1,1,1,1,1,1,1,1,1,1,1,1,1,1,1,1,1,1,1,1,1,1,0,1] (.bool r) ⟨[(12,.own 1000002000),(15,.int .i64 u.1),(115,.bool w)],[(1000002000,some ⟨List.map (slD AO) u.2,some 1,0,false⟩)],[]⟩:=by
 unfold Bx at h
 refine AN rfl rfl (Z ?_)
 refine AD h (fun h=>Z ?_) (fun h=>Z ?_)
 ·cases h
  simp only [go_sem]
 ·refine AF ?_
  replace h:=AB h; obtain⟨y,q,h⟩:=h
  refine AH (Kk _ _ _ q) (Z ?_)
  refine AF ?_
  refine AD h (fun h=>Z ?_) (fun h=>Z ?_)
  ·cases h
   simp only [go_sem]
  ·refine AF ?_
   refine AD h (fun h=>Z ?_) (fun h=>Z ?_)
   ·cases h
    simp only [go_sem]
   ·refine AF ?_
    cases h
    simp only [go_sem]
theorem DR (a0:List Net) (a1:Net) (a2:Int) (u:(List (List Int)) × Int) (w:(List (List Int)) × Int) (y:Bool) (r:Bool) (h:BU a0 a1 a2 u w y=some r):Al Tryz.prog Tryz.f9 [1,1,1,1,1,1,1,1,1,1,1,1,1,1,1,1,0,1] (.bool r) ⟨[(0,.ro (List.map Net.ds a0)),(2,.int .i64 a2),(4,.box 1000001500 0),(8,.own 1000001000),(9,.int .i64 u.2),(12,.own 1000001001),(86,.bool y)],[(1000001000,some ⟨List.map (slD AO) u.1,some 1,0,false⟩),(1000001001,some ⟨List.map (slD AO) w.1,some 1,0,false⟩)],[(1000001500,some [.ro (List.map Agent.ds a1.agents)])]⟩:=by
 unfold BU at h
 refine AN rfl rfl (Z ?_)
 refine AD h (fun h=>Z ?_) (fun h=>Z ?_)
 ·cases h
  simp only [go_sem]
 ·refine AF ?_
  replace h:=AB h; obtain⟨q,g,h⟩:=h
  refine caG ⟨[],[(1,1000001001)],[],[],[],true⟩ (Pn _ _ (some 1) _ g) (Z ?_)
  refine AF ?_
  replace h:=AB h; obtain⟨j,k,h⟩:=h
  refine AH (Kk _ _ _ k) (Z ?_)
  refine AF ?_
  refine AD h (fun h=>Z ?_) (fun h=>Z ?_)
  ·cases h
   simp only [go_sem]
  ·refine AF ?_
   refine AD h (fun h=>Z ?_) (fun h=>Z ?_)
   ·cases h
    simp only [go_sem]
   ·refine AF ?_
    refine AY [] .fin (by kernel_rfl) (Z ?_)
    replace h:=AB h; obtain⟨b,d,h⟩:=h
    refine AH (C3 _ _ d) (Z ?_)
    replace h:=AB h; obtain⟨c,e,h⟩:=h
    refine AH (DE _ _ e) (Z ?_)
    replace h:=AB h; obtain⟨i,l,h⟩:=h
    refine AH (Js _ _ _ _ l) (Z ?_)
    refine AF ?_
    replace h:=AB h; obtain⟨t,s,h⟩:=h
    refine AH (JW _ _ _ s) (Z ?_)
    refine AD h (fun h=>Z ?_) (fun h=>Z ?_)
    ·exact AW (FO q true _ h) [(1000002000,1000001001)] []
    ·exact AW (FO q (!decide (i.2 =u.2)) _ h) [(1000002000,1000001001)] []
theorem FP (a0:List Net) (a1:Net) (a2:Int) (u:(List (List Int)) × Int) (w:(List Net)) (y:Net) (q:(List (List Int)) × Int) (g:Bool) (r:Bool) (h:By a0 a1 a2 u w y q g=some r):Al Tryz.prog Tryz.f9 [1,1,1,1,1,1,1,1,1,1,0,1] (.bool r) ⟨[(0,.ro (List.map Net.ds a0)),(2,.int .i64 a2),(4,.box 1000000500 0),(8,.own 1000000000),(9,.int .i64 u.2),(10,.own 1000000001),(11,.box 1000000501 0),(12,.own 1000000003),(13,.int .i64 q.2),(57,.bool g)],[(1000000000,some ⟨List.map (slD AO) u.1,some 1,0,false⟩),(1000000001,some ⟨List.map Net.ds w,some 1,0,false⟩),(1000000002,some ⟨List.map Agent.ds y.agents,some 5,0,false⟩),(1000000003,some ⟨List.map (slD AO) q.1,some 1,0,false⟩)],[(1000000500,some [.ro (List.map Agent.ds a1.agents)]),(1000000501,some [.own 1000000002])]⟩:=by
 unfold By at h
 refine AN rfl rfl (Z ?_)
 refine AD h (fun h=>Z ?_) (fun h=>Z ?_)
 ·cases h
  simp only [go_sem]
 ·refine AF ?_
  replace h:=AB h; obtain⟨j,k,h⟩:=h
  refine AH (C3 _ _ k) (Z ?_)
  replace h:=AB h; obtain⟨b,d,h⟩:=h
  refine AH (Ma _ _ _ d) (Z ?_)
  refine AF ?_
  refine AD h (fun h=>Z ?_) (fun h=>Z ?_)
  ·cases h
   simp only [go_sem]
  ·refine AF ?_
   refine AY [] .fin (by kernel_rfl) (Z ?_)
   replace h:=AB h; obtain⟨c,e,h⟩:=h
   refine AH (DE _ _ e) (Z ?_)
   replace h:=AB h; obtain⟨i,l,h⟩:=h
   refine AH (LK _ _ _ l) (Z ?_)
   refine AF ?_
   refine AD h (fun h=>Z ?_) (fun h=>Z ?_)
   ·cases h
    simp only [go_sem]
   ·refine AF ?_
    replace h:=AB h; obtain⟨t,s,h⟩:=h
    refine caG ⟨[],[(1,1000000001)],[],[],[],true⟩ (NL _ _ (some 1) _ s) (Z ?_)
    refine AF ?_
    replace h:=AB h; obtain⟨o,z,h⟩:=h
    refine caG ⟨[],[(1,1000000002)],[],[],[],true⟩ (O5 _ _ (some 5) _ z) (Z ?_)
    refine AF ?_
    refine AD h (fun h=>Z ?_) (fun h=>Z ?_)
    ·exact AW (DR a0 a1 a2 u q true _ h) [(1000001000,1000000000),(1000001001,1000000003)] [(1000001500,1000000500)]
    ·replace h:=AB h; obtain⟨u1,u2,h⟩:=h
     refine AH (JW _ _ _ u2) (Z ?_)
     refine AD h (fun h=>Z ?_) (fun h=>Z ?_)
     ·exact AW (DR a0 a1 a2 u q true _ h) [(1000001000,1000000000),(1000001001,1000000003)] [(1000001500,1000000500)]
     ·exact AW (DR a0 a1 a2 u q (!decide (q.2 =u.2)) _ h) [(1000001000,1000000000),(1000001001,1000000003)] [(1000001500,1000000500)]
theorem J0 (a0 a1 a2 r) (h:Dt a0 a1 a2=some r):AC Tryz.prog 9 [.ro (List.map Net.ds a0),.agg (Net.avs a1),.int .i64 a2] (.bool r):=by
 unfold Dt at h
 refine acF Tryz.func9 mixed (h:=Z ?_)
 replace h:=AB h; obtain⟨u,w,h⟩:=h
 refine AH (Mb _ _ _ w) (Z ?_)
 refine AF ?_
 refine AD h (fun h=>Z ?_) (fun h=>Z ?_)
 ·cases h
  simp only [go_sem]
 ·refine AF ?_
  replace h:=AB h; obtain⟨y,q,h⟩:=h
  refine AH (LL _ _ _ q) (Z ?_)
  refine AF ?_
  refine AD h (fun h=>Z ?_) (fun h=>Z ?_)
  ·cases h
   simp only [go_sem]
  ·refine AF ?_
   refine AY [] .fin (by kernel_rfl) (Z ?_)
   replace h:=AB h; obtain⟨g,j,h⟩:=h
   refine AH (C3 _ _ j) (Z ?_)
   replace h:=AB h; obtain⟨k,b,h⟩:=h
   refine AH (DE _ _ b) (Z ?_)
   replace h:=AB h; obtain⟨d,c,h⟩:=h
   refine AH (O6 _ _ _ _ c) (Z ?_)
   refine AF ?_
   replace h:=AB h; obtain⟨e,i,h⟩:=h
   refine AH (C3 _ _ i) (Z ?_)
   refine AF ?_
   replace h:=AB h; obtain⟨l,t,h⟩:=h
   refine AH (DE _ _ t) (Z ?_)
   refine AF ?_
   replace h:=AB h; obtain⟨s,o,h⟩:=h
   refine AH (Js _ _ _ _ o) (Z ?_)
   refine AF ?_
   replace h:=AB h; obtain⟨z,u1,h⟩:=h
   refine AH (JW _ _ _ u1) (Z ?_)
   refine AD h (fun h=>Z ?_) (fun h=>Z ?_)
   ·exact AW (FP a0 a1 a2 d e l s true _ h) [(1000000000,144080),(1000000001,160016),(1000000002,176016),(1000000003,192048)] [(1000000500,1000),(1000000501,11002)]
   ·exact AW (FP a0 a1 a2 d e l s (!decide (s.2 =d.2)) _ h) [(1000000000,144080),(1000000001,160016),(1000000002,176016),(1000000003,192048)] [(1000000500,1000),(1000000501,11002)]
end Go.Proofs.YtckcfdggbbabfaaGreat.Ab
