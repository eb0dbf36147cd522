/-
 The functions do what their models say. Printed by wip/ab/gen.py.
-/
import Derived.Test.YtckcfdggbbabfaaGreatModP
import Derived.Test.YtckcfdggbbabfaaGreatTi2
import Derived.Test.YtckcfdggbbabfaaGreatWlkV
namespace Go.Proofs.YtckcfdggbbabfaaGreat.Ab
set_option linter.unusedVariables false
set_option linter.unusedSimpArgs false
set_option maxRecDepth 20000
set_option maxHeartbeats 4000000
open Go.RowKit
theorem Nz (n:Nat):(∀u w y r,CA n u w y=some r→Al Tryz.prog Tryz.f39 [1,1,1,1,0,1,0] (.tup [.ow (some 1) (List.map AO r.1),.int .i64 r.2]) ⟨[(8,.own 1000001000),(10,.own 1000001001),(11,.int .i64 y)],[(1000001000,some ⟨List.map (slD AO) u.1,some 1,0,false⟩),(1000001001,some ⟨List.map AO w,some 1,0,false⟩)],[]⟩):=by
 induction n with
 |zero=>exact((fun _ _ _ _ h=>by rw [CA] at h; cases h))
 | succ n ih=>
  have ih0:=ih
  ·intro u w y r h
   rw [CA] at h
   refine AN rfl rfl (Z ?_)
   refine AX (Z ?_)
   refine AD h (fun h=>Z ?_) (fun h=>Z ?_)
   ·refine AF ?_
    replace h:=AB h; obtain⟨q,g,h⟩:=h
    refine AM g rfl (Z ?_)
    refine AZ (AP g) (Z ?_)
    refine AZ (DJ (sz:=1) (j:=0) (r:=List.map AO q) (AP (f:=(slD AO)) g) rfl (by rfl)) (Z ?_)
    replace h:=AB h; obtain⟨k,b,h⟩:=h
    have hq_:=A5 b
    obtain⟨hv9007a,hv9007b⟩:=hq_
    refine Di false (Z ?_)
    refine BC (by refine⟨?_,?_⟩ <;> (try simp only [List.length_map,List.length_append,List.length_cons,List.length_nil] at*) <;> (try unfold maxLen) <;> omega) (Z ?_)
    refine An (List.map AO k) (by rw [← hv9007b]; simp only [List.map_append,List.map_cons,List.map_nil,List.nil_append,List.append_nil,go_sem,slD]) (Z ?_)
    refine AF ?_
    exact lpF (ih0 u k (IntKind.i64.wrap (y+1)) _ h) [(1000001000,1000001000),(1000001001,144112)] []
   ·refine AF ?_
    cases h
    simp only [go_sem]
theorem Qe (a0 a1 a2 r) (h:HE a0 a1 a2=some r):AC Tryz.prog 39 [.ro (List.map Net.ds a0),.agg (Net.avs a1),.int .i64 a2] (.tup [.ow (some 1) (List.map AO r.1),.int .i64 r.2]):=by
 unfold HE at h
 refine acF Tryz.func39 mixed (h:=Z ?_)
 replace h:=AB h; obtain⟨u,w,h⟩:=h
 refine AH (JV _ _ _ _ _ w) (Z ?_)
 refine AF ?_
 refine AD h (fun h=>Z ?_) (fun h=>Z ?_)
 ·cases h
  simp only [go_sem]
 ·refine AF ?_
  refine Ch (DK rfl rfl (Nz fuel u [] 0 _ h):) (.one ⟨_,.lit 10 2000000000 5000 0 1 false [] _ _ (by (first|rfl|(simp only [go_sem]; rfl))) (by simp only [go_sem]; rfl) (by (first|rfl|(simp only [go_sem]; rfl))) (by (first|rfl|(simp only [go_sem]; rfl))) (by decide) (by decide) (by simp only [go_sem]) (.done _),[(1000001000,32032),(1000001001,2000000000)],[],?_⟩)
  simp only [go_sem]
  all_goals try rfl
theorem Fz (u:Int × (List Int)) (w:Bool) (r:Bool) (h:CP u w=some r):Al Tryz.prog Tryz.f8 [1,1,1,1,1,1,1,1,1,1,1,1,1,1,1,1,1,1,1,1,1,1,1,1,0,1] (.bool r) ⟨[(12,.own 1000002000),(15,.int .i64 u.1),(115,.bool w)],[(1000002000,some ⟨List.map AO u.2,some 1,0,false⟩)],[]⟩:=by
 unfold CP at h
 refine AN rfl rfl (Z ?_)
 refine AD h (fun h=>Z ?_) (fun h=>Z ?_)
 ·cases h
  simp only [go_sem]
 ·refine AF ?_
  replace h:=AB h; obtain⟨y,q,h⟩:=h
  refine AH (ID _ _ _ q) (Z ?_)
  refine AF ?_
  refine AD h (fun h=>Z ?_) (fun h=>Z ?_)
  ·cases h
   simp only [go_sem]
  ·refine AF ?_
   refine AD h (fun h=>Z ?_) (fun h=>Z ?_)
   ·cases h
    simp only [go_sem]
   ·refine AF ?_
    cases h
    simp only [go_sem]
theorem Dx (a0:List Net) (a1:Net) (a2:Int) (u:(List Int) × Int) (w:(List Int) × Int) (y:Bool) (r:Bool) (h:Bk a0 a1 a2 u w y=some r):Al Tryz.prog Tryz.f8 [1,1,1,1,1,1,1,1,1,1,1,1,1,1,1,1,0,1] (.bool r) ⟨[(0,.ro (List.map Net.ds a0)),(2,.int .i64 a2),(4,.box 1000001500 0),(8,.own 1000001000),(9,.int .i64 u.2),(12,.own 1000001001),(86,.bool y)],[(1000001000,some ⟨List.map AO u.1,some 1,0,false⟩),(1000001001,some ⟨List.map AO w.1,some 1,0,false⟩)],[(1000001500,some [.ro (List.map Agent.ds a1.agents)])]⟩:=by
 unfold Bk at h
 refine AN rfl rfl (Z ?_)
 refine AD h (fun h=>Z ?_) (fun h=>Z ?_)
 ·cases h
  simp only [go_sem]
 ·refine AF ?_
  replace h:=AB h; obtain⟨q,g,h⟩:=h
  refine caG ⟨[],[(1,1000001001)],[],[],[],true⟩ (IC _ _ (some 1) _ g) (Z ?_)
  refine AF ?_
  replace h:=AB h; obtain⟨j,k,h⟩:=h
  refine AH (ID _ _ _ k) (Z ?_)
  refine AF ?_
  refine AD h (fun h=>Z ?_) (fun h=>Z ?_)
  ·cases h
   simp only [go_sem]
  ·refine AF ?_
   refine AD h (fun h=>Z ?_) (fun h=>Z ?_)
   ·cases h
    simp only [go_sem]
   ·refine AF ?_
    refine AY [] .fin (by kernel_rfl) (Z ?_)
    replace h:=AB h; obtain⟨b,d,h⟩:=h
    refine AH (C3 _ _ d) (Z ?_)
    replace h:=AB h; obtain⟨c,e,h⟩:=h
    refine AH (DE _ _ e) (Z ?_)
    replace h:=AB h; obtain⟨i,l,h⟩:=h
    refine AH (IE _ _ _ _ l) (Z ?_)
    refine AF ?_
    replace h:=AB h; obtain⟨t,s,h⟩:=h
    refine AH (GK _ _ _ s) (Z ?_)
    refine AD h (fun h=>Z ?_) (fun h=>Z ?_)
    ·exact AW (Fz q true _ h) [(1000002000,1000001001)] []
    ·exact AW (Fz q (!decide (i.2 =u.2)) _ h) [(1000002000,1000001001)] []
theorem F0 (a0:List Net) (a1:Net) (a2:Int) (u:(List Int) × Int) (w:(List Net)) (y:Net) (q:(List Int) × Int) (g:Bool) (r:Bool) (h:CQ a0 a1 a2 u w y q g=some r):Al Tryz.prog Tryz.f8 [1,1,1,1,1,1,1,1,1,1,0,1] (.bool r) ⟨[(0,.ro (List.map Net.ds a0)),(2,.int .i64 a2),(4,.box 1000000500 0),(8,.own 1000000000),(9,.int .i64 u.2),(10,.own 1000000001),(11,.box 1000000501 0),(12,.own 1000000003),(13,.int .i64 q.2),(57,.bool g)],[(1000000000,some ⟨List.map AO u.1,some 1,0,false⟩),(1000000001,some ⟨List.map Net.ds w,some 1,0,false⟩),(1000000002,some ⟨List.map Agent.ds y.agents,some 5,0,false⟩),(1000000003,some ⟨List.map AO q.1,some 1,0,false⟩)],[(1000000500,some [.ro (List.map Agent.ds a1.agents)]),(1000000501,some [.own 1000000002])]⟩:=by
 unfold CQ at h
 refine AN rfl rfl (Z ?_)
 refine AD h (fun h=>Z ?_) (fun h=>Z ?_)
 ·cases h
  simp only [go_sem]
 ·refine AF ?_
  replace h:=AB h; obtain⟨j,k,h⟩:=h
  refine AH (C3 _ _ k) (Z ?_)
  replace h:=AB h; obtain⟨b,d,h⟩:=h
  refine AH (Ma _ _ _ d) (Z ?_)
  refine AF ?_
  refine AD h (fun h=>Z ?_) (fun h=>Z ?_)
  ·cases h
   simp only [go_sem]
  ·refine AF ?_
   refine AY [] .fin (by kernel_rfl) (Z ?_)
   replace h:=AB h; obtain⟨c,e,h⟩:=h
   refine AH (DE _ _ e) (Z ?_)
   replace h:=AB h; obtain⟨i,l,h⟩:=h
   refine AH (LK _ _ _ l) (Z ?_)
   refine AF ?_
   refine AD h (fun h=>Z ?_) (fun h=>Z ?_)
   ·cases h
    simp only [go_sem]
   ·refine AF ?_
    replace h:=AB h; obtain⟨t,s,h⟩:=h
    refine caG ⟨[],[(1,1000000001)],[],[],[],true⟩ (NL _ _ (some 1) _ s) (Z ?_)
    refine AF ?_
    replace h:=AB h; obtain⟨o,z,h⟩:=h
    refine caG ⟨[],[(1,1000000002)],[],[],[],true⟩ (O5 _ _ (some 5) _ z) (Z ?_)
    refine AF ?_
    refine AD h (fun h=>Z ?_) (fun h=>Z ?_)
    ·exact AW (Dx a0 a1 a2 u q true _ h) [(1000001000,1000000000),(1000001001,1000000003)] [(1000001500,1000000500)]
    ·replace h:=AB h; obtain⟨u1,u2,h⟩:=h
     refine AH (GK _ _ _ u2) (Z ?_)
     refine AD h (fun h=>Z ?_) (fun h=>Z ?_)
     ·exact AW (Dx a0 a1 a2 u q true _ h) [(1000001000,1000000000),(1000001001,1000000003)] [(1000001500,1000000500)]
     ·exact AW (Dx a0 a1 a2 u q (!decide (q.2 =u.2)) _ h) [(1000001000,1000000000),(1000001001,1000000003)] [(1000001500,1000000500)]
theorem K2 (a0 a1 a2 r) (h:EX a0 a1 a2=some r):AC Tryz.prog 8 [.ro (List.map Net.ds a0),.agg (Net.avs a1),.int .i64 a2] (.bool r):=by
 unfold EX at h
 refine acF Tryz.func8 mixed (h:=Z ?_)
 replace h:=AB h; obtain⟨u,w,h⟩:=h
 refine AH (Mb _ _ _ w) (Z ?_)
 refine AF ?_
 refine AD h (fun h=>Z ?_) (fun h=>Z ?_)
 ·cases h
  simp only [go_sem]
 ·refine AF ?_
  replace h:=AB h; obtain⟨y,q,h⟩:=h
  refine AH (LL _ _ _ q) (Z ?_)
  refine AF ?_
  refine AD h (fun h=>Z ?_) (fun h=>Z ?_)
  ·cases h
   simp only [go_sem]
  ·refine AF ?_
   refine AY [] .fin (by kernel_rfl) (Z ?_)
   replace h:=AB h; obtain⟨g,j,h⟩:=h
   refine AH (C3 _ _ j) (Z ?_)
   replace h:=AB h; obtain⟨k,b,h⟩:=h
   refine AH (DE _ _ b) (Z ?_)
   replace h:=AB h; obtain⟨d,c,h⟩:=h
   refine AH (Qe _ _ _ _ c) (Z ?_)
   refine AF ?_
   replace h:=AB h; obtain⟨e,i,h⟩:=h
   refine AH (C3 _ _ i) (Z ?_)
   refine AF ?_
   replace h:=AB h; obtain⟨l,t,h⟩:=h
   refine AH (DE _ _ t) (Z ?_)
   refine AF ?_
   replace h:=AB h; obtain⟨s,o,h⟩:=h
   refine AH (IE _ _ _ _ o) (Z ?_)
   refine AF ?_
   replace h:=AB h; obtain⟨z,u1,h⟩:=h
   refine AH (GK _ _ _ u1) (Z ?_)
   refine AD h (fun h=>Z ?_) (fun h=>Z ?_)
   ·exact AW (F0 a0 a1 a2 d e l s true _ h) [(1000000000,144080),(1000000001,160016),(1000000002,176016),(1000000003,192048)] [(1000000500,1000),(1000000501,11002)]
   ·exact AW (F0 a0 a1 a2 d e l s (!decide (s.2 =d.2)) _ h) [(1000000000,144080),(1000000001,160016),(1000000002,176016),(1000000003,192048)] [(1000000500,1000),(1000000501,11002)]
end Go.Proofs.YtckcfdggbbabfaaGreat.Ab
