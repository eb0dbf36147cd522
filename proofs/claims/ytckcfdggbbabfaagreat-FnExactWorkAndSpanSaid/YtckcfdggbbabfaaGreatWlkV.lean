/-
 The functions do what their models say. Printed by wip/ab/gen.py.
-/
import Derived.Test.YtckcfdggbbabfaaGreatModV
import Derived.Test.YtckcfdggbbabfaaGreatTi2
import Derived.Test.YtckcfdggbbabfaaGreatWlkS
namespace Go.Proofs.YtckcfdggbbabfaaGreat.Ab
set_option linter.unusedVariables false
set_option linter.unusedSimpArgs false
set_option maxRecDepth 20000
set_option maxHeartbeats 4000000
open Go.RowKit
theorem OA (a0 r) (h:GN a0=some r):AC Tryz.prog 204 [.int .i64 a0] (.bool r):=by
 unfold GN at h
 refine acF Tryz.func204 mixed (h:=Z ?_)
 refine AD h (fun h=>Z ?_) (fun h=>Z ?_)
 ·refine AF ?_
  cases h
  simp only [go_sem]
 ·refine AF ?_
  cases h
  simp only [go_sem]
theorem Pu (a0 r) (h:GF a0=some r):AC Tryz.prog 161 [.ro (List.map AO a0)] (.bool r):=by
 unfold GF at h
 refine acF Tryz.func161 mixed (h:=Z ?_)
 refine AD h (fun h=>Z ?_) (fun h=>Z ?_)
 ·replace h:=AB h; obtain⟨u,w,h⟩:=h
  refine AH (EV _ _ 204 [] (Still.of rfl) (fun y0 q hq=>OA y0  q hq) _ w) (Z ?_)
  refine AF ?_
  cases h
  simp only [go_sem]
 ·refine AF ?_
  cases h
  simp only [go_sem]
theorem M9 (n:Nat):(∀a0 u w r,Co n a0 u w=some r→Al Tryz.prog Tryz.f93 [1,1,1,0,1,0] (.int .i64 r) ⟨[(3,.int .i64 u),(9,.ro (List.map AO a0)),(10,.int .i64 ((List.length a0:Nat):Int)),(11,.int .i64 w)],[],[]⟩):=by
 induction n with
 |zero=>exact((fun _ _ _ _ h=>by rw [Co] at h; cases h))
 | succ n ih=>
  have ih0:=ih
  ·intro a0 u w r h
   rw [Co] at h
   refine AN rfl rfl (Z ?_)
   refine AX (Z ?_)
   refine AD h (fun h=>Z ?_) (fun h=>Z ?_)
   ·refine AF ?_
    replace h:=AB h; obtain⟨y,q,h⟩:=h
    refine AM q rfl (Z ?_)
    refine AF ?_
    exact lpF (ih0 a0 (IntKind.i64.wrap (u+y)) (IntKind.i64.wrap (w+1)) _ h) [] []
   ·refine AF ?_
    cases h
    simp only [go_sem]
theorem Pv (a0 r) (h:GG a0=some r):AC Tryz.prog 93 [.ro (List.map AO a0)] (.int .i64 r):=by
 unfold GG at h
 refine acF Tryz.func93 mixed (h:=Z ?_)
 replace h:=AB h; obtain⟨u,w,h⟩:=h
 refine AH (Pu _ _ w) (Z ?_)
 refine AF ?_
 refine AD h (fun h=>Z ?_) (fun h=>Z ?_)
 ·cases h
  simp only [go_sem]
 ·refine AF ?_
  exact loF (M9 fuel a0 0 0 _ h) [] []
theorem OB (n:Nat):(∀u w y r,CD n u w y=some r→Al Tryz.prog Tryz.f40 [1,1,1,0,1,0] (.tup [.ow (some 1) (List.map AO r.1),.int .i64 r.2]) ⟨[(9,.int .i64 u.2),(10,.own 1000001000),(20,.own 1000001001),(21,.int .i64 ((List.length u.1 :Nat):Int)),(22,.int .i64 y)],[(1000001000,some ⟨List.map AO w,some 1,0,false⟩),(1000001001,some ⟨List.map (slD AO) u.1,some 1,0,false⟩)],[]⟩):=by
 induction n with
 |zero=>exact((fun _ _ _ _ h=>by rw [CD] at h; cases h))
 | succ n ih=>
  have ih0:=ih
  ·intro u w y r h
   rw [CD] at h
   refine AN rfl rfl (Z ?_)
   refine AX (Z ?_)
   refine AD h (fun h=>Z ?_) (fun h=>Z ?_)
   ·refine AF ?_
    replace h:=AB h; obtain⟨q,g,h⟩:=h
    refine AM g rfl (Z ?_)
    refine AZ (AP g) (Z ?_)
    replace h:=AB h; obtain⟨k,b,h⟩:=h
    refine Jy (by simp only [AP g,slD,DJ (sz:=1) (j:=0) (r:=List.map AO q) (AP (f:=(slD AO)) g) rfl (by rfl),go_sem,Nat.reduceEqDiff,reduceIte] <;> rfl) (Pv _ _ b) (Z ?_)
    replace h:=AB h; obtain⟨d,c,h⟩:=h
    have hq_:=A5 c
    obtain⟨hv7004a,hv7004b⟩:=hq_
    refine Di false (Z ?_)
    refine BC (by refine⟨?_,?_⟩ <;> (try simp only [List.length_map,List.length_append,List.length_cons,List.length_nil] at*) <;> (try unfold maxLen) <;> omega) (Z ?_)
    refine An (List.map AO d) (by rw [← hv7004b]; simp only [List.map_append,List.map_cons,List.map_nil,List.nil_append,List.append_nil,go_sem,slD]) (Z ?_)
    refine AF ?_
    exact lpF (ih0 u d (IntKind.i64.wrap (y+1)) _ h) [(1000001000,112064),(1000001001,1000001001)] []
   ·refine AF ?_
    cases h
    simp only [go_sem]
theorem IE (a0 a1 a2 r) (h:EA a0 a1 a2=some r):AC Tryz.prog 40 [.ro (List.map Net.ds a0),.agg (Net.avs a1),.int .i64 a2] (.tup [.ow (some 1) (List.map AO r.1),.int .i64 r.2]):=by
 unfold EA at h
 refine acF Tryz.func40 mixed (h:=Z ?_)
 replace h:=AB h; obtain⟨u,w,h⟩:=h
 refine caG ⟨[],[],[],[(1501,32048)],[],true⟩ (NM _ _ _ _ w) (Z ?_)
 refine AF ?_
 refine Ch (DK rfl rfl (OB fuel u [] 0 _ h):) (.one ⟨_,.slot 10 2000000000 (some 1) false (by simp only [go_sem]) (by simp only [go_sem]) (.done _),[(1000001000,2000000000),(1000001001,32048)],[],?_⟩)
 simp only [go_sem]
 all_goals try rfl
end Go.Proofs.YtckcfdggbbabfaaGreat.Ab
