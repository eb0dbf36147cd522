/-
 The functions do what their models say. Printed by wip/ab/gen.py.
-/
import Derived.Test.YtckcfdggbbabfaaGreatModR
import Derived.Test.YtckcfdggbbabfaaGreatTi2
import Derived.Test.YtckcfdggbbabfaaGreatWlkG
namespace Go.Proofs.YtckcfdggbbabfaaGreat.Ab
set_option linter.unusedVariables false
set_option linter.unusedSimpArgs false
set_option maxRecDepth 20000
set_option maxHeartbeats 4000000
open Go.RowKit
theorem M7 (n:Nat):(∀a0 u r,De n a0 u=some r→Al Tryz.prog Tryz.f107 [1,1,0,1,0] (.bool r) ⟨[(0,.ro (List.map AO a0)),(3,.int .i64 u)],[],[]⟩):=by
 induction n with
 |zero=>exact((fun _ _ _ h=>by rw [De] at h; cases h))
 | succ n ih=>
  have ih0:=ih
  ·intro a0 u r h
   rw [De] at h
   refine AN rfl rfl (Z ?_)
   refine AX (Z ?_)
   refine AD h (fun h=>Z ?_) (fun h=>Z ?_)
   ·refine AF ?_
    replace h:=AB h; obtain⟨w,y,h⟩:=h
    refine AM y rfl (Z ?_)
    replace h:=AB h; obtain⟨q,g,h⟩:=h
    refine AH (BY _ _ _ _ g) (Z ?_)
    refine AF ?_
    refine AD h (fun h=>Z ?_) (fun h=>Z ?_)
    ·cases h
     simp only [go_sem]
    ·refine AF ?_
     exact lpF (ih0 a0 (IntKind.i64.wrap (u+1)) _ h) [] []
   ·refine AF ?_
    cases h
    simp only [go_sem]
theorem Po (a0 r) (h:GD a0=some r):AC Tryz.prog 107 [.ro (List.map AO a0)] (.bool r):=by
 unfold GD at h
 refine acF Tryz.func107 mixed (h:=Z ?_)
 refine AD h (fun h=>Z ?_) (fun h=>Z ?_)
 ·cases h
  simp only [go_sem]
 ·refine AF ?_
  exact loF (M7 fuel a0 0 _ h) [] []
theorem Kl (u:Bool) (r:Int) (h:GE u=some r):Al Tryz.prog Tryz.f58 [1,1,0,1] (.int .i64 r) ⟨[(24,.bool u)],[],[]⟩:=by
 unfold GE at h
 refine AN rfl rfl (Z ?_)
 refine AD h (fun h=>Z ?_) (fun h=>Z ?_)
 ·cases h
  simp only [go_sem]
 ·refine AF ?_
  cases h
  simp only [go_sem]
theorem Km (a2:List Int) (a3:Int) (u:Bool) (r:Int) (h:EP a2 a3 u=some r):Al Tryz.prog Tryz.f58 [1,0,1] (.int .i64 r) ⟨[(2,.ro (List.map AO a2)),(3,.int .i64 a3),(16,.bool u)],[],[]⟩:=by
 unfold EP at h
 refine AN rfl rfl (Z ?_)
 refine AD h (fun h=>Z ?_) (fun h=>Z ?_)
 ·cases h
  simp only [go_sem]
 ·refine AF ?_
  replace h:=AB h; obtain⟨w,y,h⟩:=h
  refine AH (Po _ _ y) (Z ?_)
  refine AD h (fun h=>Z ?_) (fun h=>Z ?_)
  ·exact AW (Kl true _ h) [] []
  ·replace h:=AB h; obtain⟨q,g,h⟩:=h
   refine AH (BY _ _ _ _ g) (Z ?_)
   exact AW (Kl (!q) _ h) [] []
theorem Sk (a0 a1 a2 a3 r) (h:JA a0 a1 a2 a3=some r):AC Tryz.prog 58 [.ro (List.map Net.ds a0),.rop (Net.avs a1) 0,.ro (List.map AO a2),.int .i64 a3] (.int .i64 r):=by
 unfold JA at h
 refine acF Tryz.func58 mixed (h:=Z ?_)
 replace h:=AB h; obtain⟨u,w,h⟩:=h
 refine AH (UW _ _ w) (Z ?_)
 refine AD h (fun h=>Z ?_) (fun h=>Z ?_)
 ·exact AW (Km a2 a3 true _ h) [] []
 ·replace h:=AB h; obtain⟨y,q,h⟩:=h
  refine AH (SG _ _ q) (Z ?_)
  exact AW (Km a2 a3 (!y) _ h) [] []
theorem Sl (a0 r) (h:K4 a0=some r):AG Tryz.prog 158 [.rop [.ro (List.map Agent.ds a0.agents)] 0] [] [] (.box 1601 0) [(1501,⟨List.map Agent.ds r.n.agents,some 5,0,false⟩),(1502,⟨List.map AO r.trace,some 1,0,false⟩)] [(1601,[.own 1501,.own 1502,.int .i64 r.peak])] :=by
 unfold K4 at h
 refine agF Tryz.func158 mixed (h:=Z ?_)
 refine AY [] .fin (by kernel_rfl) (Z ?_)
 replace h:=AB h; obtain⟨u,w,h⟩:=h
 refine AH (WK _ _ w) (Z ?_)
 refine AF ?_
 cases h
 refine A7 (.cell 2008 1 2000000000 (some 1) false _ (by simp only [go_sem]; rfl) (by rfl) (by simp only [go_sem]) (.done _)) [(1501,32016),(1502,2000000000)] [(1601,2008)] ?_
 simp only [go_sem]
 all_goals try rfl
theorem UX (a0 a1 a2 r) (h:Ha a0 a1 a2=some r):AG Tryz.prog 159 [.ro (List.map Net.ds a0),.box 1 0,.agg [.int .i64 a2.a,.int .i64 a2.b]] [(1001,⟨List.map Agent.ds a1.n.agents,some 5,0,false⟩),(1002,⟨List.map AO a1.trace,some 1,0,false⟩)] [(1,[.own 1001,.own 1002,.int .i64 a1.peak])] (.int .i64 r.1) [(1501,⟨List.map Agent.ds r.2.n.agents,some 5,0,false⟩),(1502,⟨List.map AO r.2.trace,some 1,0,false⟩)] [(1,[.own 1501,.own 1502,.int .i64 r.2.peak])] :=by
 unfold Ha at h
 refine agF Tryz.func159 mixed (h:=Z ?_)
 refine AY [] .fin (by kernel_rfl) (Z ?_)
 replace h:=AB h; obtain⟨u,w,h⟩:=h
 refine AM w (Agent.ds_len _) (Z ?_)
 replace h:=AB h; obtain⟨y,q,h⟩:=h
 refine AM q (Agent.ds_len _) (Z ?_)
 replace h:=AB h; obtain⟨g,j,h⟩:=h
 refine Jy (by simp only [AP w,AP q,Agent.ds_eq,go_sem,Nat.reduceEqDiff,reduceIte] <;> rfl) (J5 _ _ _ j) (Z ?_)
 refine AF ?_
 refine AY [false,false,false,false,false,false,false,false,true,true] (Tr.sq [8,9] .fin) (by kernel_rfl) (Z ?_)
 replace h:=AB h; obtain⟨k,d,h⟩:=h
 refine caG ⟨[],[(1001,1001)],[(1,1,0)],[(1501,48128)],[],true⟩ (XY _ _ _ _ _ d) (Z ?_)
 refine AF ?_
 refine AD h (fun h=>Z ?_) (fun h=>Z ?_)
 ·cases h
  refine A7 (.done _) [(1501,48128),(1502,1002)] [(1,1)] ?_
  simp only [go_sem]
 ·refine AF ?_
  replace h:=AB h; obtain⟨c,e,h⟩:=h
  have hq_:=A5 e
  obtain⟨hv6007a,hv6007b⟩:=hq_
  refine Di false (Z ?_)
  refine BC (by refine⟨?_,?_⟩ <;> (try simp only [List.length_map,List.length_append,List.length_cons,List.length_nil] at*) <;> (try unfold maxLen) <;> omega) (Z ?_)
  refine An (List.map AO c) (by rw [← hv6007b]; simp only [List.map_append,List.map_cons,List.map_nil,List.nil_append,List.append_nil,go_sem,slD]) (Z ?_)
  refine AF ?_
  refine AY [false,false,false,false,false,false,false,false,false,false,false,false,true] (Tr.sq [12] .fin) (by kernel_rfl) (Z ?_)
  replace h:=AB h; obtain⟨i,l,h⟩:=h
  refine AH (Nk (Oz _ _ l) (.cons (.rop rfl) .nil)) (Z ?_)
  replace h:=AB h; obtain⟨t,s,h⟩:=h
  refine AH (QL _ _ _ s) (Z ?_)
  refine AF ?_
  cases h
  refine A7 (.done _) [(1501,48128),(1502,96112)] [(1,1)] ?_
  simp only [go_sem]
theorem N1 (n:Nat):(∀a0 a2 a3 u w y q r,Bz n a0 a2 a3 u w y q=some r→Al Tryz.prog Tryz.f88 [1,1,1,1,1,0] (.tup [.ow (some 1) (List.map (slD AO) r.1),.int .i64 r.2]) ⟨[(0,.ro (List.map Net.ds a0)),(2,.int .i64 a2),(3,.int .i64 a3),(11,.box 1000000500 0),(12,.own 1000000002)],[(1000000000,some ⟨List.map Agent.ds u,some 5,0,false⟩),(1000000001,some ⟨List.map AO w,some 1,0,false⟩),(1000000002,some ⟨List.map (slD AO) q,some 1,0,false⟩)],[(1000000500,some [.own 1000000000,.own 1000000001,.int .i64 y])]⟩)∧
    (∀a0 a2 a3 w y q g k r,Ec n a0 a2 a3 w y q g k=some r→Al Tryz.prog Tryz.f88 [1,1,1,1,1,0,0,0,1,1,1,1] (.tup [.ow (some 1) (List.map (slD AO) r.1),.int .i64 r.2]) ⟨[(0,.ro (List.map Net.ds a0)),(2,.int .i64 a2),(3,.int .i64 a3),(11,.box 1000001500 0),(12,.own 1000001002),(13,.own 1000001003)],[(1000001000,some ⟨List.map Agent.ds g.agents,some 5,0,false⟩),(1000001001,some ⟨List.map AO w,some 1,0,false⟩),(1000001002,some ⟨List.map (slD AO) q,some 1,0,false⟩),(1000001003,some ⟨List.map Pair.ds k,none,0,false⟩)],[(1000001500,some [.own 1000001000,.own 1000001001,.int .i64 y])]⟩)∧
    (∀a0 a2 a3 w q k b d c e r,Ce n a0 a2 a3 w q k b d c e=some r→Al Tryz.prog Tryz.f88 [1,1,1,1,1,0,0,0,1,1,1,1,1,1,0,1,0] (.tup [.ow (some 1) (List.map (slD AO) r.1),.int .i64 r.2]) ⟨[(0,.ro (List.map Net.ds a0)),(2,.int .i64 a2),(3,.int .i64 a3),(11,.box 1000003500 0),(12,.own 1000003002),(13,.own 1000003003),(14,.int .i64 ((List.length w:Nat):Int)),(15,.int .i64 e)],[(1000003000,some ⟨List.map Agent.ds b,some 5,0,false⟩),(1000003001,some ⟨List.map AO d,some 1,0,false⟩),(1000003002,some ⟨List.map (slD AO) q,some 1,0,false⟩),(1000003003,some ⟨List.map Pair.ds k,none,0,false⟩)],[(1000003500,some [.own 1000003000,.own 1000003001,.int .i64 c])]⟩):=by
 induction n with
 |zero=>exact⟨(fun _ _ _ _ _ _ _ _ h=>by rw [Bz] at h; cases h),(fun _ _ _ _ _ _ _ _ _ h=>by rw [Ec] at h; cases h),(fun _ _ _ _ _ _ _ _ _ _ _ h=>by rw [Ce] at h; cases h)⟩
 | succ n ih=>
  obtain⟨ih0,ih1,ih2⟩:=ih
  refine⟨?_,?_,?_⟩
  ·intro a0 a2 a3 u w y q r h
   rw [Bz] at h
   refine AN rfl rfl (Z ?_)
   refine AX (Z ?_)
   replace h:=AB h; obtain⟨g,l,h⟩:=h
   refine caG ⟨[],[(1001,1000000000)],[(1,1000000500,0)],[(1501,112048)],[],true⟩ (UV _ _ l) (Z ?_)
   refine AF ?_
   replace h:=AB h; obtain⟨t,s,h⟩:=h
   refine AH (Nk (Sj _ _ s) (.cons (.rop rfl) .nil)) (Z ?_)
   refine AF ?_
   refine AD h (fun h=>Z ?_) (fun h=>Z ?_)
   ·cases h
    simp only [go_sem]
   ·refine AF ?_
    refine AD h (fun h=>Z ?_) (fun h=>Z ?_)
    ·replace h:=AB h; obtain⟨o,z,h⟩:=h
     refine eX (i:=0) (j:=a2) (r:=List.map Pair.ds o) (by rfl) (by rfl) (by (first|(simp only [go_sem]; done)|(simp only [go_sem]; rfl)|rfl|(simp only [go_sem]; omega))) (by (first|(simp only [go_sem]; done)|(simp only [go_sem]; rfl)|rfl|(simp only [go_sem]; omega))) (by exact L7 (by intro x; exact(Pair.ds_len _)) _) (by rfl) (by simp only [go_sem,List.length_map]) (T3 z) (by rfl) (Z ?_)
     exact AW (ih1 a0 a2 a3 w y q g o _ h) [(1000001000,112048),(1000001001,1000000001),(1000001002,1000000002),(1000001003,192032)] [(1000001500,1000000500)]
    ·exact AW (ih1 a0 a2 a3 w y q g t _ h) [(1000001000,112048),(1000001001,1000000001),(1000001002,1000000002),(1000001003,128048)] [(1000001500,1000000500)]
  ·intro a0 a2 a3 w y q g k r h
   rw [Ec] at h
   refine AN rfl rfl (Z ?_)
   refine AD h (fun h=>Z ?_) (fun h=>Z ?_)
   ·cases h
    simp only [go_sem]
   ·refine AF ?_
    exact loF (ih2 a0 a2 a3 w q k g.agents w y 0 _ h) [(1000003000,1000001000),(1000003001,1000001001),(1000003002,1000001002),(1000003003,1000001003)] [(1000003500,1000001500)]
  ·intro a0 a2 a3 w q k b d c e r h
   rw [Ce] at h
   refine AN rfl rfl (Z ?_)
   refine AX (Z ?_)
   refine AD h (fun h=>Z ?_) (fun h=>Z ?_)
   ·refine AF ?_
    replace h:=AB h; obtain⟨u1,u2,h⟩:=h
    refine AM u2 (Pair.ds_len _) (Z ?_)
    refine AZ (AP u2) (Z ?_)
    replace h:=AB h; obtain⟨u3,u4,h⟩:=h
    refine caG ⟨[],[(1001,1000003000),(1002,1000003001)],[(1,1000003500,0)],[(1501,304096),(1502,304097)],[],true⟩ (UX _ _ _ _ u4) (Z ?_)
    refine AF ?_
    refine AD h (fun h=>Z ?_) (fun h=>Z ?_)
    ·cases h
     simp only [go_sem]
    ·refine AF ?_
     exact lpF (ih2 a0 a2 a3 w q k u3.2.n.agents u3.2.trace u3.2.peak (IntKind.i64.wrap (e+1)) _ h) [(1000003000,304096),(1000003001,304097),(1000003002,1000003002),(1000003003,1000003003)] [(1000003500,1000003500)]
   ·refine AF ?_
    replace h:=AB h; obtain⟨u5,u6,h⟩:=h
    refine jg (i:=((List.length w:Nat):Int)) (j:=((List.length d:Nat):Int)) (r:=List.map AO u5) (by rfl) (by rfl) (by (first|(simp only [go_sem]; done)|(simp only [go_sem]; rfl)|rfl|(simp only [go_sem]; omega))) (by (first|(simp only [go_sem]; done)|(simp only [go_sem]; rfl)|rfl|(simp only [go_sem]; omega))) (by exact L7 (by intro x; exact rfl) _) (by rfl) (by simp only [go_sem,List.length_map]) (T3 u6) (Z ?_)
    replace h:=AB h; obtain⟨u7,u8,h⟩:=h
    refine Jy (by simp only [jr (f:=AO) (sz:=1) u6 (fun x=>rfl),go_sem,Nat.reduceEqDiff,reduceIte] <;> rfl) (MW _ _ u8) (Z ?_)
    replace h:=AB h; obtain⟨u9,u10,h⟩:=h
    have hq_:=A5 u10
    obtain⟨hv22009a,hv22009b⟩:=hq_
    refine Di false (Z ?_)
    refine BC (by refine⟨?_,?_⟩ <;> (try simp only [List.length_map,List.length_append,List.length_cons,List.length_nil] at*) <;> (try unfold maxLen) <;> omega) (Z ?_)
    refine An (List.map (slD AO) u9) (by rw [← hv22009b]; simp only [List.map_append,List.map_cons,List.map_nil,List.nil_append,List.append_nil,go_sem,slD]) (Z ?_)
    exact lpF (ih0 a0 a2 a3 b d c u9 _ h) [(1000000000,1000003000),(1000000001,1000003001),(1000000002,352144)] [(1000000500,1000003500)]
theorem O8 (n:Nat):(∀a0 a2 a3 u w y q r,Bz n a0 a2 a3 u w y q=some r→Al Tryz.prog Tryz.f88 [1,1,1,1,1,0] (.tup [.ow (some 1) (List.map (slD AO) r.1),.int .i64 r.2]) ⟨[(0,.ro (List.map Net.ds a0)),(2,.int .i64 a2),(3,.int .i64 a3),(11,.box 1000000500 0),(12,.own 1000000002)],[(1000000000,some ⟨List.map Agent.ds u,some 5,0,false⟩),(1000000001,some ⟨List.map AO w,some 1,0,false⟩),(1000000002,some ⟨List.map (slD AO) q,some 1,0,false⟩)],[(1000000500,some [.own 1000000000,.own 1000000001,.int .i64 y])]⟩):=(N1 n).1
theorem JV (a0 a1 a2 a3 r) (h:En a0 a1 a2 a3=some r):AC Tryz.prog 88 [.ro (List.map Net.ds a0),.rop (Net.avs a1) 0,.int .i64 a2,.int .i64 a3] (.tup [.ow (some 1) (List.map (slD AO) r.1),.int .i64 r.2]):=by
 unfold En at h
 refine acF Tryz.func88 mixed (h:=Z ?_)
 replace h:=AB h; obtain⟨u,w,h⟩:=h
 refine AH (Sk _ _ _ _ _ w) (Z ?_)
 refine AF ?_
 refine AD h (fun h=>Z ?_) (fun h=>Z ?_)
 ·cases h
  simp only [go_sem]
 ·refine AF ?_
  replace h:=AB h; obtain⟨y,q,h⟩:=h
  refine caG ⟨[],[],[],[(1501,80017),(1502,80018)],[(1601,80016)],true⟩ (Sl _ _ q) (Z ?_)
  refine AF ?_
  refine Ch (DK rfl rfl (O8 fuel a0 a2 a3 y.n.agents y.trace y.peak [] _ h):) (.one ⟨_,.lit 12 2000000000 6000 0 1 false [] _ _ (by (first|rfl|(simp only [go_sem]; rfl))) (by simp only [go_sem]; rfl) (by (first|rfl|(simp only [go_sem]; rfl))) (by (first|rfl|(simp only [go_sem]; rfl))) (by decide) (by decide) (by simp only [go_sem]) (.done _),[(1000000000,80017),(1000000001,80018),(1000000002,2000000000)],[(1000000500,80016)],?_⟩)
  simp only [go_sem]
  all_goals try rfl
theorem Md (a0 r) (h:HF a0=some r):AC Tryz.prog 185 [.int .i64 a0] (.bool r):=by
 unfold HF at h
 refine acF Tryz.func185 mixed (h:=Z ?_)
 refine AD h (fun h=>Z ?_) (fun h=>Z ?_)
 ·refine AF ?_
  cases h
  simp only [go_sem]
 ·refine AF ?_
  cases h
  simp only [go_sem]
theorem N2 (a0 r) (h:E9 a0=some r):AC Tryz.prog 113 [.ro (List.map AO a0)] (.bool r):=by
 unfold E9 at h
 refine acF Tryz.func113 mixed (h:=Z ?_)
 refine AD h (fun h=>Z ?_) (fun h=>Z ?_)
 ·replace h:=AB h; obtain⟨u,w,h⟩:=h
  refine AH (EV _ _ 185 [] (Still.of rfl) (fun y0 q hq=>Md y0  q hq) _ w) (Z ?_)
  refine AF ?_
  cases h
  simp only [go_sem]
 ·refine AF ?_
  cases h
  simp only [go_sem]
theorem Qg (a0 a1 r) (h:IV a0 a1=some r):AG Tryz.prog 114 [.ro (List.map Net.ds a0),.agg [.ro (List.map Agent.ds a1.agents)]] [] [] (.any) [] [] :=by
 unfold IV at h
 refine agF Tryz.func114 mixed (h:=Z ?_)
 refine AY [] .fin (by kernel_rfl) (Z ?_)
 replace h:=AB h; obtain⟨u,w,h⟩:=h
 refine f6 (Ke _ _ _ w) (by (first|rfl|(simp only [go_sem]; rfl))) (Z ?_)
 replace h:=AB h; obtain⟨y,q,h⟩:=h
 have hq_:=Gz q
 obtain⟨hv2003a,hv2003b,hv2003c⟩:=hq_
 refine BC (by refine⟨?_,?_,?_⟩ <;> omega) (Z ?_)
 refine An (List.map AO y) (by rw [← hv2003c]; simp only [List.map_replicate,go_sem,slD]) (Z ?_)
 refine AF ?_
 cases h
 refine A7 (.forget 0 [] _ (by (first|rfl|(simp only [go_sem]; rfl))) (.done _)) [] [] ?_
 simp only [go_sem]
 all_goals try rfl
theorem HP (a0:List Net) (a1:Net) (u:Bool) (r:Int) (h:Dn a0 a1 u=some r):DA Tryz.prog Tryz.f65 [1,0,0,1,1,1] (.tup [.any,.int .i64 r]) [] [] ⟨[(0,.ro (List.map Net.ds a0)),(5,.box 1000001500 0),(19,.bool u)],[],[(1000001500,some [.ro (List.map Agent.ds a1.agents)])]⟩:=by
 unfold Dn at h
 refine Av rfl rfl (Z ?_)
 refine AD h (fun h=>Z ?_) (fun h=>Z ?_)
 ·cases h
  refine A7 (.forget 0 [0] _ (by (first|rfl|(simp only [go_sem]; rfl))) (.done _)) [] [] ?_
  simp only [go_sem]
  all_goals try rfl
 ·refine AF ?_
  replace h:=AB h; obtain⟨w,y,h⟩:=h
  refine caG ⟨[],[],[],[],[],true⟩ (Qg _ _ _ y) (Z ?_)
  refine AF ?_
  cases h
  refine A7 (.forget 0 [0] _ (by (first|rfl|(simp only [go_sem]; rfl))) (.done _)) [] [] ?_
  simp only [go_sem]
  all_goals try rfl
theorem Jt (a0:List Net) (a1:Net) (a2:List Int) (a3:Int) (u:Bool) (r:Int) (h:Do a0 a1 a2 a3 u=some r):DA Tryz.prog Tryz.f65 [1,0,0,1] (.tup [.any,.int .i64 r]) [] [] ⟨[(0,.ro (List.map Net.ds a0)),(2,.ro (List.map AO a2)),(3,.int .i64 a3),(5,.box 1000000500 0),(10,.bool u)],[],[(1000000500,some [.ro (List.map Agent.ds a1.agents)])]⟩:=by
 unfold Do at h
 refine Av rfl rfl (Z ?_)
 refine AD h (fun h=>Z ?_) (fun h=>Z ?_)
 ·cases h
  refine A7 (.forget 0 [0] _ (by (first|rfl|(simp only [go_sem]; rfl))) (.done _)) [] [] ?_
  simp only [go_sem]
  all_goals try rfl
 ·replace h:=AB h; obtain⟨w,y,h⟩:=h
  refine AH (N2 _ _ y) (Z ?_)
  refine AD h (fun h=>Z ?_) (fun h=>Z ?_)
  ·exact BI (HP a0 a1 true _ h) [] [(1000001500,1000000500)]
  ·refine AD h (fun h=>Z ?_) (fun h=>Z ?_)
   ·exact BI (HP a0 a1 true _ h) [] [(1000001500,1000000500)]
   ·exact BI (HP a0 a1 (decide (4000<a3)) _ h) [] [(1000001500,1000000500)]
theorem SH (a0 a1 a2 a3 r) (h:H4 a0 a1 a2 a3=some r):AG Tryz.prog 65 [.ro (List.map Net.ds a0),.agg [.ro (List.map Agent.ds a1.agents)],.ro (List.map AO a2),.int .i64 a3] [] [] (.tup [.any,.int .i64 r]) [] [] :=by
 unfold H4 at h
 refine agF Tryz.func65 mixed (h:=Z ?_)
 replace h:=AB h; obtain⟨u,w,h⟩:=h
 refine AH (M8 _ _ w) (Z ?_)
 refine AD h (fun h=>Z ?_) (fun h=>Z ?_)
 ·exact BI (Jt a0 a1 a2 a3 true _ h) [] [(1000000500,1000)]
 ·replace h:=AB h; obtain⟨y,q,h⟩:=h
  refine AH (NN _ _ q) (Z ?_)
  exact BI (Jt a0 a1 a2 a3 (!y) _ h) [] [(1000000500,1000)]
end Go.Proofs.YtckcfdggbbabfaaGreat.Ab
