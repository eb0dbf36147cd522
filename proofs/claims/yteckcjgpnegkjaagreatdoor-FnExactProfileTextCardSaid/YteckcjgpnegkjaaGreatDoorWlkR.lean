/-
 The functions do what their models say. Printed by wip/ab/gen.py.
-/
import Derived.Test.YteckcjgpnegkjaaGreatDoorModR
import Derived.Test.YteckcjgpnegkjaaGreatDoorTi2
import Derived.Test.YteckcjgpnegkjaaGreatDoorWlkG
namespace Go.Proofs.YteckcjgpnegkjaaGreatDoor.Ab
set_option linter.defProp false
set_option linter.unusedVariables false
set_option linter.unusedSimpArgs false
set_option maxRecDepth 20000
set_option maxHeartbeats 4000000
open Go.RowKit
theorem MY (n:Nat):(∀a0 u r,DJ n a0 u=some r→Aq Tryz.prog Tryz.f54 [1,1,0,1,0] (.bool r) ⟨[(0,.ro (a0.map AS)),(3,.int .i64 u)],[],[]⟩):=by
 induction n with
 |zero=>exact((fun _ _ _ h=>by rw [DJ] at h; cases h))
 | succ n ih=>
  have ih0:=ih
  ·intro a0 u r h
   rw [DJ] at h
   refine AO rfl rfl (Z ?_)
   refine AZ (Z ?_)
   refine AD h (fun h=>Z ?_) (fun h=>Z ?_)
   ·refine AF ?_
    replace h:=AB h; obtain⟨w,y,h⟩:=h
    refine AM y rfl (Z ?_)
    replace h:=AB h; obtain⟨q,g,h⟩:=h
    refine AI (BV _ _ _ _ g) (Z ?_)
    refine AF ?_
    refine AD h (fun h=>Z ?_) (fun h=>Z ?_)
    ·cases h
     simp only [go_sem]
    ·refine AF ?_
     exact lpF (ih0 a0 (IntKind.i64.wrap (u+1)) _ h) [] []
   ·refine AF ?_
    cases h
    simp only [go_sem]
theorem PA (a0 r) (h:Fh a0=some r):AC Tryz.prog 54 [.ro (a0.map AS)] (.bool r):=by
 unfold Fh at h
 refine acF Tryz.func54 mixed (h:=Z ?_)
 refine AD h (fun h=>Z ?_) (fun h=>Z ?_)
 ·cases h
  simp only [go_sem]
 ·refine AF ?_
  exact loF (MY fuel a0 0 _ h) [] []
theorem J4 (u:Bool) (r:Int) (h:Fi u=some r):Aq Tryz.prog Tryz.f22 [1,1,0,1] (.int .i64 r) ⟨[(24,.bool u)],[],[]⟩:=by
 unfold Fi at h
 refine AO rfl rfl (Z ?_)
 refine AD h (fun h=>Z ?_) (fun h=>Z ?_)
 ·cases h
  simp only [go_sem]
 ·refine AF ?_
  cases h
  simp only [go_sem]
theorem J5 (a2:List Int) (a3:Int) (u:Bool) (r:Int) (h:Du a2 a3 u=some r):Aq Tryz.prog Tryz.f22 [1,0,1] (.int .i64 r) ⟨[(2,.ro (a2.map AS)),(3,.int .i64 a3),(16,.bool u)],[],[]⟩:=by
 unfold Du at h
 refine AO rfl rfl (Z ?_)
 refine AD h (fun h=>Z ?_) (fun h=>Z ?_)
 ·cases h
  simp only [go_sem]
 ·refine AF ?_
  replace h:=AB h; obtain⟨w,y,h⟩:=h
  refine AI (PA _ _ y) (Z ?_)
  refine AD h (fun h=>Z ?_) (fun h=>Z ?_)
  ·exact AY (J4 true _ h) [] []
  ·replace h:=AB h; obtain⟨q,g,h⟩:=h
   refine AI (BV _ _ _ _ g) (Z ?_)
   exact AY (J4 (!q) _ h) [] []
theorem R4 (a0 a1 a2 a3 r) (h:IY a0 a1 a2 a3=some r):AC Tryz.prog 22 [.ro (a0.map Net.ds),.rop (Net.avs a1) 0,.ro (a2.map AS),.int .i64 a3] (.int .i64 r):=by
 unfold IY at h
 refine acF Tryz.func22 mixed (h:=Z ?_)
 replace h:=AB h; obtain⟨u,w,h⟩:=h
 refine AI (T5 _ _ w) (Z ?_)
 refine AD h (fun h=>Z ?_) (fun h=>Z ?_)
 ·exact AY (J5 a2 a3 true _ h) [] []
 ·replace h:=AB h; obtain⟨y,q,h⟩:=h
  refine AI (RZ _ _ q) (Z ?_)
  exact AY (J5 a2 a3 (!y) _ h) [] []
theorem OP (n:Nat):(∀a0 u w r,Bx n a0 u w=some r→Aq Tryz.prog Tryz.f24 [1,1,0,1,0] (.ow (some 2) (r.map Pair.ds)) ⟨[(0,.rop [.ro (a0.agents.map Agent.ds)] 0),(3,.own 1000002000),(4,.int .i64 w)],[(1000002000,some ⟨List.map Pair.ds u,some 2,0,false⟩)],[]⟩)∧
    (∀a0 u w y q r,Es n a0 u w y q=some r→Aq Tryz.prog Tryz.f24 [1,1,0,1,0,0,1,0,0,1,1,1] (.ow (some 2) (r.map Pair.ds)) ⟨[(0,.rop [.ro (a0.agents.map Agent.ds)] 0),(3,.own 1000003000),(4,.int .i64 w),(5,.box 1000003500 0),(43,.bool q)],[(1000003000,some ⟨List.map Pair.ds u,some 2,0,false⟩)],[(1000003500,some [.int .i64 y.agent,.int .i64 y.slot])]⟩):=by
 induction n with
 |zero=>exact⟨(fun _ _ _ _ h=>by rw [Bx] at h; cases h),(fun _ _ _ _ _ _ h=>by rw [Es] at h; cases h)⟩
 | succ n ih=>
  obtain⟨ih0,ih1⟩:=ih
  refine⟨?_,?_⟩
  ·intro a0 u w r h
   rw [Bx] at h
   refine AO rfl rfl (Z ?_)
   refine AZ (Z ?_)
   refine AD h (fun h=>Z ?_) (fun h=>Z ?_)
   ·refine AF ?_
    replace h:=AB h; obtain⟨g,j,h⟩:=h
    refine AM j (Agent.ds_len _) (Z ?_)
    refine AD h (fun h=>Z ?_) (fun h=>Z ?_)
    ·refine AF ?_
     exact lpF (ih0 a0 u (IntKind.i64.wrap (w+1)) _ h) [(1000002000,1000002000)] []
    ·refine AF ?_
     replace h:=AB h; obtain⟨k,b,h⟩:=h
     refine AM b (Agent.ds_len _) (Z ?_)
     replace h:=AB h; obtain⟨y,d,h⟩:=h
     refine AM d (Port.ds_len _) (Z ?_)
     refine AF ?_
     refine AD h (fun h=>Z ?_) (fun h=>Z ?_)
     ·exact AY (ih1 a0 u w y (decide (w<y.agent)) _ h) [(1000003000,1000002000)] [(1000003500,7010)]
     ·exact AY (ih1 a0 u w y false _ h) [(1000003000,1000002000)] [(1000003500,7010)]
   ·refine AF ?_
    cases h
    simp only [go_sem]
  ·intro a0 u w y q r h
   rw [Es] at h
   refine AO rfl rfl (Z ?_)
   refine AD h (fun h=>Z ?_) (fun h=>Z ?_)
   ·replace h:=AB h; obtain⟨c,e,h⟩:=h
    have hq_:=Av e
    obtain⟨hv9006a,hv9006b⟩:=hq_
    refine Cz false (Z ?_)
    refine Al (by refine⟨?_,?_⟩ <;> (try simp only [List.length_map,List.length_append,List.length_cons,List.length_nil] at*) <;> (try unfold maxLen) <;> omega) (Z ?_)
    refine A6 (c.map Pair.ds) (by rw [← hv9006b]; simp only [List.map_append,List.map_cons,List.map_nil,List.nil_append,List.append_nil,go_sem,Pair.ds_eq]) (Z ?_)
    refine AF ?_
    exact lpF (ih0 a0 c (IntKind.i64.wrap (w+1)) _ h) [(1000002000,144096)] []
   ·refine AF ?_
    exact lpF (ih0 a0 u (IntKind.i64.wrap (w+1)) _ h) [(1000002000,1000003000)] []
def PB (n:Nat):=(OP n).1
theorem R5 (a0 r) (h:Gp a0=some r):AC Tryz.prog 24 [.rop (Net.avs a0) 0] (.ow (some 2) (r.map Pair.ds)):=by
 unfold Gp at h
 refine acF Tryz.func24 mixed (h:=Z ?_)
 refine AF ?_
 refine CF (DU rfl rfl (PB fuel a0 [] 1 _ h):) (.one ⟨_,.lit 3 2000000000 2000 0 2 false [] _ _ (by (first|rfl|(simp only [go_sem]; rfl))) (by simp only [go_sem]; rfl) (by (first|rfl|(simp only [go_sem]; rfl))) (by (first|rfl|(simp only [go_sem]; rfl))) (by decide) (by decide) (by simp only [go_sem]) (.done _),[(1000002000,2000000000)],[],?_⟩)
 simp only [go_sem]
 all_goals try rfl
theorem R6 (a0 r) (h:KP a0=some r):AG Tryz.prog 93 [.rop [.ro (a0.agents.map Agent.ds)] 0] [] [] (.box 1601 0) [(1501,⟨List.map Agent.ds r.n.agents,some 5,0,false⟩),(1502,⟨List.map AS r.trace,some 1,0,false⟩)] [(1601,[.own 1501,.own 1502,.int .i64 r.peak])] :=by
 unfold KP at h
 refine agF Tryz.func93 mixed (h:=Z ?_)
 refine Aa [] .fin (by kernel_rfl) (Z ?_)
 replace h:=AB h; obtain⟨u,w,h⟩:=h
 refine AI (WB _ _ w) (Z ?_)
 refine AF ?_
 cases h
 refine BB (.cell 2008 1 2000000000 (some 1) false _ (by simp only [go_sem]; rfl) (by rfl) (by simp only [go_sem]) (.done _)) [(1501,32016),(1502,2000000000)] [(1601,2008)] ?_
 simp only [go_sem]
 all_goals try rfl
theorem T6 (a0 a1 a2 r) (h:Gq a0 a1 a2=some r):AG Tryz.prog 94 [.ro (a0.map Net.ds),.box 1 0,.agg [.int .i64 a2.a,.int .i64 a2.b]] [(1001,⟨List.map Agent.ds a1.n.agents,some 5,0,false⟩),(1002,⟨List.map AS a1.trace,some 1,0,false⟩)] [(1,[.own 1001,.own 1002,.int .i64 a1.peak])] (.int .i64 r.1) [(1501,⟨List.map Agent.ds r.2.n.agents,some 5,0,false⟩),(1502,⟨List.map AS r.2.trace,some 1,0,false⟩)] [(1,[.own 1501,.own 1502,.int .i64 r.2.peak])] :=by
 unfold Gq at h
 refine agF Tryz.func94 mixed (h:=Z ?_)
 refine Aa [] .fin (by kernel_rfl) (Z ?_)
 replace h:=AB h; obtain⟨u,w,h⟩:=h
 refine AM w (Agent.ds_len _) (Z ?_)
 replace h:=AB h; obtain⟨y,q,h⟩:=h
 refine AM q (Agent.ds_len _) (Z ?_)
 replace h:=AB h; obtain⟨g,j,h⟩:=h
 refine LI (by simp only [AX w,AX q,Agent.ds_eq,go_sem,Nat.reduceEqDiff,reduceIte] <;> rfl) (JQ _ _ _ j) (Z ?_)
 refine AF ?_
 refine Aa [false,false,false,false,false,false,false,false,true,true] (Tr.sq [8,9] .fin) (by kernel_rfl) (Z ?_)
 replace h:=AB h; obtain⟨k,d,h⟩:=h
 refine caG ⟨[],[(1001,1001)],[(1,1,0)],[(1501,48128)],[],true⟩ (Xa _ _ _ _ _ d) (Z ?_)
 refine AF ?_
 refine AD h (fun h=>Z ?_) (fun h=>Z ?_)
 ·cases h
  refine BB (.done _) [(1501,48128),(1502,1002)] [(1,1)] ?_
  simp only [go_sem]
 ·refine AF ?_
  replace h:=AB h; obtain⟨c,e,h⟩:=h
  have hq_:=Av e
  obtain⟨hv6007a,hv6007b⟩:=hq_
  refine Cz false (Z ?_)
  refine Al (by refine⟨?_,?_⟩ <;> (try simp only [List.length_map,List.length_append,List.length_cons,List.length_nil] at*) <;> (try unfold maxLen) <;> omega) (Z ?_)
  refine A6 (c.map AS) (by rw [← hv6007b]; simp only [List.map_append,List.map_cons,List.map_nil,List.nil_append,List.append_nil,go_sem,slD]) (Z ?_)
  refine AF ?_
  refine Aa [false,false,false,false,false,false,false,false,false,false,false,false,true] (Tr.sq [12] .fin) (by kernel_rfl) (Z ?_)
  replace h:=AB h; obtain⟨i,l,h⟩:=h
  refine AI (NF (OK _ _ l) (.cons (.rop rfl) .nil)) (Z ?_)
  replace h:=AB h; obtain⟨t,s,h⟩:=h
  refine AI (Lq _ _ _ s) (Z ?_)
  refine AF ?_
  cases h
  refine BB (.done _) [(1501,48128),(1502,96112)] [(1,1)] ?_
  simp only [go_sem]
theorem NR (n:Nat):(∀a0 a2 a3 u w y q r,By n a0 a2 a3 u w y q=some r→Aq Tryz.prog Tryz.f39 [1,1,1,1,1,0] (.tup [.ow (some 1) (List.map (slD AS) r.1),.int .i64 r.2]) ⟨[(0,.ro (a0.map Net.ds)),(2,.int .i64 a2),(3,.int .i64 a3),(11,.box 1000000500 0),(12,.own 1000000002)],[(1000000000,some ⟨List.map Agent.ds u,some 5,0,false⟩),(1000000001,some ⟨List.map AS w,some 1,0,false⟩),(1000000002,some ⟨List.map (slD AS) q,some 1,0,false⟩)],[(1000000500,some [.own 1000000000,.own 1000000001,.int .i64 y])]⟩)∧
    (∀a0 a2 a3 w y q g k r,D8 n a0 a2 a3 w y q g k=some r→Aq Tryz.prog Tryz.f39 [1,1,1,1,1,0,0,0,1,1,1,1] (.tup [.ow (some 1) (List.map (slD AS) r.1),.int .i64 r.2]) ⟨[(0,.ro (a0.map Net.ds)),(2,.int .i64 a2),(3,.int .i64 a3),(11,.box 1000001500 0),(12,.own 1000001002),(13,.own 1000001003)],[(1000001000,some ⟨List.map Agent.ds g.agents,some 5,0,false⟩),(1000001001,some ⟨List.map AS w,some 1,0,false⟩),(1000001002,some ⟨List.map (slD AS) q,some 1,0,false⟩),(1000001003,some ⟨List.map Pair.ds k,none,0,false⟩)],[(1000001500,some [.own 1000001000,.own 1000001001,.int .i64 y])]⟩)∧
    (∀a0 a2 a3 w q k b d c e r,CV n a0 a2 a3 w q k b d c e=some r→Aq Tryz.prog Tryz.f39 [1,1,1,1,1,0,0,0,1,1,1,1,1,1,0,1,0] (.tup [.ow (some 1) (List.map (slD AS) r.1),.int .i64 r.2]) ⟨[(0,.ro (a0.map Net.ds)),(2,.int .i64 a2),(3,.int .i64 a3),(11,.box 1000003500 0),(12,.own 1000003002),(13,.own 1000003003),(14,.int .i64 (w.length:Int)),(15,.int .i64 e)],[(1000003000,some ⟨List.map Agent.ds b,some 5,0,false⟩),(1000003001,some ⟨List.map AS d,some 1,0,false⟩),(1000003002,some ⟨List.map (slD AS) q,some 1,0,false⟩),(1000003003,some ⟨List.map Pair.ds k,none,0,false⟩)],[(1000003500,some [.own 1000003000,.own 1000003001,.int .i64 c])]⟩):=by
 induction n with
 |zero=>exact⟨(fun _ _ _ _ _ _ _ _ h=>by rw [By] at h; cases h),(fun _ _ _ _ _ _ _ _ _ h=>by rw [D8] at h; cases h),(fun _ _ _ _ _ _ _ _ _ _ _ h=>by rw [CV] at h; cases h)⟩
 | succ n ih=>
  obtain⟨ih0,ih1,ih2⟩:=ih
  refine⟨?_,?_,?_⟩
  ·intro a0 a2 a3 u w y q r h
   rw [By] at h
   refine AO rfl rfl (Z ?_)
   refine AZ (Z ?_)
   replace h:=AB h; obtain⟨g,l,h⟩:=h
   refine caG ⟨[],[(1001,1000000000)],[(1,1000000500,0)],[(1501,112048)],[],true⟩ (T3 _ _ l) (Z ?_)
   refine AF ?_
   replace h:=AB h; obtain⟨t,s,h⟩:=h
   refine AI (NF (R5 _ _ s) (.cons (.rop rfl) .nil)) (Z ?_)
   refine AF ?_
   refine AD h (fun h=>Z ?_) (fun h=>Z ?_)
   ·cases h
    simp only [go_sem]
   ·refine AF ?_
    refine AD h (fun h=>Z ?_) (fun h=>Z ?_)
    ·replace h:=AB h; obtain⟨o,z,h⟩:=h
     refine gB (i:=0) (j:=a2) (r:=List.map Pair.ds o) (by rfl) (by rfl) (by (first|(simp only [go_sem]; done)|(simp only [go_sem]; rfl)|rfl|(simp only [go_sem]; omega))) (by (first|(simp only [go_sem]; done)|(simp only [go_sem]; rfl)|rfl|(simp only [go_sem]; omega))) (by exact LL (by intro x; exact(Pair.ds_len _)) _) (by rfl) (by simp only [go_sem,List.length_map]) (TV z) (by rfl) (Z ?_)
     exact AY (ih1 a0 a2 a3 w y q g o _ h) [(1000001000,112048),(1000001001,1000000001),(1000001002,1000000002),(1000001003,192032)] [(1000001500,1000000500)]
    ·exact AY (ih1 a0 a2 a3 w y q g t _ h) [(1000001000,112048),(1000001001,1000000001),(1000001002,1000000002),(1000001003,128048)] [(1000001500,1000000500)]
  ·intro a0 a2 a3 w y q g k r h
   rw [D8] at h
   refine AO rfl rfl (Z ?_)
   refine AD h (fun h=>Z ?_) (fun h=>Z ?_)
   ·cases h
    simp only [go_sem]
   ·refine AF ?_
    exact loF (ih2 a0 a2 a3 w q k g.agents w y 0 _ h) [(1000003000,1000001000),(1000003001,1000001001),(1000003002,1000001002),(1000003003,1000001003)] [(1000003500,1000001500)]
  ·intro a0 a2 a3 w q k b d c e r h
   rw [CV] at h
   refine AO rfl rfl (Z ?_)
   refine AZ (Z ?_)
   refine AD h (fun h=>Z ?_) (fun h=>Z ?_)
   ·refine AF ?_
    replace h:=AB h; obtain⟨u1,u2,h⟩:=h
    refine AM u2 (Pair.ds_len _) (Z ?_)
    refine Ac (AX u2) (Z ?_)
    replace h:=AB h; obtain⟨u3,u4,h⟩:=h
    refine caG ⟨[],[(1001,1000003000),(1002,1000003001)],[(1,1000003500,0)],[(1501,304096),(1502,304097)],[],true⟩ (T6 _ _ _ _ u4) (Z ?_)
    refine AF ?_
    refine AD h (fun h=>Z ?_) (fun h=>Z ?_)
    ·cases h
     simp only [go_sem]
    ·refine AF ?_
     exact lpF (ih2 a0 a2 a3 w q k u3.2.n.agents u3.2.trace u3.2.peak (IntKind.i64.wrap (e+1)) _ h) [(1000003000,304096),(1000003001,304097),(1000003002,1000003002),(1000003003,1000003003)] [(1000003500,1000003500)]
   ·refine AF ?_
    replace h:=AB h; obtain⟨u5,u6,h⟩:=h
    refine mV (i:=(w.length:Int)) (j:=(d.length:Int)) (r:=List.map AS u5) (by rfl) (by rfl) (by (first|(simp only [go_sem]; done)|(simp only [go_sem]; rfl)|rfl|(simp only [go_sem]; omega))) (by (first|(simp only [go_sem]; done)|(simp only [go_sem]; rfl)|rfl|(simp only [go_sem]; omega))) (by exact LL (by intro x; exact rfl) _) (by rfl) (by simp only [go_sem,List.length_map]) (TV u6) (Z ?_)
    replace h:=AB h; obtain⟨u7,u8,h⟩:=h
    refine LI (by simp only [mi (f:=AS) (sz:=1) u6 (fun x=>rfl),go_sem,Nat.reduceEqDiff,reduceIte] <;> rfl) (Ls _ _ u8) (Z ?_)
    replace h:=AB h; obtain⟨u9,u10,h⟩:=h
    have hq_:=Av u10
    obtain⟨hv22009a,hv22009b⟩:=hq_
    refine Cz false (Z ?_)
    refine Al (by refine⟨?_,?_⟩ <;> (try simp only [List.length_map,List.length_append,List.length_cons,List.length_nil] at*) <;> (try unfold maxLen) <;> omega) (Z ?_)
    refine A6 (List.map (slD AS) u9) (by rw [← hv22009b]; simp only [List.map_append,List.map_cons,List.map_nil,List.nil_append,List.append_nil,go_sem,slD]) (Z ?_)
    exact lpF (ih0 a0 a2 a3 b d c u9 _ h) [(1000000000,1000003000),(1000000001,1000003001),(1000000002,352144)] [(1000000500,1000003500)]
def OQ (n:Nat):=(NR n).1
theorem RW (a0 a1 a2 a3 r) (h:HK a0 a1 a2 a3=some r):AC Tryz.prog 39 [.ro (a0.map Net.ds),.rop (Net.avs a1) 0,.int .i64 a2,.int .i64 a3] (.tup [.ow (some 1) (List.map (slD AS) r.1),.int .i64 r.2]):=by
 unfold HK at h
 refine acF Tryz.func39 mixed (h:=Z ?_)
 replace h:=AB h; obtain⟨u,w,h⟩:=h
 refine AI (R4 _ _ _ _ _ w) (Z ?_)
 refine AF ?_
 refine AD h (fun h=>Z ?_) (fun h=>Z ?_)
 ·cases h
  simp only [go_sem]
 ·refine AF ?_
  replace h:=AB h; obtain⟨y,q,h⟩:=h
  refine caG ⟨[],[],[],[(1501,80017),(1502,80018)],[(1601,80016)],true⟩ (R6 _ _ q) (Z ?_)
  refine AF ?_
  refine AF ?_
  refine CF (DU rfl rfl (OQ fuel a0 a2 a3 y.n.agents y.trace y.peak [] _ h):) (.one ⟨_,.lit 12 2000000000 6000 0 1 false [] _ _ (by (first|rfl|(simp only [go_sem]; rfl))) (by simp only [go_sem]; rfl) (by (first|rfl|(simp only [go_sem]; rfl))) (by (first|rfl|(simp only [go_sem]; rfl))) (by decide) (by decide) (by simp only [go_sem]) (.done _),[(1000000000,80017),(1000000001,80018),(1000000002,2000000000)],[(1000000500,80016)],?_⟩)
  simp only [go_sem]
  all_goals try rfl
theorem Ly (a0 r) (h:GS a0=some r):AC Tryz.prog 125 [.int .i64 a0] (.bool r):=by
 unfold GS at h
 refine acF Tryz.func125 mixed (h:=Z ?_)
 refine AD h (fun h=>Z ?_) (fun h=>Z ?_)
 ·refine AF ?_
  cases h
  simp only [go_sem]
 ·refine AF ?_
  cases h
  simp only [go_sem]
theorem NS (a0 r) (h:Ei a0=some r):AC Tryz.prog 74 [.ro (a0.map AS)] (.bool r):=by
 unfold Ei at h
 refine acF Tryz.func74 mixed (h:=Z ?_)
 refine AD h (fun h=>Z ?_) (fun h=>Z ?_)
 ·replace h:=AB h; obtain⟨u,w,h⟩:=h
  refine AI (Fk _ _ 125 [] (Still.of rfl) (fun y0 q hq=>Ly y0  q hq) _ w) (Z ?_)
  refine AF ?_
  cases h
  simp only [go_sem]
 ·refine AF ?_
  cases h
  simp only [go_sem]
theorem Px (a0 a1 r) (h:Hn a0 a1=some r):AG Tryz.prog 75 [.ro (a0.map Net.ds),.agg [.ro (a1.agents.map Agent.ds)]] [] [] (.any) [] [] :=by
 unfold Hn at h
 refine agF Tryz.func75 mixed (h:=Z ?_)
 refine Aa [] .fin (by kernel_rfl) (Z ?_)
 replace h:=AB h; obtain⟨u,w,h⟩:=h
 refine ic (Jx _ _ _ w) (by (first|rfl|(simp only [go_sem]; rfl))) (Z ?_)
 replace h:=AB h; obtain⟨y,q,h⟩:=h
 have hq_:=Fc q
 obtain⟨hv2003a,hv2003b,hv2003c⟩:=hq_
 refine Al (by refine⟨?_,?_,?_⟩ <;> omega) (Z ?_)
 refine A6 (y.map AS) (by rw [← hv2003c]; simp only [List.map_replicate,go_sem,slD]) (Z ?_)
 refine AF ?_
 cases h
 refine BB (.forget 0 [] _ (by (first|rfl|(simp only [go_sem]; rfl))) (.done _)) [] [] ?_
 simp only [go_sem]
 all_goals try rfl
theorem Gd (a0:List Net) (a1:Net) (u:Bool) (r:Int) (h:DO a0 a1 u=some r):DF Tryz.prog Tryz.f30 [1,0,0,1,1,1] (.tup [.any,.int .i64 r]) [] [] ⟨[(0,.ro (a0.map Net.ds)),(5,.box 1000001500 0),(19,.bool u)],[],[(1000001500,some [.ro (a1.agents.map Agent.ds)])]⟩:=by
 unfold DO at h
 refine A5 rfl rfl (Z ?_)
 refine AD h (fun h=>Z ?_) (fun h=>Z ?_)
 ·cases h
  refine BB (.forget 0 [0] _ (by (first|rfl|(simp only [go_sem]; rfl))) (.done _)) [] [] ?_
  simp only [go_sem]
  all_goals try rfl
 ·refine AF ?_
  replace h:=AB h; obtain⟨w,y,h⟩:=h
  refine caG ⟨[],[],[],[],[],true⟩ (Px _ _ _ y) (Z ?_)
  refine AF ?_
  cases h
  refine BB (.forget 0 [0] _ (by (first|rfl|(simp only [go_sem]; rfl))) (.done _)) [] [] ?_
  simp only [go_sem]
  all_goals try rfl
theorem JH (a0:List Net) (a1:Net) (a2:List Int) (a3:Int) (u:Bool) (r:Int) (h:DP a0 a1 a2 a3 u=some r):DF Tryz.prog Tryz.f30 [1,0,0,1] (.tup [.any,.int .i64 r]) [] [] ⟨[(0,.ro (a0.map Net.ds)),(2,.ro (a2.map AS)),(3,.int .i64 a3),(5,.box 1000000500 0),(10,.bool u)],[],[(1000000500,some [.ro (a1.agents.map Agent.ds)])]⟩:=by
 unfold DP at h
 refine A5 rfl rfl (Z ?_)
 refine AD h (fun h=>Z ?_) (fun h=>Z ?_)
 ·cases h
  refine BB (.forget 0 [0] _ (by (first|rfl|(simp only [go_sem]; rfl))) (.done _)) [] [] ?_
  simp only [go_sem]
  all_goals try rfl
 ·replace h:=AB h; obtain⟨w,y,h⟩:=h
  refine AI (NS _ _ y) (Z ?_)
  refine AD h (fun h=>Z ?_) (fun h=>Z ?_)
  ·exact BH (Gd a0 a1 true _ h) [] [(1000001500,1000000500)]
  ·refine AD h (fun h=>Z ?_) (fun h=>Z ?_)
   ·exact BH (Gd a0 a1 true _ h) [] [(1000001500,1000000500)]
   ·exact BH (Gd a0 a1 (decide (4000<a3)) _ h) [] [(1000001500,1000000500)]
theorem Ra (a0 a1 a2 a3 r) (h:HM a0 a1 a2 a3=some r):AG Tryz.prog 30 [.ro (a0.map Net.ds),.agg [.ro (a1.agents.map Agent.ds)],.ro (a2.map AS),.int .i64 a3] [] [] (.tup [.any,.int .i64 r]) [] [] :=by
 unfold HM at h
 refine agF Tryz.func30 mixed (h:=Z ?_)
 replace h:=AB h; obtain⟨u,w,h⟩:=h
 refine AI (MZ _ _ w) (Z ?_)
 refine AD h (fun h=>Z ?_) (fun h=>Z ?_)
 ·exact BH (JH a0 a1 a2 a3 true _ h) [] [(1000000500,1000)]
 ·replace h:=AB h; obtain⟨y,q,h⟩:=h
  refine AI (Ml _ _ q) (Z ?_)
  exact BH (JH a0 a1 a2 a3 (!y) _ h) [] [(1000000500,1000)]
end Go.Proofs.YteckcjgpnegkjaaGreatDoor.Ab
