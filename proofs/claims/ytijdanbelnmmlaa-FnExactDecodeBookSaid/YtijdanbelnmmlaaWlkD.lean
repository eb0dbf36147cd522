/-
 The functions do what their models say. Printed by wip/ab/gen.py.
-/
import Derived.Test.YtijdanbelnmmlaaModD
import Derived.Test.YtijdanbelnmmlaaTi2
import Derived.Test.YtijdanbelnmmlaaWlkB
namespace Go.Proofs.Ytijdanbelnmmlaa.Ab
set_option linter.unusedVariables false
set_option linter.unusedSimpArgs false
set_option maxRecDepth 20000
set_option maxHeartbeats 4000000
open Go.RowKit
theorem Fd (u:Int × (List Int) × Int) (w:Int) (r:L33R × Int) (h:B4 u w=some r) (hc:r.2 =0):Cy Try.prog Try.f12 [1,1,1] (.tup [.box 1601 0,.int .i64 r.2]) [] [(1601,[.ro (List.map u8D r.1.b),.int .i64 r.1.att,.bool r.1.bad])] ⟨[(7,.ro (List.map u8D u.2.1)),(8,.int .i64 w)],[],[]⟩:=by
 unfold B4 at h
 refine Av rfl rfl (Z ?_)
 refine GV (fun y=>?_) (fun y=>?_)
 ·replace h:=ifT (c:=(!decide (w=0))) y h
  try simp only [go_sem]
  cases h
  exact absurd hc (by simpa using y)
 ·replace h:=ifF (c:=(!decide (w=0))) y h
  try simp only [go_sem]
  refine AF ?_
  cases h
  refine CL (.done _) [] [(1601,7002)] ?_
  simp only [go_sem]
theorem Fe (u:Int × (List Int) × Int) (w:Int) (r:L33R × Int) (h:B4 u w=some r) (hc:r.2 ≠0):Cy Try.prog Try.f12 [1,1,1] (.tup [.nilp,.int .i64 r.2]) [] [] ⟨[(7,.ro (List.map u8D u.2.1)),(8,.int .i64 w)],[],[]⟩:=by
 unfold B4 at h
 refine Av rfl rfl (Z ?_)
 refine AB h (fun h=>Z ?_) (fun h=>Z ?_)
 ·cases h
  refine CL (.done _) [] [] ?_
  simp only [go_sem]
 ·refine AF ?_
  cases h
  exact absurd rfl hc
theorem Ff (u:Int × (List Int) × Int) (w:Bool) (r:L33R × Int) (h:BO u w=some r) (hc:r.2 =0):Cy Try.prog Try.f12 [1,1,0,1] (.tup [.box 1601 0,.int .i64 r.2]) [] [(1601,[.ro (List.map u8D r.1.b),.int .i64 r.1.att,.bool r.1.bad])] ⟨[(7,.ro (List.map u8D u.2.1)),(8,.int .i64 u.2.2),(21,.bool w)],[],[]⟩:=by
 unfold BO at h
 refine Av rfl rfl (Z ?_)
 refine AB h (fun h=>Z ?_) (fun h=>Z ?_)
 ·exact By (Fd u 14 _ h hc) [] []
 ·exact By (Fd u u.2.2 _ h hc) [] []
theorem Fg (u:Int × (List Int) × Int) (w:Bool) (r:L33R × Int) (h:BO u w=some r) (hc:r.2 ≠0):Cy Try.prog Try.f12 [1,1,0,1] (.tup [.nilp,.int .i64 r.2]) [] [] ⟨[(7,.ro (List.map u8D u.2.1)),(8,.int .i64 u.2.2),(21,.bool w)],[],[]⟩:=by
 unfold BO at h
 refine Av rfl rfl (Z ?_)
 refine AB h (fun h=>Z ?_) (fun h=>Z ?_)
 ·exact By (Fe u 14 _ h hc) [] []
 ·exact By (Fe u u.2.2 _ h hc) [] []
theorem KC (a0 a1 r) (h:De a0 a1=some r) (hc:r.2 =0):AG Try.prog 12 [.ro (List.map u8D a0),.int .i64 a1] [] [] (.tup [.box 1601 0,.int .i64 r.2]) [] [(1601,[.ro (List.map u8D r.1.b),.int .i64 r.1.att,.bool r.1.bad])] :=by
 unfold De at h
 refine agF Try.func12 mixed (h:=Z ?_)
 replace h:=AH h; obtain⟨u,w,h⟩:=h
 refine ND (I4 _ _ w) (by (first|rfl|(simp only [go_sem]; rfl))) (by first|rfl|(simp only [go_sem])) (Z ?_)
 refine AF ?_
 refine AB h (fun h=>Z ?_) (fun h=>Z ?_)
 ·exact By (Ff u (!decide (u.1 =a1)) _ h hc) [] []
 ·exact By (Ff u false _ h hc) [] []
theorem KD (a0 a1 r) (h:De a0 a1=some r) (hc:r.2 ≠0):AG Try.prog 12 [.ro (List.map u8D a0),.int .i64 a1] [] [] (.tup [.nilp,.int .i64 r.2]) [] [] :=by
 unfold De at h
 refine agF Try.func12 mixed (h:=Z ?_)
 replace h:=AH h; obtain⟨u,w,h⟩:=h
 refine ND (I4 _ _ w) (by (first|rfl|(simp only [go_sem]; rfl))) (by first|rfl|(simp only [go_sem])) (Z ?_)
 refine AF ?_
 refine AB h (fun h=>Z ?_) (fun h=>Z ?_)
 ·exact By (Fg u (!decide (u.1 =a1)) _ h hc) [] []
 ·exact By (Fg u false _ h hc) [] []
theorem Fu (a0:L33R) (u:Bool) (r:Int × L33R) (h:C1 a0 u=some r):Cy Try.prog Try.f24 [1,0,1] (.int .i64 r.1) [] [(1,[.ro (List.map u8D a0.b),.int .i64 r.2.att,.bool r.2.bad])] ⟨[(0,.box 1 0),(18,.bool u)],[],[(1,some [.ro (List.map u8D a0.b),.int .i64 a0.att,.bool a0.bad])]⟩:=by
 unfold C1 at h
 refine Av rfl rfl (Z ?_)
 refine AB h (fun h=>Z ?_) (fun h=>Z ?_)
 ·cases h
  refine CL (.done _) [] [(1,1)] ?_
  simp only [go_sem]
 ·refine AF ?_
  refine B3 [] .fin (by kernel_rfl) (Z ?_)
  replace h:=AH h; obtain⟨w,y,h⟩:=h
  refine Af y rfl (Z ?_)
  refine AF ?_
  cases h
  refine CL (.done _) [] [(1,1)] ?_
  simp only [go_sem]
theorem C3 (a0 r) (h:A0 a0=some r):AG Try.prog 24 [.box 1 0] [] [(1,[.ro (List.map u8D a0.b),.int .i64 a0.att,.bool a0.bad])] (.int .i64 r.1) [] [(1,[.ro (List.map u8D a0.b),.int .i64 r.2.att,.bool r.2.bad])] :=by
 unfold A0 at h
 refine agF Try.func24 mixed (h:=Z ?_)
 refine B3 [] .fin (by kernel_rfl) (Z ?_)
 refine AB h (fun h=>Z ?_) (fun h=>Z ?_)
 ·exact By (Fu a0 true _ h) [] [(1,1)]
 ·exact By (Fu a0 (decide (((List.length a0.b:Nat):Int)≤a0.att)) _ h) [] [(1,1)]
theorem Eu (a0:L33R) (u:Bool) (w:Int × L33R) (y:Int) (r:Int × L33R) (h:Ck a0 u w y=some r):Cy Try.prog Try.f13 [1,1,0,1,0,0,1,0,0,1,1,1,0,1,1,1] (.int .i64 r.1) [] [(1,[.ro (List.map u8D a0.b),.int .i64 r.2.att,.bool r.2.bad])] ⟨[(0,.box 1 0),(6,.int .i64 y)],[],[(1,some [.ro (List.map u8D a0.b),.int .i64 w.2.att,.bool u])]⟩:=by
 unfold Ck at h
 refine Av rfl rfl (Z ?_)
 replace h:=AH h; obtain⟨q,g,h⟩:=h
 refine AK (Cq _ _ _ _ g) (Z ?_)
 refine AF ?_
 refine AB h (fun h=>Z ?_) (fun h=>Z ?_)
 ·refine AF ?_
  cases h
  refine CL (.done _) [] [(1,1)] ?_
  simp only [go_sem]
 ·refine AF ?_
  cases h
  refine CL (.done _) [] [(1,1)] ?_
  simp only [go_sem]
theorem E2 (a0:L33R) (u:Int) (w:Int) (y:Int × L33R) (q:Bool) (r:Int × L33R) (h:CI a0 u w y q=some r):Cy Try.prog Try.f13 [1,1,0,1,0,0,1,0,0,1,1,1,0,1] (.int .i64 r.1) [] [(1,[.ro (List.map u8D a0.b),.int .i64 r.2.att,.bool r.2.bad])] ⟨[(0,.box 1 0),(3,.int .u64 (IntKind.u64.wrap (u+(IntKind.u64.wrap ((Int.tmod (IntKind.u64.wrap y.1) 128)*2 ^ min (Int.toNat (IntKind.i64.wrap (7*w))) (IntKind.bits IntKind.u64))))))],[],[(1,some [.ro (List.map u8D a0.b),.int .i64 y.2.att,.bool q])]⟩:=by
 unfold CI at h
 refine Av rfl rfl (Z ?_)
 refine Ak (by decide) (Z ?_)
 refine Ak (by decide) (Z ?_)
 refine AB h (fun h=>Z ?_) (fun h=>Z ?_)
 ·exact By (Eu a0 q y (bits BinOp.xor IntKind.i64 (if IntKind.signed IntKind.i64=true then -1 else IntKind.max IntKind.i64) (IntKind.i64.wrap ((IntKind.u64.wrap (u+(IntKind.u64.wrap ((Int.tmod (IntKind.u64.wrap y.1) 128)*2 ^ min (Int.toNat (IntKind.i64.wrap (7*w))) (IntKind.bits IntKind.u64))))) / 2 ^ min (Int.toNat 1) (IntKind.bits IntKind.u64)))) _ h) [] [(1,1)]
 ·exact By (Eu a0 q y (IntKind.i64.wrap ((IntKind.u64.wrap (u+(IntKind.u64.wrap ((Int.tmod (IntKind.u64.wrap y.1) 128)*2 ^ min (Int.toNat (IntKind.i64.wrap (7*w))) (IntKind.bits IntKind.u64))))) / 2 ^ min (Int.toNat 1) (IntKind.bits IntKind.u64))) _ h) [] [(1,1)]
theorem E3 (a0:L33R) (u:Int) (w:Int) (y:Int × L33R) (q:Bool) (r:Int × L33R) (h:Bp a0 u w y q=some r):Cy Try.prog Try.f13 [1,1,0,1,0,0,1,0,0,1,1,1,0,0,1] (.int .i64 r.1) [] [(1,[.ro (List.map u8D a0.b),.int .i64 r.2.att,.bool r.2.bad])] ⟨[(0,.box 1 0),(3,.int .u64 (IntKind.u64.wrap (u+(IntKind.u64.wrap ((Int.tmod (IntKind.u64.wrap y.1) 128)*2 ^ min (Int.toNat (IntKind.i64.wrap (7*w))) (IntKind.bits IntKind.u64)))))),(28,.bool q)],[],[(1,some [.ro (List.map u8D a0.b),.int .i64 y.2.att,.bool y.2.bad])]⟩:=by
 unfold Bp at h
 refine Av rfl rfl (Z ?_)
 refine AB h (fun h=>Z ?_) (fun h=>Z ?_)
 ·exact By (E2 a0 u w y true _ h) [] [(1,1)]
 ·exact By (E2 a0 u w y y.2.bad _ h) [] [(1,1)]
theorem Hw (n:Nat):(∀a0 u w y q r,Aa n a0 u w y q=some r→Cy Try.prog Try.f13 [1,1,0,1,0] (.int .i64 r.1) [] [(1,[.ro (List.map u8D a0.b),.int .i64 r.2.att,.bool r.2.bad])] ⟨[(0,.box 1 0),(3,.int .u64 y),(4,.int .i64 q)],[],[(1,some [.ro (List.map u8D a0.b),.int .i64 u,.bool w])]⟩):=by
 induction n with
 |zero=>exact((fun _ _ _ _ _ _ h=>by rw [Aa] at h; cases h))
 | succ n ih=>
  have ih0:=ih
  ·intro a0 u w y q r h
   rw [Aa] at h
   refine Av rfl rfl (Z ?_)
   refine A3 (Z ?_)
   refine AB h (fun h=>Z ?_) (fun h=>Z ?_)
   ·refine AF ?_
    replace h:=AH h; obtain⟨g,j,h⟩:=h
    refine caG ⟨[],[],[(1,1,0)],[],[],true⟩ (C3 _ _ j) (Z ?_)
    refine AF ?_
    refine Ak (by decide) (Z ?_)
    replace h:=AH h; obtain⟨k,d,h⟩:=h
    refine Ak (VD d) (Z ?_)
    refine AB h (fun h=>Z ?_) (fun h=>Z ?_)
    ·refine AB h (fun h=>Z ?_) (fun h=>Z ?_)
     ·exact By (E3 a0 y q g (decide (0<q)) _ h) [] [(1,1)]
     ·exact By (E3 a0 y q g false _ h) [] [(1,1)]
    ·refine AF ?_
     exact lpG (ih0 a0 g.2.att g.2.bad (IntKind.u64.wrap (y+(IntKind.u64.wrap ((Int.tmod (IntKind.u64.wrap g.1) 128)*2 ^ min (Int.toNat (IntKind.i64.wrap (7*q))) (IntKind.bits IntKind.u64))))) (IntKind.i64.wrap (q+1)) _ h) [] [(1,1)]
   ·refine AF ?_
    cases h
    refine CL (.done _) [] [(1,1)] ?_
    simp only [go_sem]
theorem GF (a0 r) (h:CF a0=some r):AG Try.prog 13 [.box 1 0] [] [(1,[.ro (List.map u8D a0.b),.int .i64 a0.att,.bool a0.bad])] (.int .i64 r.1) [] [(1,[.ro (List.map u8D a0.b),.int .i64 r.2.att,.bool r.2.bad])] :=by
 unfold CF at h
 refine agF Try.func13 mixed (h:=Z ?_)
 exact loG (Hw fuel a0 a0.att a0.bad 0 0 _ h) [] [(1,1)]
theorem Gm (n:Nat):(∀a0 a1 r,Ay n a0 a1=some r→AG Try.prog 14 [.box 1 0,.int .i64 a1] [] [(1,[.ro (List.map u8D a0.b),.int .i64 a0.att,.bool a0.bad])] (.agg [.int .i64 r.1.kind,.int .i64 r.1.value,.own 1501,.own 1502]) [(1501,⟨List.map BC r.1.data,some 1,0,false⟩),(1502,⟨List.map Core.ds r.1.kids,some 4,0,false⟩)] [(1,[.ro (List.map u8D a0.b),.int .i64 r.2.att,.bool r.2.bad])])∧
    (∀a0 a1 u w y q g j r,AZ n a0 a1 u w y q g j=some r→Cy Try.prog Try.f14 [1,1,1,0,1,0] (.agg [.int .i64 r.1.kind,.int .i64 r.1.value,.own 1501,.own 1502]) [(1501,⟨List.map BC r.1.data,some 1,0,false⟩),(1502,⟨List.map Core.ds r.1.kids,some 4,0,false⟩)] [(1,[.ro (List.map u8D a0.b),.int .i64 r.2.att,.bool r.2.bad])] ⟨[(0,.box 1 0),(1,.int .i64 a1),(4,.box 1000002500 0),(5,.box 1000002501 0),(6,.int .i64 j)],[(1000002000,some ⟨List.map BC g,some 1,0,false⟩)],[(1,some [.ro (List.map u8D a0.b),.int .i64 y,.bool q]),(1000002500,some [.int .i64 0,.int .i64 0,.nils,.nils]),(1000002501,some [.int .i64 u.1,.int .i64 w.1,.own 1000002000,.nils])]⟩)∧
    (∀a0 a1 y q g j u w k r,A1 n a0 a1 y q g j u w k=some r→Cy Try.prog Try.f14 [1,1,1,0,1,0,0,0,1] (.agg [.int .i64 r.1.kind,.int .i64 r.1.value,.own 1501,.own 1502]) [(1501,⟨List.map BC r.1.data,some 1,0,false⟩),(1502,⟨List.map Core.ds r.1.kids,some 4,0,false⟩)] [(1,[.ro (List.map u8D a0.b),.int .i64 r.2.att,.bool r.2.bad])] ⟨[(0,.box 1 0),(1,.int .i64 a1),(4,.box 1000003500 0),(5,.box 1000003501 0),(6,.int .i64 j),(25,.bool k)],[(1000003000,some ⟨List.map BC g,some 1,0,false⟩)],[(1,some [.ro (List.map u8D a0.b),.int .i64 y,.bool q]),(1000003500,some [.int .i64 0,.int .i64 0,.nils,.nils]),(1000003501,some [.int .i64 u.1,.int .i64 w.1,.own 1000003000,.nils])]⟩)∧
    (∀a0 a1 g u w d c r,Ai n a0 a1 g u w d c=some r→Cy Try.prog Try.f14 [1,1,1,1,1,0,1] (.agg [.int .i64 r.1.kind,.int .i64 r.1.value,.own 1501,.own 1502]) [(1501,⟨List.map BC r.1.data,some 1,0,false⟩),(1502,⟨List.map Core.ds r.1.kids,some 4,0,false⟩)] [(1,[.ro (List.map u8D a0.b),.int .i64 r.2.att,.bool r.2.bad])] ⟨[(0,.box 1 0),(1,.int .i64 a1),(4,.box 1000004500 0),(5,.box 1000004501 0),(7,.int .i64 d.1),(42,.bool c)],[(1000004000,some ⟨List.map BC g,some 1,0,false⟩)],[(1,some [.ro (List.map u8D a0.b),.int .i64 d.2.att,.bool d.2.bad]),(1000004500,some [.int .i64 0,.int .i64 0,.nils,.nils]),(1000004501,some [.int .i64 u.1,.int .i64 w.1,.own 1000004000,.nils])]⟩)∧
    (∀a0 a1 g u w d e r,Al n a0 a1 g u w d e=some r→Cy Try.prog Try.f14 [1,1,1,1,1,1] (.agg [.int .i64 r.1.kind,.int .i64 r.1.value,.own 1501,.own 1502]) [(1501,⟨List.map BC r.1.data,some 1,0,false⟩),(1502,⟨List.map Core.ds r.1.kids,some 4,0,false⟩)] [(1,[.ro (List.map u8D a0.b),.int .i64 r.2.att,.bool r.2.bad])] ⟨[(0,.box 1 0),(1,.int .i64 a1),(4,.box 1000005500 0),(5,.box 1000005501 0),(7,.int .i64 d.1)],[(1000005000,some ⟨List.map BC g,some 1,0,false⟩)],[(1,some [.ro (List.map u8D a0.b),.int .i64 d.2.att,.bool e]),(1000005500,some [.int .i64 0,.int .i64 0,.nils,.nils]),(1000005501,some [.int .i64 u.1,.int .i64 w.1,.own 1000005000,.nils])]⟩)∧
    (∀a0 a1 g u w i l t s r,AT n a0 a1 g u w i l t s=some r→Cy Try.prog Try.f14 [1,1,1,1,1,1,0,1,0] (.agg [.int .i64 r.1.kind,.int .i64 r.1.value,.own 1501,.own 1502]) [(1501,⟨List.map BC r.1.data,some 1,0,false⟩),(1502,⟨List.map Core.ds r.1.kids,some 4,0,false⟩)] [(1,[.ro (List.map u8D a0.b),.int .i64 r.2.att,.bool r.2.bad])] ⟨[(0,.box 1 0),(1,.int .i64 a1),(4,.box 1000008500 0),(5,.box 1000008501 0),(8,.int .i64 s)],[(1000008000,some ⟨List.map BC g,some 1,0,false⟩),(1000008001,some ⟨List.map Core.ds t,some 4,0,false⟩)],[(1,some [.ro (List.map u8D a0.b),.int .i64 i,.bool l]),(1000008500,some [.int .i64 0,.int .i64 0,.nils,.nils]),(1000008501,some [.int .i64 u.1,.int .i64 w.1,.own 1000008000,.own 1000008001])]⟩)∧
    (∀a0 a1 g i l t s u w o r,Au n a0 a1 g i l t s u w o=some r→Cy Try.prog Try.f14 [1,1,1,1,1,1,0,1,0,0,0,1] (.agg [.int .i64 r.1.kind,.int .i64 r.1.value,.own 1501,.own 1502]) [(1501,⟨List.map BC r.1.data,some 1,0,false⟩),(1502,⟨List.map Core.ds r.1.kids,some 4,0,false⟩)] [(1,[.ro (List.map u8D a0.b),.int .i64 r.2.att,.bool r.2.bad])] ⟨[(0,.box 1 0),(1,.int .i64 a1),(4,.box 1000009500 0),(5,.box 1000009501 0),(8,.int .i64 s),(55,.bool o)],[(1000009000,some ⟨List.map BC g,some 1,0,false⟩),(1000009001,some ⟨List.map Core.ds t,some 4,0,false⟩)],[(1,some [.ro (List.map u8D a0.b),.int .i64 i,.bool l]),(1000009500,some [.int .i64 0,.int .i64 0,.nils,.nils]),(1000009501,some [.int .i64 u.1,.int .i64 w.1,.own 1000009000,.own 1000009001])]⟩):=by
 induction n with
 |zero=>exact⟨(fun _ _ _ h=>by rw [Ay] at h; cases h),(fun _ _ _ _ _ _ _ _ _ h=>by rw [AZ] at h; cases h),(fun _ _ _ _ _ _ _ _ _ _ h=>by rw [A1] at h; cases h),(fun _ _ _ _ _ _ _ _ h=>by rw [Ai] at h; cases h),(fun _ _ _ _ _ _ _ _ h=>by rw [Al] at h; cases h),(fun _ _ _ _ _ _ _ _ _ _ h=>by rw [AT] at h; cases h),(fun _ _ _ _ _ _ _ _ _ _ _ h=>by rw [Au] at h; cases h)⟩
 | succ n ih=>
  obtain⟨ih0,ih1,ih2,ih3,ih4,ih5,ih6⟩:=ih
  refine⟨?_,?_,?_,?_,?_,?_,?_⟩
  ·intro a0 a1 r h
   rw [Ay] at h
   refine agF Try.func14 mixed (h:=Z ?_)
   refine AF ?_
   replace h:=AH h; obtain⟨u,z,h⟩:=h
   refine caG ⟨[],[],[(1,1,0)],[],[],true⟩ (C3 _ _ z) (Z ?_)
   refine AF ?_
   replace h:=AH h; obtain⟨w,u1,h⟩:=h
   refine caG ⟨[],[],[(1,1,0)],[],[],true⟩ (GF _ _ u1) (Z ?_)
   refine AF ?_
   replace h:=AH h; obtain⟨u2,u3,h⟩:=h
   refine caG ⟨[],[],[(1,1,0)],[],[],true⟩ (C3 _ _ u3) (Z ?_)
   refine AF ?_
   refine Ef (E7 rfl rfl (ih1 a0 a1 u w u2.2.att u2.2.bad [] u2.1 _ h):) (.one ⟨_,.cell 2003 2 2000000000 (some 1) false _ (by simp only [go_sem]; rfl) (by rfl) (by simp only [go_sem]) (.done _),[(1000002000,2000000000)],[(1,1),(1000002500,1000),(1000002501,2003)],?_⟩)
   simp only [go_sem]
   all_goals try rfl
  ·intro a0 a1 u w y q g j r h
   rw [AZ] at h
   refine Av rfl rfl (Z ?_)
   refine A3 (Z ?_)
   refine AB h (fun h=>Z ?_) (fun h=>Z ?_)
   ·exact By (ih2 a0 a1 y q g j u w (!q) _ h) [(1000003000,1000002000)] [(1,1),(1000003500,1000002500),(1000003501,1000002501)]
   ·exact By (ih2 a0 a1 y q g j u w false _ h) [(1000003000,1000002000)] [(1,1),(1000003500,1000002500),(1000003501,1000002501)]
  ·intro a0 a1 y q g j u w k r h
   rw [A1] at h
   refine Av rfl rfl (Z ?_)
   refine AB h (fun h=>Z ?_) (fun h=>Z ?_)
   ·refine AF ?_
    replace h:=AH h; obtain⟨u4,u5,h⟩:=h
    replace h:=AH h; obtain⟨u6,u7,h⟩:=h
    refine B3 [false,true,false,true,true,true,true,true] (.br 1 (Tr.sq [3,4,5,6,7] .fin) (.br 3 (.br 1 (Tr.sq [4,5,6,7] .fin) (.br 4 (Tr.sq [1,5,6,7] .fin) .stop)) .stop)) (by kernel_rfl) ?_
    try simp only [go_sem]
    try simp only [go_sem]
    refine Bm (Z ?_) (Z ?_)
    ·refine caG ⟨[],[],[(1,1,0)],[],[],true⟩ (C3 _ _ u5) (Z ?_)
     have hq_:=AN u7
     obtain⟨hv7005a,hv7005b⟩:=hq_
     refine BW false (Z ?_)
     refine Ak (by refine⟨?_,?_⟩ <;> (try simp only [List.length_map,List.length_append,List.length_cons,List.length_nil] at*) <;> (try unfold maxLen) <;> omega) (Z ?_)
     refine AU (List.map BC u6) (by rw [← hv7005b]; simp only [List.map_append,List.map_cons,List.map_nil,List.nil_append,List.append_nil,go_sem,slD]) (Z ?_)
     refine AF ?_
     exact lpG (ih1 a0 a1 u w u4.2.att u4.2.bad u6 (IntKind.i64.wrap (j - 1)) _ h) [(1000002000,112080)] [(1,1),(1000002500,1000003500),(1000002501,1000003501)]
    ·refine caG ⟨[],[],[(1,1,0)],[],[],true⟩ (C3 _ _ u5) ?_
     try simp only [go_sem]
     try simp only [go_sem]
     refine Bm (Z ?_) (Z ?_)
     ·have hq_:=AN u7
      obtain⟨hv7005a,hv7005b⟩:=hq_
      refine BW false (Z ?_)
      refine Ak (by refine⟨?_,?_⟩ <;> (try simp only [List.length_map,List.length_append,List.length_cons,List.length_nil] at*) <;> (try unfold maxLen) <;> omega) (Z ?_)
      refine AU (List.map BC u6) (by rw [← hv7005b]; simp only [List.map_append,List.map_cons,List.map_nil,List.nil_append,List.append_nil,go_sem,slD]) (Z ?_)
      refine AF ?_
      exact lpG (ih1 a0 a1 u w u4.2.att u4.2.bad u6 (IntKind.i64.wrap (j - 1)) _ h) [(1000002000,112080)] [(1,1),(1000002500,1000003500),(1000002501,1000003501)]
     ·have hq_:=AN u7
      obtain⟨hv7005a,hv7005b⟩:=hq_
      refine BW false (Z ?_)
      refine Ak (by refine⟨?_,?_⟩ <;> (try simp only [List.length_map,List.length_append,List.length_cons,List.length_nil] at*) <;> (try unfold maxLen) <;> omega) (Z ?_)
      refine AU (List.map BC u6) (by rw [← hv7005b]; simp only [List.map_append,List.map_cons,List.map_nil,List.nil_append,List.append_nil,go_sem,slD]) (Z ?_)
      refine AF ?_
      exact lpG (ih1 a0 a1 u w u4.2.att u4.2.bad u6 (IntKind.i64.wrap (j - 1)) _ h) [(1000002000,112080)] [(1,1),(1000002500,1000003500),(1000002501,1000003501)]
   ·refine AF ?_
    replace h:=AH h; obtain⟨d,u8,h⟩:=h
    refine caG ⟨[],[],[(1,1,0)],[],[],true⟩ (C3 _ _ u8) (Z ?_)
    refine AF ?_
    refine AB h (fun h=>Z ?_) (fun h=>Z ?_)
    ·exact By (ih3 a0 a1 g u w d (decide (0<d.1)) _ h) [(1000004000,1000003000)] [(1,1),(1000004500,1000003500),(1000004501,1000003501)]
    ·exact By (ih3 a0 a1 g u w d false _ h) [(1000004000,1000003000)] [(1,1),(1000004500,1000003500),(1000004501,1000003501)]
  ·intro a0 a1 g u w d c r h
   rw [Ai] at h
   refine Av rfl rfl (Z ?_)
   refine AB h (fun h=>Z ?_) (fun h=>Z ?_)
   ·exact By (ih4 a0 a1 g u w d true _ h) [(1000005000,1000004000)] [(1,1),(1000005500,1000004500),(1000005501,1000004501)]
   ·exact By (ih4 a0 a1 g u w d d.2.bad _ h) [(1000005000,1000004000)] [(1,1),(1000005500,1000004500),(1000005501,1000004501)]
  ·intro a0 a1 g u w d e r h
   rw [Al] at h
   refine Av rfl rfl (Z ?_)
   refine Ef (E7 rfl rfl (ih5 a0 a1 g u w d.2.att e [] d.1 _ h):) (.one ⟨_,.cell 1000005501 3 2000000000 (some 4) false _ (by simp only [go_sem]; rfl) (by rfl) (by simp only [go_sem]) (.done _),[(1000008000,1000005000),(1000008001,2000000000)],[(1,1),(1000008500,1000005500),(1000008501,1000005501)],?_⟩)
   simp only [go_sem]
   all_goals try rfl
  ·intro a0 a1 g u w i l t s r h
   rw [AT] at h
   refine Av rfl rfl (Z ?_)
   refine A3 (Z ?_)
   refine AB h (fun h=>Z ?_) (fun h=>Z ?_)
   ·exact By (ih6 a0 a1 g i l t s u w (!l) _ h) [(1000009000,1000008000),(1000009001,1000008001)] [(1,1),(1000009500,1000008500),(1000009501,1000008501)]
   ·exact By (ih6 a0 a1 g i l t s u w false _ h) [(1000009000,1000008000),(1000009001,1000008001)] [(1,1),(1000009500,1000008500),(1000009501,1000008501)]
  ·intro a0 a1 g i l t s u w o r h
   rw [Au] at h
   refine Av rfl rfl (Z ?_)
   refine AB h (fun h=>Z ?_) (fun h=>Z ?_)
   ·refine AF ?_
    replace h:=AH h; obtain⟨u9,u10,h⟩:=h
    replace h:=AH h; obtain⟨u11,u12,h⟩:=h
    refine B3 [false,true,false,false,false,true,true,true,true,true] (.br 1 (Tr.sq [5,6,7,8,9] .fin) (.br 5 (.br 1 (Tr.sq [6,7,8,9] .fin) (.br 6 (Tr.sq [1,7,8,9] .fin) .stop)) .stop)) (by kernel_rfl) ?_
    try simp only [go_sem]
    try simp only [go_sem]
    refine Bm (Z ?_) (Z ?_)
    ·refine caG ⟨[],[],[(1,1,0)],[(1501,224080),(1502,224081)],[],true⟩ (ih0 _ _ _ u10) (Z ?_)
     have hq_:=AN u12
     obtain⟨hv14007a,hv14007b⟩:=hq_
     refine BW false (Z ?_)
     refine Ak (by refine⟨?_,?_⟩ <;> (try simp only [List.length_map,List.length_append,List.length_cons,List.length_nil] at*) <;> (try unfold maxLen) <;> omega) (Z ?_)
     refine AU (List.map Core.ds u11) (by rw [← hv14007b]; simp only [List.map_append,List.map_cons,List.map_nil,List.nil_append,List.append_nil,go_sem,Core.ds_eq]) (Z ?_)
     refine AF ?_
     exact lpG (ih5 a0 a1 g u w u9.2.att u9.2.bad u11 (IntKind.i64.wrap (s - 1)) _ h) [(1000008000,1000009000),(1000008001,224112)] [(1,1),(1000008500,1000009500),(1000008501,1000009501)]
    ·refine caG ⟨[],[],[(1,1,0)],[(1501,224080),(1502,224081)],[],true⟩ (ih0 _ _ _ u10) ?_
     try simp only [go_sem]
     try simp only [go_sem]
     refine Bm (Z ?_) (Z ?_)
     ·have hq_:=AN u12
      obtain⟨hv14007a,hv14007b⟩:=hq_
      refine BW false (Z ?_)
      refine Ak (by refine⟨?_,?_⟩ <;> (try simp only [List.length_map,List.length_append,List.length_cons,List.length_nil] at*) <;> (try unfold maxLen) <;> omega) (Z ?_)
      refine AU (List.map Core.ds u11) (by rw [← hv14007b]; simp only [List.map_append,List.map_cons,List.map_nil,List.nil_append,List.append_nil,go_sem,Core.ds_eq]) (Z ?_)
      refine AF ?_
      exact lpG (ih5 a0 a1 g u w u9.2.att u9.2.bad u11 (IntKind.i64.wrap (s - 1)) _ h) [(1000008000,1000009000),(1000008001,224112)] [(1,1),(1000008500,1000009500),(1000008501,1000009501)]
     ·have hq_:=AN u12
      obtain⟨hv14007a,hv14007b⟩:=hq_
      refine BW false (Z ?_)
      refine Ak (by refine⟨?_,?_⟩ <;> (try simp only [List.length_map,List.length_append,List.length_cons,List.length_nil] at*) <;> (try unfold maxLen) <;> omega) (Z ?_)
      refine AU (List.map Core.ds u11) (by rw [← hv14007b]; simp only [List.map_append,List.map_cons,List.map_nil,List.nil_append,List.append_nil,go_sem,Core.ds_eq]) (Z ?_)
      refine AF ?_
      exact lpG (ih5 a0 a1 g u w u9.2.att u9.2.bad u11 (IntKind.i64.wrap (s - 1)) _ h) [(1000008000,1000009000),(1000008001,224112)] [(1,1),(1000008500,1000009500),(1000008501,1000009501)]
   ·refine AF ?_
    cases h
    refine CL (.done _) [(1501,1000009000),(1502,1000009001)] [(1,1)] ?_
    simp only [go_sem]
theorem Ar (n:Nat):(∀a0 a1 r,Ay n a0 a1=some r→AG Try.prog 14 [.box 1 0,.int .i64 a1] [] [(1,[.ro (List.map u8D a0.b),.int .i64 a0.att,.bool a0.bad])] (.agg [.int .i64 r.1.kind,.int .i64 r.1.value,.own 1501,.own 1502]) [(1501,⟨List.map BC r.1.data,some 1,0,false⟩),(1502,⟨List.map Core.ds r.1.kids,some 4,0,false⟩)] [(1,[.ro (List.map u8D a0.b),.int .i64 r.2.att,.bool r.2.bad])]):=(Gm n).1
theorem Jb (a0 r) (h:Eh a0=some r):AC Try.prog 15 [.rop (L33R.avs a0) 0] (.bool r):=by
 unfold Eh at h
 refine acF Try.func15 mixed (h:=Z ?_)
 refine B3 [] .fin (by kernel_rfl) (Z ?_)
 refine AB h (fun h=>Z ?_) (fun h=>Z ?_)
 ·refine AF ?_
  cases h
  simp only [go_sem]
 ·refine AF ?_
  cases h
  simp only [go_sem]
theorem D0 (u:List Core) (w:Bool) (r:Book × Int) (h:CV u w=some r):BX Try.prog Try.f4 [1,1,1,1,1,1,0,1] (.tup [.agg (Book.rv r.1),.int .i64 r.2]) ⟨[(2,.box 1000004500 0),(7,.box 1000004501 0),(59,.bool w)],[(1000004000,some ⟨List.map Core.ds u,some 4,0,false⟩)],[(1000004500,some [.nils]),(1000004501,some [.own 1000004000])]⟩:=by
 unfold CV at h
 refine AP rfl rfl (Z ?_)
 refine AB h (fun h=>Z ?_) (fun h=>Z ?_)
 ·cases h
  simp only [go_sem]
 ·refine AF ?_
  cases h
  simp only [go_sem]
theorem Hx (n:Nat):(∀u w y q g j r,AS n u w y q g j=some r→BX Try.prog Try.f4 [1,1,1,1,1,0,1,0] (.tup [.agg (Book.rv r.1),.int .i64 r.2]) ⟨[(2,.box 1000002500 0),(4,.box 1000002501 0),(6,.int .i64 w.1),(7,.box 1000002502 0),(8,.int .i64 j)],[(1000002000,some ⟨List.map Core.ds g,some 4,0,false⟩)],[(1000002500,some [.nils]),(1000002501,some [.ro (List.map u8D u.1.b),.int .i64 y,.bool q]),(1000002502,some [.own 1000002000])]⟩)∧
    (∀y q g j u w k r,Aw n y q g j u w k=some r→BX Try.prog Try.f4 [1,1,1,1,1,0,1,0,0,0,1] (.tup [.agg (Book.rv r.1),.int .i64 r.2]) ⟨[(2,.box 1000003500 0),(4,.box 1000003501 0),(6,.int .i64 w.1),(7,.box 1000003502 0),(8,.int .i64 j),(34,.bool k)],[(1000003000,some ⟨List.map Core.ds g,some 4,0,false⟩)],[(1000003500,some [.nils]),(1000003501,some [.ro (List.map u8D u.1.b),.int .i64 y,.bool q]),(1000003502,some [.own 1000003000])]⟩):=by
 induction n with
 |zero=>exact⟨(fun _ _ _ _ _ _ _ h=>by rw [AS] at h; cases h),(fun _ _ _ _ _ _ _ _ h=>by rw [Aw] at h; cases h)⟩
 | succ n ih=>
  obtain⟨ih0,ih1⟩:=ih
  refine⟨?_,?_⟩
  ·intro u w y q g j r h
   rw [AS] at h
   refine AP rfl rfl (Z ?_)
   refine A3 (Z ?_)
   refine AB h (fun h=>Z ?_) (fun h=>Z ?_)
   ·refine AB h (fun h=>Z ?_) (fun h=>Z ?_)
    ·exact BS (ih1 y q g j u w (!q) _ h) [(1000003000,1000002000)] [(1000003500,1000002500),(1000003501,1000002501),(1000003502,1000002502)]
    ·exact BS (ih1 y q g j u w false _ h) [(1000003000,1000002000)] [(1000003500,1000002500),(1000003501,1000002501),(1000003502,1000002502)]
   ·exact BS (ih1 y q g j u w false _ h) [(1000003000,1000002000)] [(1000003500,1000002500),(1000003501,1000002501),(1000003502,1000002502)]
  ·intro y q g j u w k r h
   rw [Aw] at h
   refine AP rfl rfl (Z ?_)
   refine AB h (fun h=>Z ?_) (fun h=>Z ?_)
   ·refine AF ?_
    replace h:=AH h; obtain⟨d,c,h⟩:=h
    replace h:=AH h; obtain⟨e,i,h⟩:=h
    replace h:=AH h; obtain⟨l,t,h⟩:=h
    replace h:=AH h; obtain⟨s,o,h⟩:=h
    refine B3 [false,true,false,true,true,true,true,true,true,true,true] (.br 1 (.br 3 (.br 4 (Tr.sq [5,6,7,9] (.br 8 (Tr.sq [10] .fin) (.br 10 (Tr.sq [8] .fin) .stop))) (.br 5 (Tr.sq [4,6,7,9] (.br 8 (Tr.sq [10] .fin) (.br 10 (Tr.sq [8] .fin) .stop))) .stop)) (.br 4 (.br 3 (Tr.sq [5,6,7,9] (.br 8 (Tr.sq [10] .fin) (.br 10 (Tr.sq [8] .fin) .stop))) (.br 5 (Tr.sq [3,6,7,9] (.br 8 (Tr.sq [10] .fin) (.br 10 (Tr.sq [8] .fin) .stop))) .stop)) (.br 5 (.br 3 (Tr.sq [4,6,7,9] (.br 8 (Tr.sq [10] .fin) (.br 10 (Tr.sq [8] .fin) .stop))) (.br 4 (Tr.sq [3,6,7,9] (.br 8 (Tr.sq [10] .fin) (.br 10 (Tr.sq [8] .fin) .stop))) .stop)) .stop))) (.br 3 (.br 1 (.br 4 (Tr.sq [5,6,7,9] (.br 8 (Tr.sq [10] .fin) (.br 10 (Tr.sq [8] .fin) .stop))) (.br 5 (Tr.sq [4,6,7,9] (.br 8 (Tr.sq [10] .fin) (.br 10 (Tr.sq [8] .fin) .stop))) .stop)) (.br 5 (Tr.sq [1,4,6,7,9] (.br 8 (Tr.sq [10] .fin) (.br 10 (Tr.sq [8] .fin) .stop))) .stop)) (.br 5 (.br 1 (.br 3 (Tr.sq [4,6,7,9] (.br 8 (Tr.sq [10] .fin) (.br 10 (Tr.sq [8] .fin) .stop))) (.br 4 (Tr.sq [3,6,7,9] (.br 8 (Tr.sq [10] .fin) (.br 10 (Tr.sq [8] .fin) .stop))) .stop)) (.br 3 (Tr.sq [1,4,6,7,9] (.br 8 (Tr.sq [10] .fin) (.br 10 (Tr.sq [8] .fin) .stop))) .stop)) .stop))) (by kernel_rfl) ?_
    try simp only [go_sem]
    try simp only [go_sem]
    refine Bm ?_ ?_
    ·try simp only [go_sem]
     try simp only [go_sem]
     refine Bm (Z ?_) (Z ?_)
     ·refine caG ⟨[],[],[(1,1000003501,0)],[(1501,160048),(1502,160049)],[],true⟩ (Ar fuel _ _ _ c) ?_
      try simp only [go_sem]
      try simp only [go_sem]
      refine Bm (Z ?_) (Z ?_)
      ·have hq_:=AN i
       obtain⟨hv10006a,hv10006b⟩:=hq_
       refine BW false (Z ?_)
       refine Ak (by refine⟨?_,?_⟩ <;> (try simp only [List.length_map,List.length_append,List.length_cons,List.length_nil] at*) <;> (try unfold maxLen) <;> omega) (Z ?_)
       refine AU (List.map Core.ds e) (by rw [← hv10006b]; simp only [List.map_append,List.map_cons,List.map_nil,List.nil_append,List.append_nil,go_sem,Core.ds_eq]) (Z ?_)
       refine Af t (Core.ds_len _) ?_
       try simp only [go_sem]
       try simp only [go_sem]
       refine Bm (Z ?_) (Z ?_)
       ·refine Br (Ba t) (Z ?_)
        refine AU (List.map Core.ds s) (by rw [← AX o]; simp only [List.map_set,go_sem,Core.ds_eq]) (Z ?_)
        refine AF ?_
        exact lpF (ih0 u w d.2.att d.2.bad s (IntKind.i64.wrap (j+1)) _ h) [(1000002000,160096)] [(1000002500,1000003500),(1000002501,1000003501),(1000002502,1000003502)]
       ·refine Br (Ba t) (Z ?_)
        refine AU (List.map Core.ds s) (by rw [← AX o]; simp only [List.map_set,go_sem,Core.ds_eq]) (Z ?_)
        refine AF ?_
        exact lpF (ih0 u w d.2.att d.2.bad s (IntKind.i64.wrap (j+1)) _ h) [(1000002000,160096)] [(1000002500,1000003500),(1000002501,1000003501),(1000002502,1000003502)]
      ·have hq_:=AN i
       obtain⟨hv10006a,hv10006b⟩:=hq_
       refine BW false (Z ?_)
       refine Ak (by refine⟨?_,?_⟩ <;> (try simp only [List.length_map,List.length_append,List.length_cons,List.length_nil] at*) <;> (try unfold maxLen) <;> omega) (Z ?_)
       refine AU (List.map Core.ds e) (by rw [← hv10006b]; simp only [List.map_append,List.map_cons,List.map_nil,List.nil_append,List.append_nil,go_sem,Core.ds_eq]) (Z ?_)
       refine Af t (Core.ds_len _) ?_
       try simp only [go_sem]
       try simp only [go_sem]
       refine Bm (Z ?_) (Z ?_)
       ·refine Br (Ba t) (Z ?_)
        refine AU (List.map Core.ds s) (by rw [← AX o]; simp only [List.map_set,go_sem,Core.ds_eq]) (Z ?_)
        refine AF ?_
        exact lpF (ih0 u w d.2.att d.2.bad s (IntKind.i64.wrap (j+1)) _ h) [(1000002000,160096)] [(1000002500,1000003500),(1000002501,1000003501),(1000002502,1000003502)]
       ·refine Br (Ba t) (Z ?_)
        refine AU (List.map Core.ds s) (by rw [← AX o]; simp only [List.map_set,go_sem,Core.ds_eq]) (Z ?_)
        refine AF ?_
        exact lpF (ih0 u w d.2.att d.2.bad s (IntKind.i64.wrap (j+1)) _ h) [(1000002000,160096)] [(1000002500,1000003500),(1000002501,1000003501),(1000002502,1000003502)]
     ·refine Bm ?_ ?_
      ·try simp only [go_sem]
       try simp only [go_sem]
       refine Bm (Z ?_) (Z ?_)
       ·refine caG ⟨[],[],[(1,1000003501,0)],[(1501,160048),(1502,160049)],[],true⟩ (Ar fuel _ _ _ c) (Z ?_)
        have hq_:=AN i
        obtain⟨hv10006a,hv10006b⟩:=hq_
        refine BW false (Z ?_)
        refine Ak (by refine⟨?_,?_⟩ <;> (try simp only [List.length_map,List.length_append,List.length_cons,List.length_nil] at*) <;> (try unfold maxLen) <;> omega) (Z ?_)
        refine AU (List.map Core.ds e) (by rw [← hv10006b]; simp only [List.map_append,List.map_cons,List.map_nil,List.nil_append,List.append_nil,go_sem,Core.ds_eq]) (Z ?_)
        refine Af t (Core.ds_len _) ?_
        try simp only [go_sem]
        try simp only [go_sem]
        refine Bm (Z ?_) (Z ?_)
        ·refine Br (Ba t) (Z ?_)
         refine AU (List.map Core.ds s) (by rw [← AX o]; simp only [List.map_set,go_sem,Core.ds_eq]) (Z ?_)
         refine AF ?_
         exact lpF (ih0 u w d.2.att d.2.bad s (IntKind.i64.wrap (j+1)) _ h) [(1000002000,160096)] [(1000002500,1000003500),(1000002501,1000003501),(1000002502,1000003502)]
        ·refine Br (Ba t) (Z ?_)
         refine AU (List.map Core.ds s) (by rw [← AX o]; simp only [List.map_set,go_sem,Core.ds_eq]) (Z ?_)
         refine AF ?_
         exact lpF (ih0 u w d.2.att d.2.bad s (IntKind.i64.wrap (j+1)) _ h) [(1000002000,160096)] [(1000002500,1000003500),(1000002501,1000003501),(1000002502,1000003502)]
       ·refine caG ⟨[],[],[(1,1000003501,0)],[(1501,160048),(1502,160049)],[],true⟩ (Ar fuel _ _ _ c) (Z ?_)
        have hq_:=AN i
        obtain⟨hv10006a,hv10006b⟩:=hq_
        refine BW false (Z ?_)
        refine Ak (by refine⟨?_,?_⟩ <;> (try simp only [List.length_map,List.length_append,List.length_cons,List.length_nil] at*) <;> (try unfold maxLen) <;> omega) (Z ?_)
        refine AU (List.map Core.ds e) (by rw [← hv10006b]; simp only [List.map_append,List.map_cons,List.map_nil,List.nil_append,List.append_nil,go_sem,Core.ds_eq]) (Z ?_)
        refine Af t (Core.ds_len _) ?_
        try simp only [go_sem]
        try simp only [go_sem]
        refine Bm (Z ?_) (Z ?_)
        ·refine Br (Ba t) (Z ?_)
         refine AU (List.map Core.ds s) (by rw [← AX o]; simp only [List.map_set,go_sem,Core.ds_eq]) (Z ?_)
         refine AF ?_
         exact lpF (ih0 u w d.2.att d.2.bad s (IntKind.i64.wrap (j+1)) _ h) [(1000002000,160096)] [(1000002500,1000003500),(1000002501,1000003501),(1000002502,1000003502)]
        ·refine Br (Ba t) (Z ?_)
         refine AU (List.map Core.ds s) (by rw [← AX o]; simp only [List.map_set,go_sem,Core.ds_eq]) (Z ?_)
         refine AF ?_
         exact lpF (ih0 u w d.2.att d.2.bad s (IntKind.i64.wrap (j+1)) _ h) [(1000002000,160096)] [(1000002500,1000003500),(1000002501,1000003501),(1000002502,1000003502)]
      ·try simp only [go_sem]
       try simp only [go_sem]
       refine Bm (Z ?_) (Z ?_)
       ·refine caG ⟨[],[],[(1,1000003501,0)],[(1501,160048),(1502,160049)],[],true⟩ (Ar fuel _ _ _ c) (Z ?_)
        have hq_:=AN i
        obtain⟨hv10006a,hv10006b⟩:=hq_
        refine BW false (Z ?_)
        refine Ak (by refine⟨?_,?_⟩ <;> (try simp only [List.length_map,List.length_append,List.length_cons,List.length_nil] at*) <;> (try unfold maxLen) <;> omega) (Z ?_)
        refine AU (List.map Core.ds e) (by rw [← hv10006b]; simp only [List.map_append,List.map_cons,List.map_nil,List.nil_append,List.append_nil,go_sem,Core.ds_eq]) (Z ?_)
        refine Af t (Core.ds_len _) ?_
        try simp only [go_sem]
        try simp only [go_sem]
        refine Bm (Z ?_) (Z ?_)
        ·refine Br (Ba t) (Z ?_)
         refine AU (List.map Core.ds s) (by rw [← AX o]; simp only [List.map_set,go_sem,Core.ds_eq]) (Z ?_)
         refine AF ?_
         exact lpF (ih0 u w d.2.att d.2.bad s (IntKind.i64.wrap (j+1)) _ h) [(1000002000,160096)] [(1000002500,1000003500),(1000002501,1000003501),(1000002502,1000003502)]
        ·refine Br (Ba t) (Z ?_)
         refine AU (List.map Core.ds s) (by rw [← AX o]; simp only [List.map_set,go_sem,Core.ds_eq]) (Z ?_)
         refine AF ?_
         exact lpF (ih0 u w d.2.att d.2.bad s (IntKind.i64.wrap (j+1)) _ h) [(1000002000,160096)] [(1000002500,1000003500),(1000002501,1000003501),(1000002502,1000003502)]
       ·refine caG ⟨[],[],[(1,1000003501,0)],[(1501,160048),(1502,160049)],[],true⟩ (Ar fuel _ _ _ c) (Z ?_)
        have hq_:=AN i
        obtain⟨hv10006a,hv10006b⟩:=hq_
        refine BW false (Z ?_)
        refine Ak (by refine⟨?_,?_⟩ <;> (try simp only [List.length_map,List.length_append,List.length_cons,List.length_nil] at*) <;> (try unfold maxLen) <;> omega) (Z ?_)
        refine AU (List.map Core.ds e) (by rw [← hv10006b]; simp only [List.map_append,List.map_cons,List.map_nil,List.nil_append,List.append_nil,go_sem,Core.ds_eq]) (Z ?_)
        refine Af t (Core.ds_len _) ?_
        try simp only [go_sem]
        try simp only [go_sem]
        refine Bm (Z ?_) (Z ?_)
        ·refine Br (Ba t) (Z ?_)
         refine AU (List.map Core.ds s) (by rw [← AX o]; simp only [List.map_set,go_sem,Core.ds_eq]) (Z ?_)
         refine AF ?_
         exact lpF (ih0 u w d.2.att d.2.bad s (IntKind.i64.wrap (j+1)) _ h) [(1000002000,160096)] [(1000002500,1000003500),(1000002501,1000003501),(1000002502,1000003502)]
        ·refine Br (Ba t) (Z ?_)
         refine AU (List.map Core.ds s) (by rw [← AX o]; simp only [List.map_set,go_sem,Core.ds_eq]) (Z ?_)
         refine AF ?_
         exact lpF (ih0 u w d.2.att d.2.bad s (IntKind.i64.wrap (j+1)) _ h) [(1000002000,160096)] [(1000002500,1000003500),(1000002501,1000003501),(1000002502,1000003502)]
    ·try simp only [go_sem]
     refine Bm ?_ ?_
     ·try simp only [go_sem]
      refine caG ⟨[],[],[(1,1000003501,0)],[(1501,160048),(1502,160049)],[],true⟩ (Ar fuel _ _ _ c) ?_
      try simp only [go_sem]
      try simp only [go_sem]
      refine Bm ?_ ?_
      ·try simp only [go_sem]
       try simp only [go_sem]
       refine Bm (Z ?_) (Z ?_)
       ·have hq_:=AN i
        obtain⟨hv10006a,hv10006b⟩:=hq_
        refine BW false (Z ?_)
        refine Ak (by refine⟨?_,?_⟩ <;> (try simp only [List.length_map,List.length_append,List.length_cons,List.length_nil] at*) <;> (try unfold maxLen) <;> omega) (Z ?_)
        refine AU (List.map Core.ds e) (by rw [← hv10006b]; simp only [List.map_append,List.map_cons,List.map_nil,List.nil_append,List.append_nil,go_sem,Core.ds_eq]) (Z ?_)
        refine Af t (Core.ds_len _) ?_
        try simp only [go_sem]
        try simp only [go_sem]
        refine Bm (Z ?_) (Z ?_)
        ·refine Br (Ba t) (Z ?_)
         refine AU (List.map Core.ds s) (by rw [← AX o]; simp only [List.map_set,go_sem,Core.ds_eq]) (Z ?_)
         refine AF ?_
         exact lpF (ih0 u w d.2.att d.2.bad s (IntKind.i64.wrap (j+1)) _ h) [(1000002000,160096)] [(1000002500,1000003500),(1000002501,1000003501),(1000002502,1000003502)]
        ·refine Br (Ba t) (Z ?_)
         refine AU (List.map Core.ds s) (by rw [← AX o]; simp only [List.map_set,go_sem,Core.ds_eq]) (Z ?_)
         refine AF ?_
         exact lpF (ih0 u w d.2.att d.2.bad s (IntKind.i64.wrap (j+1)) _ h) [(1000002000,160096)] [(1000002500,1000003500),(1000002501,1000003501),(1000002502,1000003502)]
       ·have hq_:=AN i
        obtain⟨hv10006a,hv10006b⟩:=hq_
        refine BW false (Z ?_)
        refine Ak (by refine⟨?_,?_⟩ <;> (try simp only [List.length_map,List.length_append,List.length_cons,List.length_nil] at*) <;> (try unfold maxLen) <;> omega) (Z ?_)
        refine AU (List.map Core.ds e) (by rw [← hv10006b]; simp only [List.map_append,List.map_cons,List.map_nil,List.nil_append,List.append_nil,go_sem,Core.ds_eq]) (Z ?_)
        refine Af t (Core.ds_len _) ?_
        try simp only [go_sem]
        try simp only [go_sem]
        refine Bm (Z ?_) (Z ?_)
        ·refine Br (Ba t) (Z ?_)
         refine AU (List.map Core.ds s) (by rw [← AX o]; simp only [List.map_set,go_sem,Core.ds_eq]) (Z ?_)
         refine AF ?_
         exact lpF (ih0 u w d.2.att d.2.bad s (IntKind.i64.wrap (j+1)) _ h) [(1000002000,160096)] [(1000002500,1000003500),(1000002501,1000003501),(1000002502,1000003502)]
        ·refine Br (Ba t) (Z ?_)
         refine AU (List.map Core.ds s) (by rw [← AX o]; simp only [List.map_set,go_sem,Core.ds_eq]) (Z ?_)
         refine AF ?_
         exact lpF (ih0 u w d.2.att d.2.bad s (IntKind.i64.wrap (j+1)) _ h) [(1000002000,160096)] [(1000002500,1000003500),(1000002501,1000003501),(1000002502,1000003502)]
      ·try simp only [go_sem]
       have hq_:=AN i
       obtain⟨hv10006a,hv10006b⟩:=hq_
       refine BW false (Z ?_)
       refine Ak (by refine⟨?_,?_⟩ <;> (try simp only [List.length_map,List.length_append,List.length_cons,List.length_nil] at*) <;> (try unfold maxLen) <;> omega) (Z ?_)
       refine AU (List.map Core.ds e) (by rw [← hv10006b]; simp only [List.map_append,List.map_cons,List.map_nil,List.nil_append,List.append_nil,go_sem,Core.ds_eq]) (Z ?_)
       refine Af t (Core.ds_len _) ?_
       try simp only [go_sem]
       try simp only [go_sem]
       refine Bm (Z ?_) (Z ?_)
       ·refine Br (Ba t) (Z ?_)
        refine AU (List.map Core.ds s) (by rw [← AX o]; simp only [List.map_set,go_sem,Core.ds_eq]) (Z ?_)
        refine AF ?_
        exact lpF (ih0 u w d.2.att d.2.bad s (IntKind.i64.wrap (j+1)) _ h) [(1000002000,160096)] [(1000002500,1000003500),(1000002501,1000003501),(1000002502,1000003502)]
       ·refine Br (Ba t) (Z ?_)
        refine AU (List.map Core.ds s) (by rw [← AX o]; simp only [List.map_set,go_sem,Core.ds_eq]) (Z ?_)
        refine AF ?_
        exact lpF (ih0 u w d.2.att d.2.bad s (IntKind.i64.wrap (j+1)) _ h) [(1000002000,160096)] [(1000002500,1000003500),(1000002501,1000003501),(1000002502,1000003502)]
     ·try simp only [go_sem]
      try simp only [go_sem]
      refine Bm ?_ ?_
      ·try simp only [go_sem]
       try simp only [go_sem]
       refine Bm (Z ?_) (Z ?_)
       ·refine caG ⟨[],[],[(1,1000003501,0)],[(1501,160048),(1502,160049)],[],true⟩ (Ar fuel _ _ _ c) (Z ?_)
        have hq_:=AN i
        obtain⟨hv10006a,hv10006b⟩:=hq_
        refine BW false (Z ?_)
        refine Ak (by refine⟨?_,?_⟩ <;> (try simp only [List.length_map,List.length_append,List.length_cons,List.length_nil] at*) <;> (try unfold maxLen) <;> omega) (Z ?_)
        refine AU (List.map Core.ds e) (by rw [← hv10006b]; simp only [List.map_append,List.map_cons,List.map_nil,List.nil_append,List.append_nil,go_sem,Core.ds_eq]) (Z ?_)
        refine Af t (Core.ds_len _) ?_
        try simp only [go_sem]
        try simp only [go_sem]
        refine Bm (Z ?_) (Z ?_)
        ·refine Br (Ba t) (Z ?_)
         refine AU (List.map Core.ds s) (by rw [← AX o]; simp only [List.map_set,go_sem,Core.ds_eq]) (Z ?_)
         refine AF ?_
         exact lpF (ih0 u w d.2.att d.2.bad s (IntKind.i64.wrap (j+1)) _ h) [(1000002000,160096)] [(1000002500,1000003500),(1000002501,1000003501),(1000002502,1000003502)]
        ·refine Br (Ba t) (Z ?_)
         refine AU (List.map Core.ds s) (by rw [← AX o]; simp only [List.map_set,go_sem,Core.ds_eq]) (Z ?_)
         refine AF ?_
         exact lpF (ih0 u w d.2.att d.2.bad s (IntKind.i64.wrap (j+1)) _ h) [(1000002000,160096)] [(1000002500,1000003500),(1000002501,1000003501),(1000002502,1000003502)]
       ·refine caG ⟨[],[],[(1,1000003501,0)],[(1501,160048),(1502,160049)],[],true⟩ (Ar fuel _ _ _ c) (Z ?_)
        have hq_:=AN i
        obtain⟨hv10006a,hv10006b⟩:=hq_
        refine BW false (Z ?_)
        refine Ak (by refine⟨?_,?_⟩ <;> (try simp only [List.length_map,List.length_append,List.length_cons,List.length_nil] at*) <;> (try unfold maxLen) <;> omega) (Z ?_)
        refine AU (List.map Core.ds e) (by rw [← hv10006b]; simp only [List.map_append,List.map_cons,List.map_nil,List.nil_append,List.append_nil,go_sem,Core.ds_eq]) (Z ?_)
        refine Af t (Core.ds_len _) ?_
        try simp only [go_sem]
        try simp only [go_sem]
        refine Bm (Z ?_) (Z ?_)
        ·refine Br (Ba t) (Z ?_)
         refine AU (List.map Core.ds s) (by rw [← AX o]; simp only [List.map_set,go_sem,Core.ds_eq]) (Z ?_)
         refine AF ?_
         exact lpF (ih0 u w d.2.att d.2.bad s (IntKind.i64.wrap (j+1)) _ h) [(1000002000,160096)] [(1000002500,1000003500),(1000002501,1000003501),(1000002502,1000003502)]
        ·refine Br (Ba t) (Z ?_)
         refine AU (List.map Core.ds s) (by rw [← AX o]; simp only [List.map_set,go_sem,Core.ds_eq]) (Z ?_)
         refine AF ?_
         exact lpF (ih0 u w d.2.att d.2.bad s (IntKind.i64.wrap (j+1)) _ h) [(1000002000,160096)] [(1000002500,1000003500),(1000002501,1000003501),(1000002502,1000003502)]
      ·try simp only [go_sem]
       refine caG ⟨[],[],[(1,1000003501,0)],[(1501,160048),(1502,160049)],[],true⟩ (Ar fuel _ _ _ c) (Z ?_)
       have hq_:=AN i
       obtain⟨hv10006a,hv10006b⟩:=hq_
       refine BW false (Z ?_)
       refine Ak (by refine⟨?_,?_⟩ <;> (try simp only [List.length_map,List.length_append,List.length_cons,List.length_nil] at*) <;> (try unfold maxLen) <;> omega) (Z ?_)
       refine AU (List.map Core.ds e) (by rw [← hv10006b]; simp only [List.map_append,List.map_cons,List.map_nil,List.nil_append,List.append_nil,go_sem,Core.ds_eq]) (Z ?_)
       refine Af t (Core.ds_len _) ?_
       try simp only [go_sem]
       try simp only [go_sem]
       refine Bm (Z ?_) (Z ?_)
       ·refine Br (Ba t) (Z ?_)
        refine AU (List.map Core.ds s) (by rw [← AX o]; simp only [List.map_set,go_sem,Core.ds_eq]) (Z ?_)
        refine AF ?_
        exact lpF (ih0 u w d.2.att d.2.bad s (IntKind.i64.wrap (j+1)) _ h) [(1000002000,160096)] [(1000002500,1000003500),(1000002501,1000003501),(1000002502,1000003502)]
       ·refine Br (Ba t) (Z ?_)
        refine AU (List.map Core.ds s) (by rw [← AX o]; simp only [List.map_set,go_sem,Core.ds_eq]) (Z ?_)
        refine AF ?_
        exact lpF (ih0 u w d.2.att d.2.bad s (IntKind.i64.wrap (j+1)) _ h) [(1000002000,160096)] [(1000002500,1000003500),(1000002501,1000003501),(1000002502,1000003502)]
   ·refine AF ?_
    replace h:=AH h; obtain⟨z,u1,h⟩:=h
    refine AK (Jb _ _ u1) (Z ?_)
    refine AB h (fun h=>Z ?_) (fun h=>Z ?_)
    ·exact BS (D0 g true _ h) [(1000004000,1000003000)] [(1000004500,1000003500),(1000004501,1000003502)]
    ·refine AB h (fun h=>Z ?_) (fun h=>Z ?_)
     ·exact BS (D0 g true _ h) [(1000004000,1000003000)] [(1000004500,1000003500),(1000004501,1000003502)]
     ·replace h:=AH h; obtain⟨u2,u3,h⟩:=h
      refine AK (Nc _ _ u3) (Z ?_)
      exact BS (D0 g (!u2) _ h) [(1000004000,1000003000)] [(1000004500,1000003500),(1000004501,1000003502)]
theorem IX (n:Nat):(∀u w y q g j r,AS n u w y q g j=some r→BX Try.prog Try.f4 [1,1,1,1,1,0,1,0] (.tup [.agg (Book.rv r.1),.int .i64 r.2]) ⟨[(2,.box 1000002500 0),(4,.box 1000002501 0),(6,.int .i64 w.1),(7,.box 1000002502 0),(8,.int .i64 j)],[(1000002000,some ⟨List.map Core.ds g,some 4,0,false⟩)],[(1000002500,some [.nils]),(1000002501,some [.ro (List.map u8D u.1.b),.int .i64 y,.bool q]),(1000002502,some [.own 1000002000])]⟩):=(Hx n).1
theorem KE (a0 r) (h:EM a0=some r):AC Try.prog 4 [.ro (List.map u8D a0)] (.tup [.agg (Book.rv r.1),.int .i64 r.2]):=by
 unfold EM at h
 refine acF Try.func4 mixed (h:=Z ?_)
 refine AF ?_
 replace h:=AH h; obtain⟨u,w,h⟩:=h
 by_cases hc:u.2 =0
 ·refine caG ⟨[],[],[],[],[(1601,32016)],true⟩ (KC _ _ _ w hc) (Z ?_)
  refine AF ?_
  refine GV (fun y=>?_) (fun y=>?_)
  ·replace h:=ifT (c:=(!decide (u.2 =0))) y h
   try simp only [go_sem]
   cases h
   simp only [go_sem]
  ·replace h:=ifF (c:=(!decide (u.2 =0))) y h
   try simp only [go_sem]
   refine AF ?_
   replace h:=AH h; obtain⟨q,g,h⟩:=h
   refine caG ⟨[],[],[(1,32016,0)],[],[],true⟩ (GF _ _ g) (Z ?_)
   refine AF ?_
   refine AF ?_
   refine Ef (Fp rfl rfl (IX fuel u q q.2.att q.2.bad [] 0 _ h):) (.one ⟨_,.cell 6001 0 2000000000 (some 4) false _ (by simp only [go_sem]; rfl) (by rfl) (by simp only [go_sem]) (.done _),[(1000002000,2000000000)],[(1000002500,1000),(1000002501,32016),(1000002502,6001)],?_⟩)
   simp only [go_sem]
   all_goals try rfl
 ·refine ND (KD _ _ _ w hc) (by (first|rfl|(simp only [go_sem]; rfl))) (by first|rfl|(simp only [go_sem])) (Z ?_)
  refine AF ?_
  refine GV (fun y=>?_) (fun y=>?_)
  ·replace h:=ifT (c:=(!decide (u.2 =0))) y h
   try simp only [go_sem]
   cases h
   simp only [go_sem]
  ·exact absurd (by simpa using y) hc
theorem DP (u:Int) (w:Int) (y:Bool) (r:Int × Int × Int) (h:BR u w y=some r):BX Try.prog Try.f42 [1,1,1,0,1,0,0,1,0,0,1,1,1,1,1,0,1] (.tup [.int .i64 r.1,.int .i64 r.2.1,.int .i64 r.2.2]) ⟨[(9,.int .i64 u),(10,.int .i64 w),(71,.bool y)],[],[]⟩:=by
 unfold BR at h
 refine AP rfl rfl (Z ?_)
 refine AB h (fun h=>Z ?_) (fun h=>Z ?_)
 ·refine AF ?_
  cases h
  simp only [go_sem]
 ·refine AF ?_
  cases h
  simp only [go_sem]
theorem ES (a0:List Int) (a1:Int) (u:Int) (w:Int) (r:Int × Int × Int) (h:Bq a0 a1 u w=some r):BX Try.prog Try.f42 [1,1,1,0,1,0,0,1,0,0,1,1,1,1,1] (.tup [.int .i64 r.1,.int .i64 r.2.1,.int .i64 r.2.2]) ⟨[(0,.ro (List.map u8D a0)),(1,.int .i64 a1),(9,.int .i64 u),(10,.int .i64 w)],[],[]⟩:=by
 unfold Bq at h
 refine AP rfl rfl (Z ?_)
 replace h:=AH h; obtain⟨y,q,h⟩:=h
 refine Af q rfl (Z ?_)
 refine AB h (fun h=>Z ?_) (fun h=>Z ?_)
 ·refine AB h (fun h=>Z ?_) (fun h=>Z ?_)
  ·exact BS (DP u w true _ h) [] []
  ·replace h:=AH h; obtain⟨g,j,h⟩:=h
   refine AK (IS _ _ j) (Z ?_)
   exact BS (DP u w (!g) _ h) [] []
 ·replace h:=AH h; obtain⟨g,j,h⟩:=h
  refine AK (IS _ _ j) (Z ?_)
  exact BS (DP u w (!g) _ h) [] []
theorem Gn (n:Nat):(∀a0 a1 u w y r,AW n a0 a1 u w y=some r→BX Try.prog Try.f42 [1,1,1,0,1,0] (.tup [.int .i64 r.1,.int .i64 r.2.1,.int .i64 r.2.2]) ⟨[(0,.ro (List.map u8D a0)),(1,.int .i64 a1),(7,.int .i64 u),(8,.int .i64 w),(9,.int .i64 y)],[],[]⟩)∧
    (∀a0 a1 u w y q r,A6 n a0 a1 u w y q=some r→BX Try.prog Try.f42 [1,1,1,0,1,0,0,0,1] (.tup [.int .i64 r.1,.int .i64 r.2.1,.int .i64 r.2.2]) ⟨[(0,.ro (List.map u8D a0)),(1,.int .i64 a1),(7,.int .i64 u),(8,.int .i64 w),(9,.int .i64 y),(29,.bool q)],[],[]⟩):=by
 induction n with
 |zero=>exact⟨(fun _ _ _ _ _ _ h=>by rw [AW] at h; cases h),(fun _ _ _ _ _ _ _ h=>by rw [A6] at h; cases h)⟩
 | succ n ih=>
  obtain⟨ih0,ih1⟩:=ih
  refine⟨?_,?_⟩
  ·intro a0 a1 u w y r h
   rw [AW] at h
   refine AP rfl rfl (Z ?_)
   refine A3 (Z ?_)
   refine AB h (fun h=>Z ?_) (fun h=>Z ?_)
   ·exact BS (ih1 a0 a1 u w y (decide (y<(IntKind.i64.wrap (a1+5)))) _ h) [] []
   ·exact BS (ih1 a0 a1 u w y false _ h) [] []
  ·intro a0 a1 u w y q r h
   rw [A6] at h
   refine AP rfl rfl (Z ?_)
   refine AB h (fun h=>Z ?_) (fun h=>Z ?_)
   ·refine AF ?_
    replace h:=AH h; obtain⟨g,j,h⟩:=h
    refine Af j rfl (Z ?_)
    refine Ak (by decide) (Z ?_)
    replace h:=AH h; obtain⟨k,b,h⟩:=h
    refine Af b rfl (Z ?_)
    refine AB h (fun h=>Z ?_) (fun h=>Z ?_)
    ·refine AF ?_
     exact lpF (ih0 a0 a1 (IntKind.i64.wrap (u+(IntKind.i64.wrap ((IntKind.i64.wrap (Int.tmod g 128))*w)))) (IntKind.i64.wrap (w*128)) (IntKind.i64.wrap (y+1)) _ h) [] []
    ·refine AF ?_
     refine Ak (by decide) (Z ?_)
     refine Ak (by decide) (Z ?_)
     refine AB h (fun h=>Z ?_) (fun h=>Z ?_)
     ·exact BS (ES a0 a1 y (IntKind.i64.wrap ((IntKind.i64.wrap (0 - (IntKind.i64.wrap (Int.tdiv (IntKind.i64.wrap (u+(IntKind.i64.wrap ((IntKind.i64.wrap (Int.tmod g 128))*w)))) 2)))) - 1)) _ h) [] []
     ·exact BS (ES a0 a1 y (IntKind.i64.wrap (Int.tdiv (IntKind.i64.wrap (u+(IntKind.i64.wrap ((IntKind.i64.wrap (Int.tmod g 128))*w)))) 2)) _ h) [] []
   ·refine AF ?_
    cases h
    simp only [go_sem]
theorem HW (n:Nat):(∀a0 a1 u w y r,AW n a0 a1 u w y=some r→BX Try.prog Try.f42 [1,1,1,0,1,0] (.tup [.int .i64 r.1,.int .i64 r.2.1,.int .i64 r.2.2]) ⟨[(0,.ro (List.map u8D a0)),(1,.int .i64 a1),(7,.int .i64 u),(8,.int .i64 w),(9,.int .i64 y)],[],[]⟩):=(Gn n).1
theorem Ew (a0:List Int) (a1:Int) (u:Bool) (r:Int × Int × Int) (h:Bz a0 a1 u=some r):BX Try.prog Try.f42 [1,0,1] (.tup [.int .i64 r.1,.int .i64 r.2.1,.int .i64 r.2.2]) ⟨[(0,.ro (List.map u8D a0)),(1,.int .i64 a1),(18,.bool u)],[],[]⟩:=by
 unfold Bz at h
 refine AP rfl rfl (Z ?_)
 refine AB h (fun h=>Z ?_) (fun h=>Z ?_)
 ·cases h
  simp only [go_sem]
 ·refine AF ?_
  exact loF (HW fuel a0 a1 0 1 a1 _ h) [] []
theorem I6 (a0 a1 r) (h:DY a0 a1=some r):AC Try.prog 42 [.ro (List.map u8D a0),.int .i64 a1] (.tup [.int .i64 r.1,.int .i64 r.2.1,.int .i64 r.2.2]):=by
 unfold DY at h
 refine acF Try.func42 mixed (h:=Z ?_)
 refine AB h (fun h=>Z ?_) (fun h=>Z ?_)
 ·exact BS (Ew a0 a1 true _ h) [] []
 ·exact BS (Ew a0 a1 (decide (((List.length a0:Nat):Int)<a1)) _ h) [] []
theorem E4 (a0 r) (h:BE a0=some r):AG Try.prog 30 [.box 1 0] [] [(1,[.ro (List.map u8D a0.b),.int .i64 a0.att,.bool a0.bad])] (.int .i64 r.1) [] [(1,[.ro (List.map u8D a0.b),.int .i64 r.2.att,.bool r.2.bad])] :=by
 unfold BE at h
 refine agF Try.func30 mixed (h:=Z ?_)
 refine B3 [] .fin (by kernel_rfl) (Z ?_)
 replace h:=AH h; obtain⟨u,w,h⟩:=h
 refine AK (I6 _ _ _ w) (Z ?_)
 refine AF ?_
 refine AB h (fun h=>Z ?_) (fun h=>Z ?_)
 ·cases h
  refine CL (.done _) [] [(1,1)] ?_
  simp only [go_sem]
 ·refine AF ?_
  cases h
  refine CL (.done _) [] [(1,1)] ?_
  simp only [go_sem]
theorem Cm (a0 r) (h:Ap a0=some r):AG Try.prog 43 [.box 1 0] [] [(1,[.ro (List.map u8D a0.b),.int .i64 a0.att,.bool a0.bad])] (.int .i64 r.1) [] [(1,[.ro (List.map u8D a0.b),.int .i64 r.2.att,.bool r.2.bad])] :=by
 unfold Ap at h
 refine agF Try.func43 mixed (h:=Z ?_)
 refine B3 [] .fin (by kernel_rfl) (Z ?_)
 refine AF ?_
 refine AB h (fun h=>Z ?_) (fun h=>Z ?_)
 ·cases h
  refine CL (.done _) [] [(1,1)] ?_
  simp only [go_sem]
 ·refine AF ?_
  refine B3 [] .fin (by kernel_rfl) (Z ?_)
  replace h:=AH h; obtain⟨u,w,h⟩:=h
  refine Af w rfl (Z ?_)
  refine AF ?_
  cases h
  refine CL (.done _) [] [(1,1)] ?_
  simp only [go_sem]
theorem IY (n:Nat):(∀a0 a1 r,BL n a0 a1=some r→AG Try.prog 31 [.box 1 0,.int .i64 a1] [] [(1,[.ro (List.map u8D a0.b),.int .i64 a0.att,.bool a0.bad])] (.agg [.int .i64 r.1.kind,.int .i64 r.1.value,.own 1501,.own 1502]) [(1501,⟨List.map BC r.1.data,some 1,0,false⟩),(1502,⟨List.map Core.ds r.1.kids,some 4,0,false⟩)] [(1,[.ro (List.map u8D a0.b),.int .i64 r.2.att,.bool r.2.bad])])∧
    (∀a0 a1 u w y q g j k r,Ac n a0 a1 u w y q g j k=some r→Cy Try.prog Try.f31 [1,1,1,0,1,0] (.agg [.int .i64 r.1.kind,.int .i64 r.1.value,.own 1501,.own 1502]) [(1501,⟨List.map BC r.1.data,some 1,0,false⟩),(1502,⟨List.map Core.ds r.1.kids,some 4,0,false⟩)] [(1,[.ro (List.map u8D a0.b),.int .i64 r.2.att,.bool r.2.bad])] ⟨[(0,.box 1 0),(1,.int .i64 a1),(4,.box 1000001500 0),(5,.box 1000001501 0),(20,.int .i64 y.1),(21,.int .i64 k)],[(1000001000,some ⟨List.map BC j,some 1,0,false⟩)],[(1,some [.ro (List.map u8D a0.b),.int .i64 q,.bool g]),(1000001500,some [.int .i64 0,.int .i64 0,.nils,.nils]),(1000001501,some [.int .i64 u.1,.int .i64 w.1,.own 1000001000,.nils])]⟩)∧
    (∀a0 a1 j u w d c e i l r,Aq n a0 a1 j u w d c e i l=some r→Cy Try.prog Try.f31 [1,1,1,1,1,0,1,0] (.agg [.int .i64 r.1.kind,.int .i64 r.1.value,.own 1501,.own 1502]) [(1501,⟨List.map BC r.1.data,some 1,0,false⟩),(1502,⟨List.map Core.ds r.1.kids,some 4,0,false⟩)] [(1,[.ro (List.map u8D a0.b),.int .i64 r.2.att,.bool r.2.bad])] ⟨[(0,.box 1 0),(1,.int .i64 a1),(4,.box 1000004500 0),(5,.box 1000004501 0),(6,.int .i64 d.1),(7,.int .i64 l)],[(1000004000,some ⟨List.map BC j,some 1,0,false⟩),(1000004001,some ⟨List.map Core.ds i,some 4,0,false⟩)],[(1,some [.ro (List.map u8D a0.b),.int .i64 c,.bool e]),(1000004500,some [.int .i64 0,.int .i64 0,.nils,.nils]),(1000004501,some [.int .i64 u.1,.int .i64 w.1,.own 1000004000,.own 1000004001])]⟩)∧
    (∀a0 a1 j c e i l u w d t r,A2 n a0 a1 j c e i l u w d t=some r→Cy Try.prog Try.f31 [1,1,1,1,1,0,1,0,0,0,1] (.agg [.int .i64 r.1.kind,.int .i64 r.1.value,.own 1501,.own 1502]) [(1501,⟨List.map BC r.1.data,some 1,0,false⟩),(1502,⟨List.map Core.ds r.1.kids,some 4,0,false⟩)] [(1,[.ro (List.map u8D a0.b),.int .i64 r.2.att,.bool r.2.bad])] ⟨[(0,.box 1 0),(1,.int .i64 a1),(4,.box 1000005500 0),(5,.box 1000005501 0),(6,.int .i64 d.1),(7,.int .i64 l),(42,.bool t)],[(1000005000,some ⟨List.map BC j,some 1,0,false⟩),(1000005001,some ⟨List.map Core.ds i,some 4,0,false⟩)],[(1,some [.ro (List.map u8D a0.b),.int .i64 c,.bool e]),(1000005500,some [.int .i64 0,.int .i64 0,.nils,.nils]),(1000005501,some [.int .i64 u.1,.int .i64 w.1,.own 1000005000,.own 1000005001])]⟩):=by
 induction n with
 |zero=>exact⟨(fun _ _ _ h=>by rw [BL] at h; cases h),(fun _ _ _ _ _ _ _ _ _ _ h=>by rw [Ac] at h; cases h),(fun _ _ _ _ _ _ _ _ _ _ _ h=>by rw [Aq] at h; cases h),(fun _ _ _ _ _ _ _ _ _ _ _ _ h=>by rw [A2] at h; cases h)⟩
 | succ n ih=>
  obtain⟨ih0,ih1,ih2,ih3⟩:=ih
  refine⟨?_,?_,?_,?_⟩
  ·intro a0 a1 r h
   rw [BL] at h
   refine agF Try.func31 mixed (h:=Z ?_)
   refine AF ?_
   refine AB h (fun h=>Z ?_) (fun h=>Z ?_)
   ·cases h
    refine CL (.deep 0 2000000000 (some 1) false [2] (by (first|rfl|(simp only [go_sem]; rfl))) (by simp only [go_sem]) (.deep 0 2000000001 (some 4) false [3] (by (first|rfl|(simp only [go_sem]; rfl))) (by simp only [go_sem]) (.done _))) [(1501,2000000000),(1502,2000000001)] [(1,1)] ?_
    simp only [go_sem]
    all_goals try rfl
   ·refine AF ?_
    replace h:=AH h; obtain⟨u,s,h⟩:=h
    refine caG ⟨[],[],[(1,1,0)],[],[],true⟩ (Cm _ _ s) (Z ?_)
    replace h:=AH h; obtain⟨w,o,h⟩:=h
    refine caG ⟨[],[],[(1,1,0)],[],[],true⟩ (E4 _ _ o) (Z ?_)
    refine AF ?_
    replace h:=AH h; obtain⟨y,z,h⟩:=h
    refine caG ⟨[],[],[(1,1,0)],[],[],true⟩ (Cm _ _ z) (Z ?_)
    refine AF ?_
    refine Ef (E7 rfl rfl (ih1 a0 a1 u w y y.2.att y.2.bad [] 0 _ h):) (.one ⟨_,.cell 5005 2 2000000000 (some 1) false _ (by simp only [go_sem]; rfl) (by rfl) (by simp only [go_sem]) (.done _),[(1000001000,2000000000)],[(1,1),(1000001500,1000),(1000001501,5005)],?_⟩)
    simp only [go_sem]
    all_goals try rfl
  ·intro a0 a1 u w y q g j k r h
   rw [Ac] at h
   refine Av rfl rfl (Z ?_)
   refine A3 (Z ?_)
   refine AB h (fun h=>Z ?_) (fun h=>Z ?_)
   ·refine AF ?_
    replace h:=AH h; obtain⟨u1,u2,h⟩:=h
    replace h:=AH h; obtain⟨u3,u4,h⟩:=h
    refine B3 [false,true,false,true,true,true,true,true] (.br 1 (Tr.sq [3,4,5,6,7] .fin) (.br 3 (.br 1 (Tr.sq [4,5,6,7] .fin) (.br 4 (Tr.sq [1,5,6,7] .fin) .stop)) .stop)) (by kernel_rfl) ?_
    try simp only [go_sem]
    try simp only [go_sem]
    refine Bm (Z ?_) (Z ?_)
    ·refine caG ⟨[],[],[(1,1,0)],[],[],true⟩ (Cm _ _ u2) (Z ?_)
     have hq_:=AN u4
     obtain⟨hv8005a,hv8005b⟩:=hq_
     refine BW false (Z ?_)
     refine Ak (by refine⟨?_,?_⟩ <;> (try simp only [List.length_map,List.length_append,List.length_cons,List.length_nil] at*) <;> (try unfold maxLen) <;> omega) (Z ?_)
     refine AU (List.map BC u3) (by rw [← hv8005b]; simp only [List.map_append,List.map_cons,List.map_nil,List.nil_append,List.append_nil,go_sem,slD]) (Z ?_)
     refine AF ?_
     exact lpG (ih1 a0 a1 u w y u1.2.att u1.2.bad u3 (IntKind.i64.wrap (k+1)) _ h) [(1000001000,128080)] [(1,1),(1000001500,1000001500),(1000001501,1000001501)]
    ·refine caG ⟨[],[],[(1,1,0)],[],[],true⟩ (Cm _ _ u2) ?_
     try simp only [go_sem]
     try simp only [go_sem]
     refine Bm (Z ?_) (Z ?_)
     ·have hq_:=AN u4
      obtain⟨hv8005a,hv8005b⟩:=hq_
      refine BW false (Z ?_)
      refine Ak (by refine⟨?_,?_⟩ <;> (try simp only [List.length_map,List.length_append,List.length_cons,List.length_nil] at*) <;> (try unfold maxLen) <;> omega) (Z ?_)
      refine AU (List.map BC u3) (by rw [← hv8005b]; simp only [List.map_append,List.map_cons,List.map_nil,List.nil_append,List.append_nil,go_sem,slD]) (Z ?_)
      refine AF ?_
      exact lpG (ih1 a0 a1 u w y u1.2.att u1.2.bad u3 (IntKind.i64.wrap (k+1)) _ h) [(1000001000,128080)] [(1,1),(1000001500,1000001500),(1000001501,1000001501)]
     ·have hq_:=AN u4
      obtain⟨hv8005a,hv8005b⟩:=hq_
      refine BW false (Z ?_)
      refine Ak (by refine⟨?_,?_⟩ <;> (try simp only [List.length_map,List.length_append,List.length_cons,List.length_nil] at*) <;> (try unfold maxLen) <;> omega) (Z ?_)
      refine AU (List.map BC u3) (by rw [← hv8005b]; simp only [List.map_append,List.map_cons,List.map_nil,List.nil_append,List.append_nil,go_sem,slD]) (Z ?_)
      refine AF ?_
      exact lpG (ih1 a0 a1 u w y u1.2.att u1.2.bad u3 (IntKind.i64.wrap (k+1)) _ h) [(1000001000,128080)] [(1,1),(1000001500,1000001500),(1000001501,1000001501)]
   ·refine AF ?_
    replace h:=AH h; obtain⟨d,u5,h⟩:=h
    refine caG ⟨[],[],[(1,1,0)],[],[],true⟩ (Cm _ _ u5) (Z ?_)
    refine AF ?_
    refine Ef (E7 rfl rfl (ih2 a0 a1 j u w d d.2.att d.2.bad [] 0 _ h):) (.one ⟨_,.cell 1000001501 3 2000000000 (some 4) false _ (by simp only [go_sem]; rfl) (by rfl) (by simp only [go_sem]) (.done _),[(1000004000,1000001000),(1000004001,2000000000)],[(1,1),(1000004500,1000001500),(1000004501,1000001501)],?_⟩)
    simp only [go_sem]
    all_goals try rfl
  ·intro a0 a1 j u w d c e i l r h
   rw [Aq] at h
   refine Av rfl rfl (Z ?_)
   refine A3 (Z ?_)
   refine AB h (fun h=>Z ?_) (fun h=>Z ?_)
   ·exact By (ih3 a0 a1 j c e i l u w d (!e) _ h) [(1000005000,1000004000),(1000005001,1000004001)] [(1,1),(1000005500,1000004500),(1000005501,1000004501)]
   ·exact By (ih3 a0 a1 j c e i l u w d false _ h) [(1000005000,1000004000),(1000005001,1000004001)] [(1,1),(1000005500,1000004500),(1000005501,1000004501)]
  ·intro a0 a1 j c e i l u w d t r h
   rw [A2] at h
   refine Av rfl rfl (Z ?_)
   refine AB h (fun h=>Z ?_) (fun h=>Z ?_)
   ·refine AF ?_
    replace h:=AH h; obtain⟨u6,u7,h⟩:=h
    replace h:=AH h; obtain⟨u8,u9,h⟩:=h
    refine B3 [false,true,false,false,false,true,true,true,true,true] (.br 1 (Tr.sq [5,6,7,8,9] .fin) (.br 5 (.br 1 (Tr.sq [6,7,8,9] .fin) (.br 6 (Tr.sq [1,7,8,9] .fin) .stop)) .stop)) (by kernel_rfl) ?_
    try simp only [go_sem]
    try simp only [go_sem]
    refine Bm (Z ?_) (Z ?_)
    ·refine caG ⟨[],[],[(1,1,0)],[(1501,224080),(1502,224081)],[],true⟩ (ih0 _ _ _ u7) (Z ?_)
     have hq_:=AN u9
     obtain⟨hv14007a,hv14007b⟩:=hq_
     refine BW false (Z ?_)
     refine Ak (by refine⟨?_,?_⟩ <;> (try simp only [List.length_map,List.length_append,List.length_cons,List.length_nil] at*) <;> (try unfold maxLen) <;> omega) (Z ?_)
     refine AU (List.map Core.ds u8) (by rw [← hv14007b]; simp only [List.map_append,List.map_cons,List.map_nil,List.nil_append,List.append_nil,go_sem,Core.ds_eq]) (Z ?_)
     refine AF ?_
     exact lpG (ih2 a0 a1 j u w d u6.2.att u6.2.bad u8 (IntKind.i64.wrap (l+1)) _ h) [(1000004000,1000005000),(1000004001,224112)] [(1,1),(1000004500,1000005500),(1000004501,1000005501)]
    ·refine caG ⟨[],[],[(1,1,0)],[(1501,224080),(1502,224081)],[],true⟩ (ih0 _ _ _ u7) ?_
     try simp only [go_sem]
     try simp only [go_sem]
     refine Bm (Z ?_) (Z ?_)
     ·have hq_:=AN u9
      obtain⟨hv14007a,hv14007b⟩:=hq_
      refine BW false (Z ?_)
      refine Ak (by refine⟨?_,?_⟩ <;> (try simp only [List.length_map,List.length_append,List.length_cons,List.length_nil] at*) <;> (try unfold maxLen) <;> omega) (Z ?_)
      refine AU (List.map Core.ds u8) (by rw [← hv14007b]; simp only [List.map_append,List.map_cons,List.map_nil,List.nil_append,List.append_nil,go_sem,Core.ds_eq]) (Z ?_)
      refine AF ?_
      exact lpG (ih2 a0 a1 j u w d u6.2.att u6.2.bad u8 (IntKind.i64.wrap (l+1)) _ h) [(1000004000,1000005000),(1000004001,224112)] [(1,1),(1000004500,1000005500),(1000004501,1000005501)]
     ·have hq_:=AN u9
      obtain⟨hv14007a,hv14007b⟩:=hq_
      refine BW false (Z ?_)
      refine Ak (by refine⟨?_,?_⟩ <;> (try simp only [List.length_map,List.length_append,List.length_cons,List.length_nil] at*) <;> (try unfold maxLen) <;> omega) (Z ?_)
      refine AU (List.map Core.ds u8) (by rw [← hv14007b]; simp only [List.map_append,List.map_cons,List.map_nil,List.nil_append,List.append_nil,go_sem,Core.ds_eq]) (Z ?_)
      refine AF ?_
      exact lpG (ih2 a0 a1 j u w d u6.2.att u6.2.bad u8 (IntKind.i64.wrap (l+1)) _ h) [(1000004000,1000005000),(1000004001,224112)] [(1,1),(1000004500,1000005500),(1000004501,1000005501)]
   ·refine AF ?_
    cases h
    refine CL (.done _) [(1501,1000005000),(1502,1000005001)] [(1,1)] ?_
    simp only [go_sem]
theorem Fv (n:Nat):(∀a0 a1 r,BL n a0 a1=some r→AG Try.prog 31 [.box 1 0,.int .i64 a1] [] [(1,[.ro (List.map u8D a0.b),.int .i64 a0.att,.bool a0.bad])] (.agg [.int .i64 r.1.kind,.int .i64 r.1.value,.own 1501,.own 1502]) [(1501,⟨List.map BC r.1.data,some 1,0,false⟩),(1502,⟨List.map Core.ds r.1.kids,some 4,0,false⟩)] [(1,[.ro (List.map u8D a0.b),.int .i64 r.2.att,.bool r.2.bad])]):=(IY n).1
theorem Gp (n:Nat):(∀a0 u w y q g r,Ad n a0 u w y q g=some r→Cy Try.prog Try.f18 [1,1,1,1,0,1,0] (.agg [.own 1501]) [(1501,⟨List.map Core.ds r.1.defs,some 4,0,false⟩)] [(1,[.ro (List.map u8D a0.b),.int .i64 r.2.att,.bool r.2.bad])] ⟨[(0,.box 1 0),(2,.box 1000004500 0),(3,.int .i64 u.1),(4,.box 1000004501 0),(5,.int .i64 g)],[(1000004000,some ⟨List.map Core.ds q,some 4,0,false⟩)],[(1,some [.ro (List.map u8D a0.b),.int .i64 w,.bool y]),(1000004500,some [.nils]),(1000004501,some [.own 1000004000])]⟩)∧
    (∀a0 w y q g u j r,BA n a0 w y q g u j=some r→Cy Try.prog Try.f18 [1,1,1,1,0,1,0,0,0,1] (.agg [.own 1501]) [(1501,⟨List.map Core.ds r.1.defs,some 4,0,false⟩)] [(1,[.ro (List.map u8D a0.b),.int .i64 r.2.att,.bool r.2.bad])] ⟨[(0,.box 1 0),(2,.box 1000005500 0),(3,.int .i64 u.1),(4,.box 1000005501 0),(5,.int .i64 g),(26,.bool j)],[(1000005000,some ⟨List.map Core.ds q,some 4,0,false⟩)],[(1,some [.ro (List.map u8D a0.b),.int .i64 w,.bool y]),(1000005500,some [.nils]),(1000005501,some [.own 1000005000])]⟩):=by
 induction n with
 |zero=>exact⟨(fun _ _ _ _ _ _ _ h=>by rw [Ad] at h; cases h),(fun _ _ _ _ _ _ _ _ h=>by rw [BA] at h; cases h)⟩
 | succ n ih=>
  obtain⟨ih0,ih1⟩:=ih
  refine⟨?_,?_⟩
  ·intro a0 u w y q g r h
   rw [Ad] at h
   refine Av rfl rfl (Z ?_)
   refine A3 (Z ?_)
   refine AB h (fun h=>Z ?_) (fun h=>Z ?_)
   ·exact By (ih1 a0 w y q g u (!y) _ h) [(1000005000,1000004000)] [(1,1),(1000005500,1000004500),(1000005501,1000004501)]
   ·exact By (ih1 a0 w y q g u false _ h) [(1000005000,1000004000)] [(1,1),(1000005500,1000004500),(1000005501,1000004501)]
  ·intro a0 w y q g u j r h
   rw [BA] at h
   refine Av rfl rfl (Z ?_)
   refine AB h (fun h=>Z ?_) (fun h=>Z ?_)
   ·refine AF ?_
    replace h:=AH h; obtain⟨k,d,h⟩:=h
    replace h:=AH h; obtain⟨c,e,h⟩:=h
    refine B3 [false,true,false,true,true,true,true,true] (.br 1 (Tr.sq [3,4,5,6,7] .fin) (.br 3 (.br 1 (Tr.sq [4,5,6,7] .fin) (.br 4 (Tr.sq [1,5,6,7] .fin) .stop)) .stop)) (by kernel_rfl) ?_
    try simp only [go_sem]
    try simp only [go_sem]
    refine Bm (Z ?_) (Z ?_)
    ·refine caG ⟨[],[],[(1,1,0)],[(1501,144048),(1502,144049)],[],true⟩ (Fv fuel _ _ _ d) (Z ?_)
     have hq_:=AN e
     obtain⟨hv9005a,hv9005b⟩:=hq_
     refine BW false (Z ?_)
     refine Ak (by refine⟨?_,?_⟩ <;> (try simp only [List.length_map,List.length_append,List.length_cons,List.length_nil] at*) <;> (try unfold maxLen) <;> omega) (Z ?_)
     refine AU (List.map Core.ds c) (by rw [← hv9005b]; simp only [List.map_append,List.map_cons,List.map_nil,List.nil_append,List.append_nil,go_sem,Core.ds_eq]) (Z ?_)
     refine AF ?_
     exact lpG (ih0 a0 u k.2.att k.2.bad c (IntKind.i64.wrap (g+1)) _ h) [(1000004000,144080)] [(1,1),(1000004500,1000005500),(1000004501,1000005501)]
    ·refine caG ⟨[],[],[(1,1,0)],[(1501,144048),(1502,144049)],[],true⟩ (Fv fuel _ _ _ d) ?_
     try simp only [go_sem]
     try simp only [go_sem]
     refine Bm (Z ?_) (Z ?_)
     ·have hq_:=AN e
      obtain⟨hv9005a,hv9005b⟩:=hq_
      refine BW false (Z ?_)
      refine Ak (by refine⟨?_,?_⟩ <;> (try simp only [List.length_map,List.length_append,List.length_cons,List.length_nil] at*) <;> (try unfold maxLen) <;> omega) (Z ?_)
      refine AU (List.map Core.ds c) (by rw [← hv9005b]; simp only [List.map_append,List.map_cons,List.map_nil,List.nil_append,List.append_nil,go_sem,Core.ds_eq]) (Z ?_)
      refine AF ?_
      exact lpG (ih0 a0 u k.2.att k.2.bad c (IntKind.i64.wrap (g+1)) _ h) [(1000004000,144080)] [(1,1),(1000004500,1000005500),(1000004501,1000005501)]
     ·have hq_:=AN e
      obtain⟨hv9005a,hv9005b⟩:=hq_
      refine BW false (Z ?_)
      refine Ak (by refine⟨?_,?_⟩ <;> (try simp only [List.length_map,List.length_append,List.length_cons,List.length_nil] at*) <;> (try unfold maxLen) <;> omega) (Z ?_)
      refine AU (List.map Core.ds c) (by rw [← hv9005b]; simp only [List.map_append,List.map_cons,List.map_nil,List.nil_append,List.append_nil,go_sem,Core.ds_eq]) (Z ?_)
      refine AF ?_
      exact lpG (ih0 a0 u k.2.att k.2.bad c (IntKind.i64.wrap (g+1)) _ h) [(1000004000,144080)] [(1,1),(1000004500,1000005500),(1000004501,1000005501)]
   ·refine AF ?_
    cases h
    refine CL (.done _) [(1501,1000005000)] [(1,1)] ?_
    simp only [go_sem]
theorem HX (n:Nat):(∀a0 u w y q g r,Ad n a0 u w y q g=some r→Cy Try.prog Try.f18 [1,1,1,1,0,1,0] (.agg [.own 1501]) [(1501,⟨List.map Core.ds r.1.defs,some 4,0,false⟩)] [(1,[.ro (List.map u8D a0.b),.int .i64 r.2.att,.bool r.2.bad])] ⟨[(0,.box 1 0),(2,.box 1000004500 0),(3,.int .i64 u.1),(4,.box 1000004501 0),(5,.int .i64 g)],[(1000004000,some ⟨List.map Core.ds q,some 4,0,false⟩)],[(1,some [.ro (List.map u8D a0.b),.int .i64 w,.bool y]),(1000004500,some [.nils]),(1000004501,some [.own 1000004000])]⟩):=(Gp n).1
theorem Ex (a0:Decoder) (u:Int × Decoder) (w:Bool) (r:Book × Decoder) (h:BI a0 u w=some r):Cy Try.prog Try.f18 [1,1,1] (.agg [.own 1501]) [(1501,⟨List.map Core.ds r.1.defs,some 4,0,false⟩)] [(1,[.ro (List.map u8D a0.b),.int .i64 r.2.att,.bool r.2.bad])] ⟨[(0,.box 1 0),(2,.box 1000001500 0),(3,.int .i64 u.1)],[],[(1,some [.ro (List.map u8D a0.b),.int .i64 u.2.att,.bool w]),(1000001500,some [.nils])]⟩:=by
 unfold BI at h
 refine Av rfl rfl (Z ?_)
 refine AF ?_
 refine Ef (E7 rfl rfl (HX fuel a0 u u.2.att w [] 0 _ h):) (.one ⟨_,.cell 5000 0 2000000000 (some 4) false _ (by simp only [go_sem]; rfl) (by rfl) (by simp only [go_sem]) (.done _),[(1000004000,2000000000)],[(1,1),(1000004500,1000001500),(1000004501,5000)],?_⟩)
 simp only [go_sem]
 all_goals try rfl
theorem Ey (a0:Decoder) (u:Int × Decoder) (w:Bool) (r:Book × Decoder) (h:Aj a0 u w=some r):Cy Try.prog Try.f18 [1,1,0,1] (.agg [.own 1501]) [(1501,⟨List.map Core.ds r.1.defs,some 4,0,false⟩)] [(1,[.ro (List.map u8D a0.b),.int .i64 r.2.att,.bool r.2.bad])] ⟨[(0,.box 1 0),(2,.box 1000000500 0),(3,.int .i64 u.1),(13,.bool w)],[],[(1,some [.ro (List.map u8D a0.b),.int .i64 u.2.att,.bool u.2.bad]),(1000000500,some [.nils])]⟩:=by
 unfold Aj at h
 refine Av rfl rfl (Z ?_)
 refine AB h (fun h=>Z ?_) (fun h=>Z ?_)
 ·exact By (Ex a0 u true _ h) [] [(1,1),(1000001500,1000000500)]
 ·exact By (Ex a0 u u.2.bad _ h) [] [(1,1),(1000001500,1000000500)]
theorem I7 (a0 r) (h:EN a0=some r):AG Try.prog 18 [.box 1 0] [] [(1,[.ro (List.map u8D a0.b),.int .i64 a0.att,.bool a0.bad])] (.agg [.own 1501]) [(1501,⟨List.map Core.ds r.1.defs,some 4,0,false⟩)] [(1,[.ro (List.map u8D a0.b),.int .i64 r.2.att,.bool r.2.bad])] :=by
 unfold EN at h
 refine agF Try.func18 mixed (h:=Z ?_)
 refine AF ?_
 replace h:=AH h; obtain⟨u,w,h⟩:=h
 refine caG ⟨[],[],[(1,1,0)],[],[],true⟩ (E4 _ _ w) (Z ?_)
 refine AF ?_
 refine AB h (fun h=>Z ?_) (fun h=>Z ?_)
 ·exact By (Ey a0 u true _ h) [] [(1,1),(1000000500,1000)]
 ·exact By (Ey a0 u (decide (24<u.1)) _ h) [] [(1,1),(1000000500,1000)]
theorem Dj (u:Book × Decoder) (w:Bool) (r:Book × Int) (h:BF u w=some r):BX Try.prog Try.f17 [1,1,1,1,1,1,1,1,0,1,1] (.tup [.agg (Book.rv r.1),.int .i64 r.2]) ⟨[(8,.box 1000000500 0),(10,.box 1000000501 0),(15,.box 1000000502 0),(56,.bool w)],[(1000000000,some ⟨List.map Core.ds u.1.defs,some 4,0,false⟩)],[(1000000500,some [.nils]),(1000000501,some [.nils]),(1000000502,some [.own 1000000000])]⟩:=by
 unfold BF at h
 refine AP rfl rfl (Z ?_)
 refine AB h (fun h=>Z ?_) (fun h=>Z ?_)
 ·cases h
  simp only [go_sem]
 ·refine AF ?_
  cases h
  simp only [go_sem]
theorem Gf (a0 a1 r) (h:Cs a0 a1=some r):AC Try.prog 17 [.ro (List.map u8D a0),.int .i64 a1,.fn 18 [],.fn 19 []] (.tup [.agg (Book.rv r.1),.int .i64 r.2]):=by
 unfold Cs at h
 refine acF Try.func17 mixed (h:=Z ?_)
 refine AF ?_
 refine AF ?_
 replace h:=AH h; obtain⟨u,w,h⟩:=h
 refine ND (Lk _ _ w) (by (first|rfl|(simp only [go_sem]; rfl))) (by first|rfl|(simp only [go_sem])) (Z ?_)
 refine AF ?_
 refine AB h (fun h=>Z ?_) (fun h=>Z ?_)
 ·cases h
  simp only [go_sem]
 ·refine AF ?_
  refine AB h (fun h=>Z ?_) (fun h=>Z ?_)
  ·cases h
   simp only [go_sem]
  ·refine AF ?_
   replace h:=AH h; obtain⟨y,q,h⟩:=h
   refine caG ⟨[],[],[(1,8002,0)],[(1501,144032)],[],true⟩ (I7 _ _ q) (Z ?_)
   refine AF ?_
   refine AB h (fun h=>Z ?_) (fun h=>Z ?_)
   ·cases h
    simp only [go_sem]
   ·refine AF ?_
    replace h:=AH h; obtain⟨g,j,h⟩:=h
    refine AK (J6 _ _ j) (Z ?_)
    refine AF ?_
    refine AB h (fun h=>Z ?_) (fun h=>Z ?_)
    ·exact BS (Dj y true _ h) [(1000000000,144032)] [(1000000500,1000),(1000000501,2000),(1000000502,9003)]
    ·replace h:=AH h; obtain⟨k,b,h⟩:=h
     refine AK (GE _ _ _ b) (Z ?_)
     exact BS (Dj y (!k) _ h) [(1000000000,144032)] [(1000000500,1000),(1000000501,2000),(1000000502,9003)]
theorem Gk (a0 r) (h:Df a0=some r):AC Try.prog 6 [.ro (List.map u8D a0)] (.tup [.agg (Book.rv r.1),.int .i64 r.2]):=by
 unfold Df at h
 refine acF Try.func6 mixed (h:=Z ?_)
 refine AF ?_
 replace h:=AH h; obtain⟨u,w,h⟩:=h
 refine AK (Gf _ _ _ w) (Z ?_)
 refine AF ?_
 cases h
 simp only [go_sem]
theorem Dk (u:Int × (List Core)) (w:Bool) (r:Bool) (h:Bc u w=some r):BX Try.prog Try.f3 [1,1,1,1,1,1,1,1,1,1,1,1,1,1,1,1,1,0,1] (.bool r) ⟨[(6,.box 1000002500 0),(9,.int .i64 u.1),(84,.bool w)],[(1000002000,some ⟨List.map Core.ds u.2,some 4,0,false⟩)],[(1000002500,some [.own 1000002000])]⟩:=by
 unfold Bc at h
 refine AP rfl rfl (Z ?_)
 refine AB h (fun h=>Z ?_) (fun h=>Z ?_)
 ·cases h
  simp only [go_sem]
 ·refine AF ?_
  replace h:=AH h; obtain⟨y,q,h⟩:=h
  refine AK (H3 _ _ _ q) (Z ?_)
  refine AF ?_
  refine AB h (fun h=>Z ?_) (fun h=>Z ?_)
  ·cases h
   simp only [go_sem]
  ·refine AF ?_
   refine AB h (fun h=>Z ?_) (fun h=>Z ?_)
   ·cases h
    simp only [go_sem]
   ·refine AF ?_
    cases h
    simp only [go_sem]
theorem CT (a0:List Int) (u:Book × Int) (w:Book × Int) (y:Bool) (r:Bool) (h:BG a0 u w y=some r):BX Try.prog Try.f3 [1,1,1,1,1,1,1,1,1,0,1] (.bool r) ⟨[(0,.ro (List.map u8D a0)),(3,.box 1000001500 0),(4,.int .i64 u.2),(6,.box 1000001501 0),(58,.bool y)],[(1000001000,some ⟨List.map Core.ds u.1.defs,some 4,0,false⟩),(1000001001,some ⟨List.map Core.ds w.1.defs,some 4,0,false⟩)],[(1000001500,some [.own 1000001000]),(1000001501,some [.own 1000001001])]⟩:=by
 unfold BG at h
 refine AP rfl rfl (Z ?_)
 refine AB h (fun h=>Z ?_) (fun h=>Z ?_)
 ·cases h
  simp only [go_sem]
 ·refine AF ?_
  replace h:=AH h; obtain⟨q,g,h⟩:=h
  refine caG ⟨[],[(1,1000001001)],[],[],[],true⟩ (MA _ _ (some 4) _ g) (Z ?_)
  refine AF ?_
  replace h:=AH h; obtain⟨j,k,h⟩:=h
  refine AK (H3 _ _ _ k) (Z ?_)
  refine AF ?_
  refine AB h (fun h=>Z ?_) (fun h=>Z ?_)
  ·cases h
   simp only [go_sem]
  ·refine AF ?_
   refine AB h (fun h=>Z ?_) (fun h=>Z ?_)
   ·cases h
    simp only [go_sem]
   ·refine AF ?_
    replace h:=AH h; obtain⟨b,d,h⟩:=h
    refine AK (E8 _ _ d) (Z ?_)
    replace h:=AH h; obtain⟨c,e,h⟩:=h
    refine AK (Gk _ _ e) (Z ?_)
    refine AF ?_
    replace h:=AH h; obtain⟨i,l,h⟩:=h
    refine AK (HU _ _ _ l) (Z ?_)
    refine AB h (fun h=>Z ?_) (fun h=>Z ?_)
    ·exact BS (Dk q true _ h) [(1000002000,1000001001)] [(1000002500,1000001501)]
    ·exact BS (Dk q (!decide (c.2 =u.2)) _ h) [(1000002000,1000001001)] [(1000002500,1000001501)]
theorem Dl (a0:List Int) (u:Book × Int) (w:(List Int)) (y:Book × Int) (q:Bool) (r:Bool) (h:Bd a0 u w y q=some r):BX Try.prog Try.f3 [1,1,1,1,1,0,1] (.bool r) ⟨[(0,.ro (List.map u8D a0)),(3,.box 1000000500 0),(4,.int .i64 u.2),(5,.own 1000000001),(6,.box 1000000501 0),(7,.int .i64 y.2),(37,.bool q)],[(1000000000,some ⟨List.map Core.ds u.1.defs,some 4,0,false⟩),(1000000001,some ⟨List.map u8D w,some 1,0,false⟩),(1000000002,some ⟨List.map Core.ds y.1.defs,some 4,0,false⟩)],[(1000000500,some [.own 1000000000]),(1000000501,some [.own 1000000002])]⟩:=by
 unfold Bd at h
 refine AP rfl rfl (Z ?_)
 refine AB h (fun h=>Z ?_) (fun h=>Z ?_)
 ·cases h
  simp only [go_sem]
 ·refine AF ?_
  replace h:=AH h; obtain⟨g,j,h⟩:=h
  refine AK (E8 _ _ j) (Z ?_)
  replace h:=AH h; obtain⟨k,b,h⟩:=h
  refine AK (Ng _ _ _ b) (Z ?_)
  refine AF ?_
  refine AB h (fun h=>Z ?_) (fun h=>Z ?_)
  ·cases h
   simp only [go_sem]
  ·refine AF ?_
   replace h:=AH h; obtain⟨d,c,h⟩:=h
   refine caG ⟨[],[(1,1000000001)],[],[],[],true⟩ (Ln _ _ (some 1) _ c) (Z ?_)
   refine AF ?_
   refine AB h (fun h=>Z ?_) (fun h=>Z ?_)
   ·exact BS (CT a0 u y true _ h) [(1000001000,1000000000),(1000001001,1000000002)] [(1000001500,1000000500),(1000001501,1000000501)]
   ·replace h:=AH h; obtain⟨e,i,h⟩:=h
    refine AK (HU _ _ _ i) (Z ?_)
    refine AB h (fun h=>Z ?_) (fun h=>Z ?_)
    ·exact BS (CT a0 u y true _ h) [(1000001000,1000000000),(1000001001,1000000002)] [(1000001500,1000000500),(1000001501,1000000501)]
    ·exact BS (CT a0 u y (!decide (y.2 =u.2)) _ h) [(1000001000,1000000000),(1000001001,1000000002)] [(1000001500,1000000500),(1000001501,1000000501)]
theorem GY (a0 r) (h:Ct a0=some r):AC Try.prog 3 [.ro (List.map u8D a0)] (.bool r):=by
 unfold Ct at h
 refine acF Try.func3 mixed (h:=Z ?_)
 refine AB h (fun h=>Z ?_) (fun h=>Z ?_)
 ·cases h
  simp only [go_sem]
 ·refine AF ?_
  replace h:=AH h; obtain⟨u,w,h⟩:=h
  refine AK (E8 _ _ w) (Z ?_)
  replace h:=AH h; obtain⟨y,q,h⟩:=h
  refine AK (KE _ _ q) (Z ?_)
  refine AF ?_
  replace h:=AH h; obtain⟨g,j,h⟩:=h
  refine AK (E8 _ _ j) (Z ?_)
  refine AF ?_
  replace h:=AH h; obtain⟨k,b,h⟩:=h
  refine AK (Gk _ _ b) (Z ?_)
  refine AF ?_
  replace h:=AH h; obtain⟨d,c,h⟩:=h
  refine AK (HU _ _ _ c) (Z ?_)
  refine AB h (fun h=>Z ?_) (fun h=>Z ?_)
  ·exact BS (Dl a0 y g k true _ h) [(1000000000,64032),(1000000001,80016),(1000000002,96016)] [(1000000500,4006),(1000000501,6005)]
  ·exact BS (Dl a0 y g k (!decide (k.2 =y.2)) _ h) [(1000000000,64032),(1000000001,80016),(1000000002,96016)] [(1000000500,4006),(1000000501,6005)]
end Go.Proofs.Ytijdanbelnmmlaa.Ab
