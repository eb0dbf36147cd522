/-
  An interaction with what it does to directions: what both sides look at. No program is in sight.
-/
import Derived.Test.YteckcjgpnegkjaaGreatPlOe
import Derived.Test.YteckcjgpnegkjaaGreatPlTem
import Derived.Test.YteckcjgpnegkjaaGreatPlTU
import Derived.Test.YteckcjgpnegkjaaGreatPlNet
import Derived.Test.YteckcjgpnegkjaaGreatAbZ
import Derived.Test.YteckcjgpnegkjaaGreatModO
namespace Go.Proofs.YteckcjgpnegkjaaGreat.Ab
set_option linter.unusedVariables false
set_option maxHeartbeats 1000000
set_option linter.unusedSimpArgs false
open Go.RowKit
section
variable {R:List Int} {A B:List Agent}
structure OutO (bk:List Net) (R:List Int) (A B:List Agent) (px py x y:Int) (a b:Agent) (c:Int) (R':List Int) (A' B':List Agent) (new:List Sh):Prop where
 hx:at? A x=some a
 hy:at? A y=some b
 ga:agB a=true
 gb:agB b=true
 k8:c≠8
 ru:ru a.kind a.level b.kind b.level=c
 r0:c≠0
 fi:Cw ⟨B⟩ px py=some (x,y)
 cl:Fi a b=some c
 ck:Ad ⟨⟨A⟩,bk,remM R⟩ ⟨px,py⟩=some (c,x,y,0)
 ec:Dj bk c a=0
 int:Ac ⟨⟨A⟩,bk,remM R⟩ ⟨px,py⟩=some (0,⟨⟨A'⟩,bk,remM R'⟩)
 dd:E0 bk ⟨B⟩ px py=some (0,⟨B'⟩)
 out:Outc R A x y R' A' B' new
 lv:((BV B':Nat):Int)=((BV B:Nat):Int)+grow c (gnum bk c a b)
 r':R'=(if c=7 then R++[x] else R++[x] ++[y])
def oM (bk:List Net) (R:List Int) (A B:List Agent) (px py:Int):Prop:=
 ∃e,e≠0∧Ac ⟨⟨A⟩,bk,remM R⟩ ⟨px,py⟩=some (e,⟨⟨A⟩,bk,remM R⟩)∧E0 bk ⟨B⟩ px py=some (e,⟨B⟩)∧∃v,Ad ⟨⟨A⟩,bk,remM R⟩ ⟨px,py⟩=some v∧(v.2.2.2 =0∨v.2.2.2 =e)
theorem stepO_ord (hst:Stt R A B) {px py x y} {a b} (hp:Pr (fun k=>k ∈ R) A x y a b) (ga:agB a=true) (gb:agB b=true) (h2:Two a b) (bk:List Net) (hbk:∀T ∈ bk,Vn T.agents) (hA:A.length≤8000000)
  (hF:Cw ⟨B⟩ px py=some (x,y)) (hr:kcl a b≠8→ru a.kind a.level b.kind b.level≠0∧pcl a b=ru a.kind a.level b.kind b.level)
  (hC:Ad ⟨⟨A⟩,bk,remM R⟩ ⟨px,py⟩=some (if Dj bk (kcl a b) a=0 then (kcl a b,x,y,0) else (0,0,0,Dj bk (kcl a b) a))):
  oM bk R A B px py∨∃c R' A' B' new,OutO bk R A B px py x y a b c R' A' B' new:=by
 have hOk:=hst.ok
 have hv:kcl a b=7→0≤a.value:=fun e=>by
  have h8:kcl a b≠8:=by omega
  obtain⟨h3,h4⟩:=hr h8
  obtain⟨-,-,h5⟩:=NT h8
  have h6:=(Mj a b).2.2.2.2.2.2.2
  grind [IR]
 have hG:=XO hF (hp.bx hOk) (hp.bY hOk) h2 ga gb hv hbk
 have hC':=hC
 have hi:Ac ⟨⟨A⟩,bk,remM R⟩ ⟨px,py⟩=Ac ⟨⟨A⟩,bk,remM R⟩ ⟨px,py⟩:=rfl
 have hd:E0 bk ⟨B⟩ px py=E0 bk ⟨B⟩ px py:=rfl
 conv at hi=>rhs; unfold Ac
 conv at hd=>rhs; unfold E0
 rw [hC,AA] at hi
 rw [hG,AA] at hd
 by_cases he:Dj bk (kcl a b) a=0
 ·rw [if_pos he] at hi hd hC'
  have h8:kcl a b≠8:=fun e=>by rw [e] at he; grind [Dj]
  obtain⟨h3,h4⟩:=hr h8
  obtain⟨n1,n2,h5⟩:=NT h8
  have hl1:BV B≤B.length:=Sd B
  have hl2:=hst.cnt
  have hl3:=hOk.len
  have hgb:=Zi (kcl a b) (gnum bk (kcl a b) a b)
  have hcount:Cu ⟨⟨A⟩,bk,remM R⟩=some ((BV B:Nat):Int):=by
   grind [Cu,remM,w64]
  have hlive:=Zg ⟨B⟩ (by grind)
  simp only at hlive
  simp only [decide_true,Bool.not_true,Bool.false_eq_true,if_false] at hi hd
  rw [hcount,AA,XN hp.hx hp.hy ga gb (remM R) (kcl a b) he,AA,w64 (by omega) (by omega)] at hi
  rw [hlive,AA,w64 (by omega) (by omega)] at hd
  by_cases h6:(600:Int)<((BV B:Nat):Int)+grow (kcl a b) (gnum bk (kcl a b) a b)
  ·rw [if_pos (by simpa using h6)] at hi hd
   exact .inl ⟨4,by omega,hi,hd,_,hC',.inl rfl⟩
  ·have h6':¬ (decide ((600:Int)<((BV B:Nat):Int)+grow (kcl a b) (gnum bk (kcl a b) a b))=true):=by grind
   rw [if_neg h6'] at hi hd
   rw [hF,AA,hp.bx hOk,AA,hp.bY hOk,AA,J7 h2,AA] at hd
   obtain⟨R',A',B',new,r1,r2,r3,r4,r5⟩:=Zh hst hp ga gb h2.rb (kcl a b) (by rw [h5,h4]) (by rw [h5,h4]; exact h3) (fun e1 e2=>by
    have h7:=(Mj a b).2.2.2.2.2.2.1 (by rw [← h4,← h5,e1])
    grind [Db]) hA bk hbk he
   refine .inr ⟨kcl a b,R',A',B',new,hp.hx,hp.hy,ga,gb,h8,by rw [h5,h4],by rw [h5,h4]; exact h3,hF,J7 h2,hC',he,?_,?_,r3,r4,r5⟩
   ·rw [hi,← r1]
    grind
   grind
 ·rw [if_neg he] at hi hd hC'
  simp only at hi hd
  rw [if_pos (by simpa using he)] at hi hd
  exact .inl ⟨_,he,hi,hd,_,hC',.inr rfl⟩
theorem stepO (hst:Stt R A B) {px py} {a b} (hp:Pr (fun k=>k ∈ R) A px py a b) (ga:agB a=true) (gb:agB b=true) (ka:a.kind≠1) (kb:b.kind≠1) (bk:List Net) (hbk:∀T ∈ bk,Vn T.agents) (hA:A.length≤8000000):
  oM bk R A B px py∨∃x y a b c R' A' B' new,OutO bk R A B px py x y a b c R' A' B' new:=by
 have hOk:=hst.ok
 have h2:Two a b:=⟨Lb ga,Lb gb,ka,kb⟩
 obtain⟨sw,hcl,hsw⟩:=Qn (i:=px) (j:=py) hp.hx hp.hy h2
 have hFF:Cw ⟨B⟩ px py=some (if pfi a b=2 then (py,px) else (px,py)):=by
  unfold Cw
  rw [hp.bx hOk,AA,hp.bY hOk,AA,UU h2,AA]
  by_cases e:pfi a b=2 <;> simp [e]
 have hv:∀ {a b:Agent},agB a=true→kcl a b=7→pcl a b=ru a.kind a.level b.kind b.level→0≤a.value:=fun {a b} ga e h4=>by
  obtain⟨-,-,h5⟩:=NT (a:=a) (b:=b) (by omega)
  have h6:=(Mj a b).2.2.2.2.2.2.2
  grind [IR]
 by_cases h22:pfi a b=2
 ·obtain⟨q1,q2,q3⟩:=im h22
  have hk:kcl a b=kcl b a:=XM q3
  rw [if_pos h22] at hFF
  have hp':Pr (fun k=>k ∈ R) A py px b a:=⟨hp.hy,hp.hx,(hOk.m _ _ hp.w hp.sx).2.2,hp.sy,hp.sx⟩
  have hC:Ad ⟨⟨A⟩,bk,remM R⟩ ⟨px,py⟩=some (if Dj bk (kcl b a) b=0 then (kcl b a,py,px,0) else (0,0,0,Dj bk (kcl b a) b)):=by
   unfold Ad
   rw [hcl,AA,hk]
   by_cases h8:kcl a b=8
   ·have h8':kcl b a=8:=hk ▸ h8
    rw [h8']
    have e11:∀z,Dj bk 8 z=11:=fun z=>by rfl
    cases sw with
    |true=>rw [if_pos rfl,IX hp.hy gb hbk (remM R) 8 (by omega) true]
    |false=>rw [if_neg (by simp),IX hp.hx ga hbk (remM R) 8 (by omega) false,e11,e11]; simp
   ·have:=hsw h8
    rw [this,h22]
    simp only [decide_true,if_true]
    exact IX hp.hy gb hbk (remM R) (kcl b a) (fun e=>hv gb e q2) true
  rcases stepO_ord hst hp' gb ga h2.symm bk hbk hA hFF (fun _=>⟨q1,q2⟩) hC with h|⟨c,R',A',B',new,h⟩
  ·grind
  grind
 ·rw [if_neg h22] at hFF
  have hr:kcl a b≠8→ru a.kind a.level b.kind b.level≠0∧pcl a b=ru a.kind a.level b.kind b.level:=fun h8=>by
   grind [UW,ik,il]
  have hC:Ad ⟨⟨A⟩,bk,remM R⟩ ⟨px,py⟩=some (if Dj bk (kcl a b) a=0 then (kcl a b,px,py,0) else (0,0,0,Dj bk (kcl a b) a)):=by
   unfold Ad
   rw [hcl,AA]
   by_cases h8:kcl a b=8
   ·rw [h8]
    have e11:∀z,Dj bk 8 z=11:=fun z=>by rfl
    cases sw with
    |true=>rw [if_pos rfl,IX hp.hy gb hbk (remM R) 8 (by omega) true,e11,e11]; simp
    |false=>rw [if_neg (by simp),IX hp.hx ga hbk (remM R) 8 (by omega) false]
   ·have:=hsw h8
    rw [this]
    simp only [h22,decide_false,Bool.false_eq_true,if_false]
    exact IX hp.hx ga hbk (remM R) (kcl a b) (fun e=>hv ga e (hr h8).2) false
  grind [stepO_ord]
end
theorem Vn.stt {l:List Agent} (h:Vn l):Stt [] l l:=by
 have hk:∀a ∈ l,a.kind≠0:=fun a ha=>by have:=PN (h.mem ha); omega
 refine⟨⟨rfl,fun _ _=>rfl,fun k hk=>by grind,h.m.mono fun p=>by simp,fun p hp=>hp⟩,by rw [QG hk]; rfl,fun a ha=>?_⟩
 have g:=h.mem ha
 exact⟨Mi g,(A9 g).2,hk a ha⟩
def Sj (A:List Agent) (f:Int→Bool) (y:Int):Nat→Nat→List Bool
 |_,0=>[]
 |k,m+1=>decide (ro A f ⟨y,(k:Int)⟩=2)::Sj A f y (k+1) m
theorem XW (A:List Agent) (f:Int→Bool) (y:Int):∀ (m k:Nat),(Sj A f y k m).length =m
 |0,_=>rfl
 |m+1,k=>by rw [Sj,List.length_cons,XW A f y m]
theorem bZ {A:List Agent} {rv:List Bool} (hl:rv.length=A.length) {x y:Int} {b:Agent} (hb:at? A y=some b) (hp:b.ports.length≤4):∀ (m k:Nat) (acc:List Bool) (n:Nat),b.ports.length=k+m→acc.length+m≤100000→m+1≤n→
  Dg n ⟨A⟩ rv (x,y) b acc (k:Int)=some (acc++Sj A (fn rv) y k m,true):=by
 intro m
 induction m with
 |zero=>
  intro k acc n h ha hn
  obtain⟨n,rfl⟩:∃k,n=k+1:=⟨n - 1,by omega⟩
  rw [Dg,if_neg (by grind),Sj,List.append_nil]
 |succ m ih=>
  intro k acc n h ha hn
  obtain⟨n,rfl⟩:∃k,n=k+1:=⟨n - 1,by omega⟩
  obtain⟨q,hq⟩:=Fx (l:=b.ports) (k:=(k:Int)) (by omega) (by omega)
  have hg:get A ⟨y,(k:Int)⟩=some q:=AZ.2 ⟨b,hb,hq⟩
  rw [Dg,if_pos (by grind)]
  simp only [Cq,AA]
  rw [SR hl hg,AA,CQ (by grind),AA,w64 (by omega) (by omega)]
  have:=ih (k+1) (acc++[decide (ro A (fn rv) ⟨y,(k:Int)⟩=2)]) n (by omega) (by grind) (by omega)
  rw [Sj]
  grind
theorem ba {A:List Agent} {N:Nat} (hv:VnN N A) {rv:List Bool} (hl:rv.length=A.length) (hf:Fit A (fn rv)) {bk:List Net} {r:List (Int × Bool)} {y:Int} {b:Agent} (hb:at? A y=some b) (hp:b.ports.length≤4):∀ (m k:Nat) (acc:List Bool) (n:Nat),b.ports.length=k+m→acc.length+m≤100000→m+1≤n→
  Am n ⟨⟨A⟩,bk,r⟩ y rv acc (k:Int)=some (acc++Sj A (fn rv) y k m,0):=by
 intro m
 induction m with
 |zero=>
  intro k acc n h ha hn
  obtain⟨n,rfl⟩:∃k,n=k+1:=⟨n - 1,by omega⟩
  rw [Am]
  simp only
  rw [hb,AA,if_neg (by grind),Sj,List.append_nil]
 |succ m ih=>
  intro k acc n h ha hn
  obtain⟨n,rfl⟩:∃k,n=k+1:=⟨n - 1,by omega⟩
  obtain⟨q,hq⟩:=Fx (l:=b.ports) (k:=(k:Int)) (by omega) (by omega)
  have hg:get A ⟨y,(k:Int)⟩=some q:=AZ.2 ⟨b,hb,hq⟩
  have hr:Bt ⟨A⟩ ⟨y,(k:Int)⟩ rv=some (ro A (fn rv) ⟨y,(k:Int)⟩):=Kv hv hl hg fun c hc e=>hf _ c hc e
  rw [Am]
  simp only
  rw [hb,AA,if_pos (by grind),hr,AA,CQ (by grind),AA,w64 (by omega) (by omega)]
  have:=ih (k+1) (acc++[decide (ro A (fn rv) ⟨y,(k:Int)⟩=2)]) n (by omega) (by grind) (by omega)
  rw [Sj]
  grind
theorem kM {T:List Agent} {N:Nat} (hv:VnN N T):2≤T.length:=by
 have hl:=hv.len
 obtain⟨a,ha⟩:=Fx (l:=T) (k:=0) (by omega) (by omega)
 obtain⟨g1,g2⟩:=hv.ag _ _ ha
 have hp:=(A9 g1).1
 have hk:=(Lc g1).1 (.inl (g2.2 rfl))
 obtain⟨q,hq⟩:=Fx (l:=a.ports) (k:=0) (by omega) (by omega)
 have hg:get T ⟨0,0⟩=some q:=AZ.2 ⟨a,ha,hq⟩
 obtain⟨h1,h2⟩:=EG hv hg
 by_cases e:T.length=1
 ·exfalso
  obtain⟨b,hb,hs⟩:=AZ.1 h1
  have hbb:=Bk hb
  have e0:q.agent=0:=by omega
  rw [e0,ha] at hb
  obtain rfl:=Option.some.inj hb
  have:=Bk hs
  grind
 ·omega
theorem Yt {bk:List Net} {A:List Agent} (hv:Vn A) (hbk:∀T ∈ bk,Vn T.agents) {rv:List Bool} (hl:rv.length=A.length) (hf:Fit A (fn rv)) {px py x y:Int} {a b:Agent} {c:Int} {R':List Int} {A' B':List Agent} {new:List Sh} (O:OutO bk [] A A px py x y a b c R' A' B' new):
  ∃la ok li,Hp bk ⟨A⟩ rv px py=some (la,ok)∧Bh ⟨⟨A⟩,bk,[]⟩ c x y rv=some (li,if ok=true then 0 else 5)∧(ok=true→la.length=new.length∧la=li++List.replicate (new.length - li.length) false∧li.length≤new.length):=by
 have hst:=hv.stt
 have hAl:=hv.len.2
 obtain⟨hcr,k1,k2,k3,k4,k5,k6,k7⟩:=Mj a b
 rw [O.ru] at hcr k1 k2 k3 k4 k5 k6 k7
 have hp4:=A9 O.ga
 have hq4:=A9 O.gb
 have hm:(new.length:Int)=grow c (gnum bk c a b)+(R'.length:Int):=by
  have e1:=LY O.out.shp
  rw [List.length_append,List.length_map] at e1
  have e2:=O.out.st.ok.len
  have e3:=O.out.st.cnt
  have e4:=O.lv
  have e5:=hst.cnt
  grind
 have hR:(R'.length:Int)=if c=7 then 1 else 2:=by
  rw [O.r']; split <;> rfl
 rw [hR] at hm
 have hby:=Bk O.hy
 obtain⟨ry,hry⟩:=Fx (l:=rv) hby.1 (by omega)
 have so:=fun (acc:List Bool) (ha:acc.length+(b.ports.length - 1)≤100000)=>bZ (A:=A) (rv:=rv) hl (x:=x) O.hy hq4.2 (b.ports.length - 1) 1 acc fuel (by omega) ha (FZ (by omega))
 have io:=fun (acc:List Bool) (ha:acc.length+(b.ports.length - 1)≤100000)=>ba (bk:=bk) (r:=[]) hv hl hf O.hy hq4.2 (b.ports.length - 1) 1 acc fuel (by omega) ha (FZ (by omega))
 have ol:=XW A (fn rv) y (b.ports.length - 1) 1
 unfold Hp Bh Bp
 rw [O.fi,AA]
 simp only
 rw [O.hx,AA,O.hy,AA,O.cl,AA]
 have j2:∀l,c≠3→c≠4→CZ ⟨A⟩ rv (x,y) b c l=some (l,true):=fun l h3 h4=>by
  grind [CZ,EO]
 by_cases h3:c=3
 ·subst h3
  simp only [decide_true,if_true]
  simp only [hry,AA]
  rw [CQ (by grind)]
  simp only [AA,List.nil_append]
  unfold CZ EO
  simp only [decide_true,if_true]
  have so':=so [ry,ry] (by grind)
  have io':=io [ry,ry] (by grind)
  simp only [Int.natCast_one] at so' io'
  rw [so',io']
  refine⟨_,_,_,rfl,rfl,fun _=>?_⟩
  have:(new.length:Int)=(b.ports.length:Int) - 1+2:=by
   rw [hm]; grind [grow,gnum]
  refine⟨by grind,?_,by grind⟩
  rw [show new.length - ([ry,ry] ++Sj A (fn rv) y 1 (b.ports.length - 1)).length =0 from by grind]
  simp
 ·by_cases h4:c=4
  ·subst h4
   simp only [show ¬ ((4:Int)=3) from by omega,show ¬ ((4:Int)=5) from by omega,show ¬ ((4:Int)=6) from by omega,show ¬ ((4:Int)=7) from by omega,decide_true,decide_false,Bool.false_eq_true,if_true,if_false]
   unfold CZ EO
   simp only [show ¬ ((4:Int)=3) from by omega,decide_true,decide_false,Bool.false_eq_true,if_true,if_false]
   have so':=so [] (by grind)
   have io':=io [] (by grind)
   simp only [Int.natCast_one,List.nil_append] at so' io'
   rw [so',io']
   refine⟨_,_,_,rfl,rfl,fun _=>?_⟩
   have:(new.length:Int)=(b.ports.length:Int) - 1:=by
    rw [hm]; grind [grow,gnum]
   refine⟨by omega,?_,by omega⟩
   rw [show new.length - (Sj A (fn rv) y 1 (b.ports.length - 1)).length =0 from by rw [ol]; omega]
   simp
  ·by_cases h5:c=5
   ·subst h5
    simp only [show ¬ ((5:Int)=3) from by omega,show ¬ ((5:Int)=4) from by omega,show ¬ ((5:Int)=7) from by omega,decide_true,decide_false,Bool.false_eq_true,if_true,if_false]
    rw [CQ (by grind),AA,j2 _ (by omega) (by omega)]
    refine⟨_,_,_,rfl,rfl,fun _=>?_⟩
    have:new.length=1:=by
     have:(new.length:Int)=1:=by rw [hm]; rfl
     omega
    rw [this]; simp_all
   ·by_cases h6:c=6
    ·subst h6
     simp only [show ¬ ((6:Int)=3) from by omega,show ¬ ((6:Int)=4) from by omega,show ¬ ((6:Int)=5) from by omega,show ¬ ((6:Int)=7) from by omega,decide_true,decide_false,Bool.false_eq_true,if_true,if_false]
     have hF:CR a=some (gnum bk 6 a b):=by
      grind [CR,gnum,w64]
     have hg:0≤gnum bk 6 a b∧gnum bk 6 a b≤3:=by
      simp only [gnum]; simp; split <;> omega
     obtain⟨K,hK⟩:∃K:Nat,gnum bk 6 a b=(K:Int):=⟨(gnum bk 6 a b).toNat,by omega⟩
     have loop:∀ (K:Nat) (acc:List Bool) (n:Nat),K≤10→acc.length+K≤1000→K+2≤n→C7 n ⟨A⟩ rv (x,y) b 6 acc (K:Int)=some (acc++List.replicate (K+1) false,true):=by
      intro K
      induction K with
      |zero=>
       intro acc n _ ha hn
       obtain⟨n,rfl⟩:∃k,n=k+2:=⟨n - 2,by omega⟩
       rw [C7,if_pos (by simp),CQ (by grind),AA,w64 (by omega) (by omega),C7,if_neg (by simp),j2 _ (by omega) (by omega)]
       rfl
      |succ K ih=>
       intro acc n h ha hn
       obtain⟨n,rfl⟩:∃k,n=k+1:=⟨n - 1,by omega⟩
       rw [C7,if_pos (by rfl),CQ (by grind),AA,w64 (by omega) (by omega),show ((K+1:Nat):Int) - 1=(K:Int) from by omega,ih _ n (by omega) (by grind) (by omega),List.append_assoc]
       rfl
     rw [hF,AA,hK,loop K [] fuel (by omega) (by grind) (FZ (by omega))]
     refine⟨_,_,_,rfl,rfl,fun _=>?_⟩
     have:new.length=K+1:=by
      have:(new.length:Int)=(K:Int)+1:=by
       rw [hm]
       have:grow 6 (gnum bk 6 a b)=(K:Int) - 1:=by rw [hK]; grind [grow]
       rw [this]; omega
      omega
     rw [this]; grind
    ·by_cases h7:c=7
     ·subst h7
      have hec:=O.ec
      unfold Dj at hec
      simp only [show ¬ ((7:Int)=8) from by omega,if_false,if_true] at hec
      cases hT:at? bk a.value with
      |none=>rw [hT] at hec; grind
      | some T=>
       have hmT:T ∈ bk:=List.mem_of_getElem? (BW hT).2
       have hVT:=hbk T hmT
       have h2:=kM hVT
       have hTl:=hVT.len.2
       obtain⟨rs,ri,ok,s1,s2,s3,s4⟩:=W7 hVT (by omega)
       have s1':Fo T=some (rs,ok):=s1
       have s2':E4 T=some (ri,ok):=s2
       have hcut:∀r:List Bool,r.length=T.agents.length→cutL r 1 (r.length:Int)=some (r.drop 1):=fun r hr=>by
        rw [cutL,if_pos ⟨by decide,by omega,by omega⟩]
        congr 1
        simp
        rw [List.take_of_length_le (by simp)]
       simp only [show ¬ ((7:Int)=3) from by omega,show ¬ ((7:Int)=4) from by omega,show ¬ ((7:Int)=5) from by omega,show ¬ ((7:Int)=6) from by omega,decide_true,decide_false,Bool.false_eq_true,if_true,if_false]
       rw [AA,s1',AA]
       simp only
       rw [hcut rs s3,AA,AA,hT,AA,s2',AA]
       simp only
       cases ok with
       |false=>grind
       | true=>
        have e:=s4 rfl
        subst e
        rw [if_neg (by simp),hcut ri s3,AA]
        refine⟨_,true,_,rfl,rfl,fun _=>?_⟩
        have:(new.length:Int)=(T.agents.length:Int) - 1:=by
         rw [hm]
         grind [grow,gnum]
        refine⟨by grind,?_,by grind⟩
        rw [show new.length - (ri.drop 1).length =0 from by grind]
        simp
     ·have h12:c=1∨c=2:=by have:=O.r0; omega
      have n3:decide (c=3)=false:=by grind
      have n4:decide (c=4)=false:=by grind
      have n5:decide (c=5)=false:=by grind
      have n6:decide (c=6)=false:=by grind
      have n7:decide (c=7)=false:=by grind
      rw [n3,n4,n5,n6,n7]
      simp only [Bool.false_eq_true,if_false]
      rw [j2 _ h3 h4]
      refine⟨_,_,_,rfl,rfl,fun _=>?_⟩
      have:new.length=0:=by
       have:(new.length:Int)=0:=by
        rw [hm]
        rcases h12 with e|e <;> simp [grow,gnum,e]
       omega
      rw [this]; grind
theorem PR:∀l:List Agent,szl (fun a=>a.ports.length) l≤szl Agent.sz l
 | [] =>by simp [szl]
 |a::l=>by
  have:=PR l
  grind [szl,Agent.sz]
theorem Net.small_of (n:Net) (h:n.sz≤Big):n.Small:=by
 unfold Net.sz at h
 refine⟨by grind [PR],fun a ha=>?_⟩
 grind [H4,Agent.sz]
def Ns (R:List Int):Nat→List Bool→List Bool
 |_,[] =>[]
 |k,r::l=>(if (k:Int) ∈ R then [] else [r])++Ns R (k+1) l
theorem UX (R:List Int):∀ (l:List Bool) (k:Nat),(Ns R k l).length ≤l.length
 | [],_=>by simp [Ns]
 |r::l,k=>by
  have:=UX R l (k+1)
  rw [Ns,List.length_append,List.length_cons]; split <;> simp <;> omega
theorem oN {B':List Agent} {R':List Int} {rv:List Bool} {v:List Bool × Bool} {c:Int} (hB:∀k:Nat,k<rv.length→∃b,at? B' (k:Int)=some b∧(b.kind=0↔(k:Int) ∈ R')) (hl:rv.length≤1000) (hv:v.1.length ≤100000):
  ∀ (post pre:List Bool) (acc:List Bool) (n:Nat),rv=pre++post→acc.length≤pre.length→post.length+1≤n→
  BL n rv (c,⟨B'⟩) v acc (pre.length:Int)=some (acc++Ns R' pre.length post++v.1,0):=by
 intro post
 induction post with
 |nil=>
  intro pre acc n h ha hn
  obtain⟨n,rfl⟩:∃k,n=k+1:=⟨n - 1,by omega⟩
  have:pre.length≤rv.length:=by rw [h]; simp
  rw [BL,DL h,if_neg (by simp),CQ (by grind),AA,Ns,List.append_nil]
 | cons r post ih=>
  intro pre acc n h ha hn
  rw [List.length_cons] at hn
  obtain⟨n,rfl⟩:∃k,n=k+1:=⟨n - 1,by omega⟩
  have hlt:pre.length<rv.length:=by rw [h]; simp
  obtain⟨b,hb,hk⟩:=hB pre.length hlt
  rw [BL,if_pos (CP h)]
  simp only
  rw [hb,AA,Ns]
  have next:=fun acc' (ha':acc'.length≤pre.length+1)=>ih (pre++[r]) acc' n (by rw [h]; simp) (by grind) (by omega)
  rw [List.length_append,List.length_singleton] at next
  by_cases h0:b.kind=0
  ·rw [if_neg (by grind),Ay h (by grind),if_pos (hk.1 h0),List.nil_append]
   grind [List.length_singleton]
  ·rw [if_pos (by grind),BH h,AA,CQ (by grind),AA,Ay h (by grind),if_neg (fun e=>h0 (hk.2 e))]
   simp_all
theorem oO {w7:Rewriter} {A':List Agent} {bk:List Net} {R':List Int} {rv la li:List Bool} {c c2:Int} (hA:A'.length=rv.length+la.length) (hR:∀k:Nat,rv.length≤k→(k:Int) ∉ R') (hl:rv.length≤1000) (hla:la.length≤1000) (hli:la=li++List.replicate (la.length - li.length) false):
  ∀ (m j:Nat) (acc:List Bool) (n:Nat),la.length=j+m→acc.length≤rv.length+j→m+1≤n→
  Aj n rv w7 (c,⟨⟨A'⟩,bk,remM R'⟩) (li,c2) acc ((rv.length+j:Nat):Int)=some (acc++la.drop j,0):=by
 intro m
 induction m with
 |zero=>
  intro j acc n h ha hn
  obtain⟨n,rfl⟩:∃k,n=k+1:=⟨n - 1,by omega⟩
  rw [Aj]
  simp only
  rw [if_neg (by grind),List.drop_of_length_le (by omega),List.append_nil]
 | succ m ih=>
  intro j acc n h ha hn
  obtain⟨n,rfl⟩:∃k,n=k+1:=⟨n - 1,by omega⟩
  have hw:IntKind.i64.wrap (((rv.length+j:Nat):Int)+1)=((rv.length+(j+1):Nat):Int):=by rw [w64 (by omega) (by omega)]; omega
  have hw2:IntKind.i64.wrap (((rv.length+j:Nat):Int) - (rv.length:Int))=(j:Int):=by rw [w64 (by omega) (by omega)]; omega
  have hlj:j<la.length:=by omega
  obtain⟨e,hj?,he⟩:∃e,la[j]? =some e∧la[j] =e:=⟨_,List.getElem?_eq_getElem hlj,rfl⟩
  have hd:la.drop j=e::la.drop (j+1):=by rw [← he]; simp
  rw [Aj]
  simp only
  rw [if_pos (by grind),Kw,if_neg (by simpa using hR (rv.length+j) (by omega)),if_neg (by grind),hw2,hw,hd]
  have next:=fun x=>ih (j+1) (acc++[x]) n (by omega) (by grind) (by omega)
  by_cases hjl:j<li.length
  ·have hx:at? li (j:Int)=some e:=by
    rw [hli,List.getElem?_append_left hjl] at hj?
    exact Ie hj?
   rw [if_pos (by grind),hx,AA,CQ (by grind),AA,next]
   simp
  grind [CQ]
theorem oP {w7:Rewriter} {A':List Agent} {bk:List Net} {R':List Int} {rv la li:List Bool} {c c2:Int} (hA:A'.length=rv.length+la.length) (hR:∀k:Nat,rv.length≤k→(k:Int) ∉ R') (hl:rv.length≤1000) (hla:la.length≤1000) (hli:la=li++List.replicate (la.length - li.length) false):
  ∀ (post pre:List Bool) (acc:List Bool) (n:Nat),rv=pre++post→acc.length≤pre.length→post.length+la.length+1≤n→
  Aj n rv w7 (c,⟨⟨A'⟩,bk,remM R'⟩) (li,c2) acc (pre.length:Int)=some (acc++Ns R' pre.length post++la,0):=by
 intro post
 induction post with
 |nil=>
  intro pre acc n h ha hn
  rw [List.append_nil] at h
  subst h
  have:=oO (w7:=w7) (bk:=bk) (c:=c) (c2:=c2) hA hR hl hla hli la.length 0 acc n (by omega) (by omega) (by omega)
  rw [Nat.add_zero] at this
  rw [this,Ns,List.append_nil]; rfl
 | cons r post ih=>
  intro pre acc n h ha hn
  rw [List.length_cons] at hn
  obtain⟨n,rfl⟩:∃k,n=k+1:=⟨n - 1,by omega⟩
  have hlt:pre.length<rv.length:=by rw [h]; simp
  rw [Aj]
  simp only
  rw [if_pos (by grind),Kw,Ns]
  have next:=fun acc' (ha':acc'.length≤pre.length+1)=>ih (pre++[r]) acc' n (by rw [h]; simp) (by grind) (by omega)
  rw [List.length_append,List.length_singleton] at next
  by_cases h0:(pre.length:Int) ∈ R'
  ·rw [if_pos (by grind),Ay h (by grind),if_pos h0,List.nil_append]
   grind [List.length_singleton]
  ·rw [if_neg (by grind),if_pos (by grind),BH h,AA,CQ (by grind),AA,Ay h (by grind),if_neg h0]
   grind [List.length_singleton]
theorem NZ (l:List Net) (n:Net) (rv:List Bool) (i:Int) (hl:szl Net.sz l≤1048576) (hn:n.sz≤1048576) (hz:rv.length≤1048576):∃r,Ed l n rv i=some r∧Dp l n rv i=some r∧r.1.length ≤Big:=by
 have hs:∀T ∈ l,T.Small:=fun T hT=>Net.small_of T (by grind [H4])
 have hll:l.length≤Big:=by grind [Gb]
 have hns:n.Small:=Net.small_of n (by grind)
 have bad:∃r,B7 l n rv i true=some r∧Cg l n rv i true=some r∧r.1.length ≤Big:=⟨([],1),by rfl,by rfl,by simp⟩
 unfold Ed Dp
 rw [bW l hll hs,bV l hll hs,AA,AA]
 cases hT:OU l with
 |false=>rw [if_pos (show (!false)=true from rfl),if_pos (show (!false)=true from rfl)]; omega
 | true =>
  rw [if_neg (by simp),if_neg (by simp)]
  have hbk:=bX hT
  unfold Ip
  rw [U4 n hns,U7 n hns,AA,AA]
  cases hva:n.valid with
  |false=>grind
  | true =>
   have hV:=Net.valid_vn hva
   have hVl:=hV.len
   have so:NJ n rv=some (PI n.agents rv):=j8 hV (by omega) rv
   have io:C0 n rv=some (PI n.agents rv):=PK hV (by omega) rv
   simp only [Bool.not_true,Bool.false_eq_true,if_false,if_true]
   rw [so,io]
   simp only [AA]
   cases hgd:PI n.agents rv with
   |false=>grind
   | true=>
    obtain⟨hrl,hG⟩:=(NO hV).1 hgd
    unfold B7 Cg
    simp only [Bool.not_true,Bool.false_eq_true,if_false]
    obtain⟨p,e1,e2,e3⟩:=bU n hns i
    rw [e1,e2,AA,AA]
    by_cases hp:p.2 =0
    ·rw [if_neg (by grind),if_neg (by grind)]
     obtain⟨hv,hm⟩:=e3 hp
     rw [ed n hns.agents.1 hns.agents.2,ee l n hns.agents.1 hns.agents.2,AA,AA]
     obtain⟨a,b,hP,ga,gb,ka,kb⟩:=kL hV hm
     have hst:=hV.stt
     rcases stepO hst hP ga gb ka kb l hbk (by omega) with ⟨e,h1,h2,h3,v,h4,h5⟩|⟨x,y,a,b,c,R',A',B',new,O⟩
     ·have h2':Ac ⟨n,l,[]⟩ p.1 =some (e,⟨n,l,[]⟩):=h2
      have h3':E0 l n p.1.a p.1.b =some (e,n):=h3
      have h4':Ad ⟨n,l,[]⟩ p.1 =some v:=h4
      rw [h3',h4',AA,AA,if_pos (by grind)]
      grind
     ·have h2':Ac ⟨n,l,[]⟩ p.1 =some (0,⟨⟨A'⟩,l,remM R'⟩):=O.int
      have h3':E0 l n p.1.a p.1.b =some (0,⟨B'⟩):=O.dd
      have h4':Ad ⟨n,l,[]⟩ p.1 =some (c,x,y,0):=O.ck
      obtain⟨la,ok,li,q1,q2,q3⟩:=Yt hV hbk hrl hG.1 O
      have q1':Hp l n rv p.1.a p.1.b =some (la,ok):=q1
      have q2':Bh ⟨n,l,[]⟩ c x y rv=some (li,if ok=true then 0 else 5):=q2
      rw [h3',h4',AA,AA,if_neg (by simp),if_neg (by simp),AA,h2',AA,if_neg (by simp),q1',q2',AA,AA]
      cases ok with
      |false=>grind
      | true=>
       obtain⟨l1,l2,l3⟩:=q3 rfl
       have hOk:=O.out.st.ok
       have hlen:=LY O.out.shp
       rw [List.length_append,List.length_map] at hlen
       have hnl:=O.out.nl
       have hbx:=Bk O.hx
       have hby:=Bk O.hy
       have hRm:∀k,k ∈ R'→k=x∨k=y:=fun k hk=>by
        rcases (O.out.mem k).1 hk with h|h|h
        ·cases h
        ·omega
        omega
       have hR:∀k:Nat,rv.length≤k→(k:Int) ∉ R':=fun k hk hm=>by
        rcases hRm _ hm with h|h <;> omega
       have hB:∀k:Nat,k<rv.length→∃b,at? B' (k:Int)=some b∧(b.kind=0↔(k:Int) ∈ R'):=fun k hk=>by
        by_cases hm:(k:Int) ∈ R'
        ·exact⟨_,hOk.hl _ hm,by simp [hm]; rfl⟩
        ·obtain⟨b,hb⟩:=Fx (l:=A') (k:=(k:Int)) (by omega) (by omega)
         refine⟨b,by rw [← hOk.ag _ hm]; exact hb,⟨fun h=>absurd h (O.out.st.nb b (List.mem_of_getElem? (BW hb).2)).2.2,fun h=>absurd h hm⟩⟩
       rw [← l1] at l2
       rw [if_neg (by simp),if_neg (by simp)]
       have hS:=oN (B':=B') (R':=R') (v:=(la,true)) (c:=0) hB (by omega) (by grind) rv [] [] fuel rfl (by simp) (FZ (by omega))
       have hI:=oP (w7:=⟨n,l,[]⟩) (A':=A') (bk:=l) (R':=R') (c:=0) (c2:=0) (by omega) hR (by omega) (by omega) l2 rv [] [] fuel rfl (by simp) (FZ (by omega))
       grind [UX]
    grind
theorem Zl {α:Type} {f:α→List D} {l:List α} (h:JQ (slD f l)):l.length≤9223372036854775807∧∀e ∈ l,JQ (f e):=by
 simp only [slD,JQ,D.ok,List.length_map,and_true] at h
 exact⟨h.1,fun e he=>MU h.2 he⟩
theorem iI {n:Nat} {K:Option Bool} (h:n≤1048576→K=some true):(if (decide ((1048576:Int)<((n:Nat):Int)))=true then some true else K)=some true:=by
 by_cases h1:n≤1048576
 ·rw [decide_eq_false (by omega),if_neg (by simp)]; exact h h1
 ·rw [decide_eq_true (by omega),if_pos rfl]
theorem MW (a0:List Net) (h0:JQ ((slD Net.ds a0))) (a1:Net) (h1:JQ (Net.ds a1)) (a2:List Bool) (h2:JQ ((slD AO a2))) (a3:Int) (w3:(Lit.int IntKind.i64 a3).wf =true):DO a0 a1 a2 a3=some true:=by
 unfold DO
 refine iI (n:=a2.length) fun z2=>?_
 refine dt (bQ a0 (Zl h0).1 (fun e he=>Net.ok_of e ((Zl h0).2 e he)) (1048576) (by omega)) fun z0=>?_
 refine dt (XS a1 (Net.ok_of a1 h1) (1048576 - szl Net.sz a0) (by omega)) fun z1=>?_
 have b0:szl Net.sz a0≤Big:=by unfold Big; omega
 have b1:a1.sz≤Big:=by unfold Big; omega
 have b2:a2.length≤Big:=by unfold Big; omega
 obtain⟨r,hs,hi,hr⟩:=NZ a0 a1 a2 a3 (by omega) (by omega) (by omega)
 have ft0:HM a0=some a0:=bR a0 b0
 have fe0:Kn a0 a0=some true:=(VL a0 a0 b0).true rfl
 have ft1:HN a1=some a1:=XT a1 b1
 have fe1:J4 a1 a1=some true:=(Qp a1 a1 b1).true rfl
 have ft2:F6 a2=some a2:=Ys a2 b2
 have fe2:FV a2 a2=some true:=(Nr a2 a2 b2).true rfl
 have br0:=hr
 have ge0:FV r.1 r.1 =some true:=(Nr r.1 r.1 br0).true rfl
 have fm0:Hs a0 1=some (((1+cnts Net.cnt a0:Nat):Int),mks Net.mk1 Net.cnt (1) a0):=XU a0 (1) b0 (by have:=NU (c:=Net.cnt) (s:=Net.sz) (l:=a0) (fun x=>Net.cnt_le x); have:=b0; unfold Big KB at*; omega)
 have fm1:I7 a1 ((1+cnts Net.cnt a0:Nat):Int)=some (((1+cnts Net.cnt a0+a1.cntV:Nat):Int),(Net.mkV (1+cnts Net.cnt a0) a1).agents):=Yr a1 (1+cnts Net.cnt a0) b1 (by have:=NU (c:=Net.cnt) (s:=Net.sz) (l:=a0) (fun x=>Net.cnt_le x); have:=b0; have:=Net.cntV_le a1; have:=b1; unfold Big KB at*; omega)
 have fm2:Eo a2 ((1+cnts Net.cnt a0+a1.cntV:Nat):Int)=some (((1+cnts Net.cnt a0+a1.cntV+cnts one a2:Nat):Int),mks mkBo one (1+cnts Net.cnt a0+a1.cntV) a2):=PQ a2 (1+cnts Net.cnt a0+a1.cntV) b2 (by have:=NU (c:=Net.cnt) (s:=Net.sz) (l:=a0) (fun x=>Net.cnt_le x); have:=b0; have:=Net.cntV_le a1; have:=b1; have:=Gz (c:=one) (b:=1) (l:=a2) (fun x=>Sg); have:=b2; unfold Big KB at*; omega)
 have gm0:Eo r.1 1=some (((1+cnts one r.1 :Nat):Int),mks mkBo one (1) r.1):=PQ r.1 (1) br0 (by have:=Gz (c:=one) (b:=1) (l:=r.1) (fun x=>Sg); have:=br0; unfold Big KB at*; omega)
 have gh0:Fp (mks mkBo one (1) r.1) 1=some (((1+cnts one r.1 :Nat):Int)):=VM r.1 (1) br0 (by have:=Gz (c:=one) (b:=1) (l:=r.1) (fun x=>Sg); have:=br0; unfold Big KB at*; omega)
 simp only [AA,hs,hi,ft0,fe0,ft1,fe1,ft2,fe2,ge0,fm0,fm1,fm2,gm0,gh0,Bu,BU,Bv,U0,beq_self_eq_true,rR,eq_self,decide_true,decide_false,Bool.not_true,Bool.not_false,Bool.false_eq_true,reduceIte]
end Go.Proofs.YteckcjgpnegkjaaGreat.Ab
