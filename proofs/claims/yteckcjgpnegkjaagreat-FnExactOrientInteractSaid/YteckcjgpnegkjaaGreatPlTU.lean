/-
  Results that are marked and found marked again: the loops, each once. No program is in sight.
-/
import Derived.Test.YteckcjgpnegkjaaGreatPlNet
import Derived.Test.YteckcjgpnegkjaaGreatModU
import Derived.Test.YteckcjgpnegkjaaGreatAbZ
import Derived.Test.YteckcjgpnegkjaaGreatModO
namespace Go.Proofs.YteckcjgpnegkjaaGreat.Ab
set_option linter.unusedVariables false
set_option linter.unusedSimpArgs false
open Go.RowKit
section
variable {α:Type} {pre post:List α} {x y:α}
theorem IW:at? (pre++x::post) (pre.length:Int)=some x:=BH rfl
theorem Sf:decide ((pre.length:Int)<((List.length (pre++x::post):Nat):Int))=true:=CP rfl
theorem PO:Bm (pre++x::post) (pre.length:Int) y=some (pre++y::post):=by
 unfold Bm SO
 simp
theorem Ml (h:pre.length<Big):IntKind.i64.wrap ((pre.length:Int)+1)=((List.length pre+1:Nat):Int):=by
 unfold Big at h
 rw [w64 (by omega) (by omega)]
 omega
end
abbrev KB:Nat:=4611686018427387904
theorem wk {k} (h:k+1≤KB):IntKind.i64.wrap ((k:Int)+1)=((k+1:Nat):Int):=by
 unfold KB at h
 rw [w64 (by omega) (by omega)]
 omega
theorem rR {k}:decide (((k:Nat):Int)<0)=false:=by simp
def cnts {α:Type} (c:α→Nat):List α→Nat
 | [] =>0
 |x::l=>c x+cnts c l
def mks {α:Type} (mk:Nat→α→α) (c:α→Nat):Nat→List α→List α
 |_,[] =>[]
 |k,x::l=>mk k x::mks mk c (k+c x) l
theorem NU {α:Type} {c s:α→Nat} {b:Nat}:∀ {l:List α},(∀x,c x≤b+b*s x)→cnts c l≤b*szl s l
 | [],_=>by simp [cnts]
 |x::l,h=>by
  rw [cnts,szl,Nat.mul_add,Nat.mul_add]
  have:=h x
  have:=NU (l:=l) h
  omega
theorem Gz {α:Type} {c:α→Nat} {b:Nat}:∀ {l:List α},(∀x,c x≤b)→cnts c l≤b*l.length
 | [],_=>by simp [cnts]
 |x::l,h=>by
  rw [cnts,List.length_cons,Nat.mul_add]
  have:=h x
  have:=Gz (l:=l) h
  omega
def one {α:Type}:α→Nat:=fun _=>1
def mkI:Nat→Int→Int:=fun k _=>(k:Int)
theorem Sg {α:Type} {x:α}:one x≤1:=Nat.le_refl 1
theorem XP {α:Type} (L:Nat→List α→Int→Int→Option (Int × List α)) (mk:Nat→α→α) (c:α→Nat) (P:α→Prop)
  (hL:∀n (pre post:List α) x (k:Nat),P x→k+c x≤KB→pre.length<Big→L (n+1) (pre++x::post) (k:Int) (pre.length:Int)=L n (pre++mk k x::post) ((k+c x:Nat):Int) ((List.length pre+1:Nat):Int))
  (hN:∀n (l:List α) (k:Int),L (n+1) l k (l.length:Int)=some (k,l))
  (l:List α) (k:Nat) (hP:∀x ∈ l,P x) (hl:l.length≤Big) (hk:k+cnts c l≤KB):L fuel l (k:Int) 0=some (((k+cnts c l:Nat):Int),mks mk c k l):=by
 have loop:∀ (post pre:List α) (n k:Nat),(∀x ∈ post,P x)→pre.length+post.length≤Big→k+cnts c post≤KB→post.length<n→L n (pre++post) (k:Int) (pre.length:Int)=some (((k+cnts c post:Nat):Int),pre++mks mk c k post):=by
  intro post
  induction post with
  |nil=>
   intro pre n k _ _ _ hn
   obtain⟨n,rfl⟩:∃m,n=m+1:=⟨n - 1,by omega⟩
   rw [List.append_nil,hN,cnts,mks,List.append_nil]; rfl
  |cons x post ih=>
   intro pre n k hp hb hk hn
   obtain⟨n,rfl⟩:∃m,n=m+1:=⟨n - 1,by omega⟩
   rw [List.length_cons] at hb hn
   rw [cnts] at hk
   rw [hL n pre post x k (hp x (List.mem_cons_self ..)) (by omega) (by omega),cnts,mks]
   have:=ih (pre++[mk k x]) n (k+c x) (fun y hy=>hp y (List.mem_cons_of_mem _ hy)) (by rw [List.length_append]; simp; omega) (by omega) (by omega)
   rw [List.append_assoc,List.append_assoc,List.length_append] at this
   simp only [List.cons_append,List.nil_append,List.length_cons,List.length_nil,Nat.zero_add] at this
   rw [this,Nat.add_assoc]
 exact loop l [] fuel k hP (by simpa using hl) hk (by rw [BG]; unfold Big at hl; omega)
theorem oL {α:Type} (L:Nat→List α→Int→Int→Option Int) (mk:Nat→α→α) (c:α→Nat) (P:α→Prop)
  (hL:∀n (pre post:List α) x (k:Nat),P x→k+c x≤KB→pre.length<Big→L (n+1) (pre++mk k x::post) (k:Int) (pre.length:Int)=L n (pre++mk k x::post) ((k+c x:Nat):Int) ((List.length pre+1:Nat):Int))
  (hN:∀n (l:List α) (k:Int),L (n+1) l k (l.length:Int)=some k)
  (l:List α) (k:Nat) (hP:∀x ∈ l,P x) (hl:l.length≤Big) (hk:k+cnts c l≤KB):L fuel (mks mk c k l) (k:Int) 0=some ((k+cnts c l:Nat):Int):=by
 have loop:∀ (post pre:List α) (n k:Nat),(∀x ∈ post,P x)→pre.length+post.length≤Big→k+cnts c post≤KB→post.length<n→L n (pre++mks mk c k post) (k:Int) (pre.length:Int)=some ((k+cnts c post:Nat):Int):=by
  intro post
  induction post with
  |nil=>
   intro pre n k _ _ _ hn
   obtain⟨n,rfl⟩:∃m,n=m+1:=⟨n - 1,by omega⟩
   rw [mks,List.append_nil,hN,cnts]; rfl
  |cons x post ih=>
   intro pre n k hp hb hk hn
   obtain⟨n,rfl⟩:∃m,n=m+1:=⟨n - 1,by omega⟩
   rw [List.length_cons] at hb hn
   rw [cnts] at hk
   rw [mks,hL n pre _ x k (hp x (List.mem_cons_self ..)) (by omega) (by omega),cnts]
   have:=ih (pre++[mk k x]) n (k+c x) (fun y hy=>hp y (List.mem_cons_of_mem _ hy)) (by rw [List.length_append]; simp; omega) (by omega) (by omega)
   rw [List.append_assoc,List.length_append] at this
   simp only [List.cons_append,List.nil_append,List.length_cons,List.length_nil,Nat.zero_add] at this
   rw [this,Nat.add_assoc]
 exact loop l [] fuel k hP (by simpa using hl) hk (by rw [BG]; unfold Big at hl; omega)
set_option maxHeartbeats 1000000
structure Port.Ok (x:Port):Prop where
 agent:(Lit.int IntKind.i64 x.agent).wf =true
 slot:(Lit.int IntKind.i64 x.slot).wf =true
theorem Port.ok_of (x:Port) (h:JQ (Port.ds x)):x.Ok:=by
 rw [Port.ds_eq] at h
 simp only [JQ,D.ok,List.length_map] at h
 obtain⟨h1,h2,-⟩:=h
 exact⟨h1,h2⟩
theorem Port.eq_iff (x y:Port):x=y↔x.agent=y.agent∧x.slot=y.slot:=by
 cases x; cases y; grind
theorem Yn (l:List Port) (hl:l.length≤9223372036854775807) (h:∀x ∈ l,x.Ok) (left:Nat) (h1:left≤1048576):Ko l left=some (szr l.length left):=by
 unfold Ko
 exact ZX h1 hl fun _=>YU
theorem bP (x:Port):Me x=some x:=by
 rfl
theorem Yo (l:List Port) (hl:l.length≤Big):Kp l=some l:=by
 unfold Kp
 exact gTo (fun n acc i=>E6 n l acc i) Me _ l (fun n acc i=>by rw [E6]) hl (fun x hx=>bP x)
theorem VK (x y:Port):Dx (Kq x y) (x=y):=by
 unfold Kq
 exact Dx.iff (Ht NL fun _=>Ht NL fun _=>OP) (by rw [Port.eq_iff]; grind)
theorem TM (l m:List Port) (hl:l.length≤Big):Dx (Kr l m) (l=m):=by
 unfold Kr
 exact dr (fun n i=>E7 n l m i) Kq l m (fun n i=>by rw [E7]) hl fun x hx y _=>VK x y
structure Agent.Ok (x:Agent):Prop where
 kind:(Lit.int IntKind.i64 x.kind).wf =true
 level:(Lit.int IntKind.i64 x.level).wf =true
 value:(Lit.int IntKind.i64 x.value).wf =true
 data:(x.data.length≤9223372036854775807∧∀e ∈ x.data,(Lit.int IntKind.i64 e).wf =true)
 ports:(x.ports.length≤9223372036854775807∧∀e ∈ x.ports,Port.Ok e)
theorem Agent.ok_of (x:Agent) (h:JQ (Agent.ds x)):x.Ok:=by
 rw [Agent.ds_eq] at h
 simp only [JQ,D.ok,List.length_map] at h
 obtain⟨h1,h2,h3,h4,h5,-⟩:=h
 exact⟨h1,h2,h3,⟨h4.1,fun e he=>by grind [MU,Ar,JQ,D.ok]⟩,⟨h5.1,fun e he=>Port.ok_of e (MU h5.2 he)⟩⟩
theorem Agent.eq_iff (x y:Agent):x=y↔x.kind=y.kind∧x.level=y.level∧x.value=y.value∧x.data=y.data∧x.ports=y.ports:=by
 cases x; cases y; grind
def Agent.sz (x:Agent):Nat:=x.data.length+(x.ports.length+0)
theorem Yp (x:Agent) (h:x.Ok) (left:Nat) (h1:left≤1048576):I8 x left=some (szr x.sz left):=by
 unfold I8 Agent.sz
 exact RK (Wq _ _ (by omega) h.data.1) fun _=>RK (Yn _ h.ports.1 h.ports.2 _ (by omega)) fun _=>YU
theorem XQ (l:List Agent) (hl:l.length≤9223372036854775807) (h:∀x ∈ l,x.Ok) (left:Nat) (h1:left≤1048576):JY l left=some (szr (szl Agent.sz l) left):=by
 unfold JY
 exact gSz (fun n p i=>EQ n l p i) I8 Agent.sz l (fun n p i=>by rw [EQ]) left h1 (fun x hx k hk=>Yp x (h x hx) k hk) hl
theorem Yq (x:Agent) (h:x.sz≤Big):I9 x=some x:=by
 unfold I9
 rw [Wr _ (by grind [Agent.sz]),AA]
 rw [Yo _ (by grind [Agent.sz]),AA]
 first|done|rfl
theorem XR (l:List Agent) (hl:szl Agent.sz l≤Big):JZ l=some l:=by
 unfold JZ
 exact gTo (fun n acc i=>ER n l acc i) I9 _ l (fun n acc i=>by rw [ER]) (by grind [Gb]) (fun x hx=>Yq x (by grind [H4]))
theorem TN (x y:Agent) (h:x.sz≤Big):Dx (JA x y) (x=y):=by
 unfold JA
 exact Dx.iff (Ht NL fun _=>Ht NL fun _=>Ht NL fun _=>HR (SQ _ _ (by grind [Agent.sz])) fun _=>HR (TM _ _ (by grind [Agent.sz])) fun _=>OP) (by rw [Agent.eq_iff]; grind)
theorem Si (l m:List Agent) (hl:szl Agent.sz l≤Big):Dx (Ja l m) (l=m):=by
 unfold Ja
 exact dr (fun n i=>ES n l m i) JA l m (fun n i=>by rw [ES]) (by grind [Gb]) fun x hx y _=>TN x y (by grind [H4])
structure Net.Ok (x:Net):Prop where
 agents:(x.agents.length≤9223372036854775807∧∀e ∈ x.agents,Agent.Ok e)
theorem Net.ok_of (x:Net) (h:JQ (Net.ds x)):x.Ok:=by
 rw [Net.ds_eq] at h
 simp only [JQ,D.ok,List.length_map] at h
 obtain⟨h1,-⟩:=h
 exact⟨⟨h1.1,fun e he=>Agent.ok_of e (MU h1.2 he)⟩⟩
theorem Net.eq_iff (x y:Net):x=y↔x.agents=y.agents:=by
 cases x; cases y; grind
def Net.sz (x:Net):Nat:=szl Agent.sz x.agents+0
theorem XS (x:Net) (h:x.Ok) (left:Nat) (h1:left≤1048576):LT x left=some (szr x.sz left):=by
 unfold LT Net.sz
 exact RK (XQ _ h.agents.1 h.agents.2 _ (by omega)) fun _=>YU
theorem bQ (l:List Net) (hl:l.length≤9223372036854775807) (h:∀x ∈ l,x.Ok) (left:Nat) (h1:left≤1048576):Md l left=some (szr (szl Net.sz l) left):=by
 unfold Md
 exact gSz (fun n p i=>Fq n l p i) LT Net.sz l (fun n p i=>by rw [Fq]) left h1 (fun x hx k hk=>XS x (h x hx) k hk) hl
theorem XT (x:Net) (h:x.sz≤Big):HN x=some x:=by
 simp_all [HN,XR,Net.sz]
theorem bR (l:List Net) (hl:szl Net.sz l≤Big):HM l=some l:=by
 unfold HM
 exact gTo (fun n acc i=>Fs n l acc i) HN _ l (fun n acc i=>by rw [Fs]) (by grind [Gb]) (fun x hx=>XT x (by grind [H4]))
theorem Qp (x y:Net) (h:x.sz≤Big):Dx (J4 x y) (x=y):=by
 grind [J4,HR,Si,Net.sz,OP,Net.eq_iff]
theorem VL (l m:List Net) (hl:szl Net.sz l≤Big):Dx (Kn l m) (l=m):=by
 unfold Kn
 exact dr (fun n i=>Ft n l m i) J4 l m (fun n i=>by rw [Ft]) (by grind [Gb]) fun x hx y _=>Qp x y (by grind [H4])
theorem KH (l:List Int) (k:Nat) (h:l.length≤Big) (hk:k+cnts one l≤KB):HA l (k:Int)=some (((k+cnts one l:Nat):Int),mks mkI one k l):=by
 unfold HA
 refine XP (fun n l k i=>Ch n l k i) mkI one (fun _=>True) ?_ ?_ l k (fun _ _=>trivial) h hk
 ·intro n pre post x k hx hk hp
  have e:k+one x=k+1:=by rfl
  rw [e] at hk ⊢
  rw [Ch,if_pos Sf]
  simp (disch:=omega) only [IW,PO,AA,wk,Ml]
  rfl
 grind [Ch]
def Port.cnt (x:Port):Nat:=1+1
def Port.mk1 (k:Nat) (x:Port):Port:=⟨mkI (k) x.agent,mkI (k+1) x.slot⟩
def Port.cntV (x:Port):Nat:=0
def Port.mkV (k:Nat) (x:Port):Port:=⟨x.agent,x.slot⟩
theorem Port.cnt_le (x:Port):x.cnt≤2:=by grind [Port.cnt]
theorem PP (l:List Port) (k:Nat) (h:l.length≤Big) (hk:k+cnts Port.cnt l≤KB):IN l (k:Int)=some (((k+cnts Port.cnt l:Nat):Int),mks Port.mk1 Port.cnt k l):=by
 unfold IN
 refine XP (fun n l k i=>DJ n l k i) Port.mk1 Port.cnt (fun _=>True) ?_ ?_ l k (fun _ _=>trivial) h hk
 ·intro n pre post x k hx hk hp
  have e:k+Port.cnt x=k+1+1:=by rfl
  rw [e] at hk ⊢
  rw [DJ,if_pos Sf]
  simp (disch:=omega) only [IW,PO,AA,wk,Ml,KH]
  rfl
 grind [DJ]
def Agent.cnt (x:Agent):Nat:=1+1+1+cnts one x.data+cnts Port.cnt x.ports
def Agent.mk1 (k:Nat) (x:Agent):Agent:=⟨mkI (k) x.kind,mkI (k+1) x.level,mkI (k+1+1) x.value,mks mkI one (k+1+1+1) x.data,mks Port.mk1 Port.cnt (k+1+1+1+cnts one x.data) x.ports⟩
def Agent.cntV (x:Agent):Nat:=cnts one x.data+cnts Port.cnt x.ports
def Agent.mkV (k:Nat) (x:Agent):Agent:=⟨x.kind,x.level,x.value,mks mkI one (k) x.data,mks Port.mk1 Port.cnt (k+cnts one x.data) x.ports⟩
theorem Agent.cnt_le (x:Agent):x.cnt≤3+3*x.sz:=by
 simp only [Agent.cnt,Agent.sz]
 have:=Gz (c:=one) (b:=1) (l:=x.data) (fun x=>Sg)
 have:=Gz (c:=Port.cnt) (b:=2) (l:=x.ports) (fun x=>Port.cnt_le x)
 omega
theorem Agent.cntV_le (x:Agent):x.cntV≤3+3*x.sz:=by
 simp only [Agent.cntV,Agent.sz]
 have:=Gz (c:=one) (b:=1) (l:=x.data) (fun x=>Sg)
 have:=Gz (c:=Port.cnt) (b:=2) (l:=x.ports) (fun x=>Port.cnt_le x)
 omega
theorem Nq (l:List Agent) (k:Nat) (h:szl Agent.sz l≤Big) (hk:k+cnts Agent.cnt l≤KB):F8 l (k:Int)=some (((k+cnts Agent.cnt l:Nat):Int),mks Agent.mk1 Agent.cnt k l):=by
 unfold F8
 refine XP (fun n l k i=>Cm n l k i) Agent.mk1 Agent.cnt (fun x=>x.sz≤Big) ?_ ?_ l k (fun x hx=>by grind [H4]) (by grind [Gb]) hk
 ·intro n pre post x k hx hk hp
  have e:k+Agent.cnt x=k+1+1+1+cnts one x.data+cnts Port.cnt x.ports:=by grind [Agent.cnt]
  rw [e] at hk ⊢
  simp only [Agent.sz] at hx
  rw [Cm,if_pos Sf]
  simp (disch:=omega) only [IW,PO,AA,wk,Ml,KH,PP]
  rfl
 grind [Cm]
def Net.cnt (x:Net):Nat:=cnts Agent.cnt x.agents
def Net.mk1 (k:Nat) (x:Net):Net:=⟨mks Agent.mk1 Agent.cnt (k) x.agents⟩
def Net.cntV (x:Net):Nat:=cnts Agent.cnt x.agents
def Net.mkV (k:Nat) (x:Net):Net:=⟨mks Agent.mk1 Agent.cnt (k) x.agents⟩
theorem Net.cnt_le (x:Net):x.cnt≤3+3*x.sz:=by
 simp only [Net.cnt,Net.sz]
 have:=NU (c:=Agent.cnt) (s:=Agent.sz) (b:=3) (l:=x.agents) (fun x=>Agent.cnt_le x)
 omega
theorem Net.cntV_le (x:Net):x.cntV≤3+3*x.sz:=by
 simp only [Net.cntV,Net.sz]
 have:=NU (c:=Agent.cnt) (s:=Agent.sz) (b:=3) (l:=x.agents) (fun x=>Agent.cnt_le x)
 omega
theorem Yr (x:Net) (k:Nat) (h:x.sz≤Big) (hk:k+x.cntV≤KB):I7 x (k:Int)=some (((k+x.cntV:Nat):Int),mks Agent.mk1 Agent.cnt (k) x.agents):=by
 have e:k+x.cntV=k+cnts Agent.cnt x.agents:=by rfl
 rw [e] at hk ⊢
 grind [Net.sz,I7,Nq]
theorem XU (l:List Net) (k:Nat) (h:szl Net.sz l≤Big) (hk:k+cnts Net.cnt l≤KB):Hs l (k:Int)=some (((k+cnts Net.cnt l:Nat):Int),mks Net.mk1 Net.cnt k l):=by
 unfold Hs
 refine XP (fun n l k i=>Di n l k i) Net.mk1 Net.cnt (fun x=>x.sz≤Big) ?_ ?_ l k (fun x hx=>by grind [H4]) (by grind [Gb]) hk
 ·intro n pre post x k hx hk hp
  have e:k+Net.cnt x=k+cnts Agent.cnt x.agents:=by rfl
  rw [e] at hk ⊢
  simp only [Net.sz] at hx
  rw [Di,if_pos Sf]
  simp (disch:=omega) only [IW,PO,AA,wk,Ml,KH,PP,Nq]
  rfl
 grind [Di]
theorem Ys (l:List Bool) (hl:l.length≤Big):F6 l=some l:=by
 unfold F6
 exact gTo (fun n acc i=>E3 n l acc i) some _ l (fun n acc i=>by rw [E3]; rfl) hl (fun x hx=>rfl)
theorem Nr (l m:List Bool) (hl:l.length≤Big):Dx (FV l m) (l=m):=by
 unfold FV
 exact dr (fun n i=>E5 n l m i) (fun x y=>some (x == y)) l m (fun n i=>by rw [E5]; rfl) hl fun x _ y _=>.mk beq_iff_eq
def mkBo:Nat→Bool→Bool:=fun k _=>decide (Int.tmod (k:Int) 3=0)
theorem PQ (l:List Bool) (k:Nat) (h:l.length≤Big) (hk:k+cnts one l≤KB):Eo l (k:Int)=some (((k+cnts one l:Nat):Int),mks mkBo one k l):=by
 unfold Eo
 refine XP (fun n l k i=>DH n l k i) mkBo one (fun _=>True) ?_ ?_ l k (fun _ _=>trivial) h hk
 ·intro n pre post x k hx hk hp
  have e:k+one x=k+1:=by rfl
  rw [e] at hk ⊢
  rw [DH,if_pos Sf]
  simp (disch:=omega) only [IW,PO,AA,wk,Ml]
  rfl
 grind [DH]
theorem VM (l:List Bool) (k:Nat) (h:l.length≤Big) (hk:k+cnts one l≤KB):Fp (mks mkBo one k l) (k:Int)=some ((k+cnts one l:Nat):Int):=by
 unfold Fp
 refine oL (fun n l k i=>DI n l k i) mkBo one (fun _=>True) ?_ ?_ l k (fun _ _=>trivial) h hk
 ·grind [one,DI,mkBo,IW,wk]
 grind [DI]
end Go.Proofs.YteckcjgpnegkjaaGreat.Ab
