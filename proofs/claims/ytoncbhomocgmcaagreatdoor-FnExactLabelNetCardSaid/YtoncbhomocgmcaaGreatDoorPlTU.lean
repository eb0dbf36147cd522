/-
  Results that are marked and found marked again: the loops, each once. No program is in sight.
-/
import Derived.Test.YtoncbhomocgmcaaGreatDoorPlNet
import Derived.Test.YtoncbhomocgmcaaGreatDoorModU
import Derived.Test.YtoncbhomocgmcaaGreatDoorAbZ
namespace Go.Proofs.YtoncbhomocgmcaaGreatDoor.Ab
set_option linter.unusedVariables false
set_option linter.unusedSimpArgs false
open Go.RowKit
section
variable {α:Type} {pre post:List α} {x y:α}
theorem Ir:at? (pre++x::post) (pre.length:Int)=some x:=Ce rfl
theorem Is:decide ((pre.length:Int)<((List.length (pre++x::post):Nat):Int))=true:=DS rfl
theorem K9:CL (pre++x::post) (pre.length:Int) y=some (pre++y::post):=by
 unfold CL Zu
 simp
theorem FH (h:pre.length<Big):IntKind.i64.wrap ((pre.length:Int)+1)=((List.length pre+1:Nat):Int):=by
 unfold Big at h
 rw [w64 (by omega) (by omega)]
 omega
theorem It {l:List α}:decide ((l.length:Int)<(l.length:Int))=false:=by simp
end
abbrev KB:Nat:=4611686018427387904
theorem wk {k} (h:k+1≤KB):IntKind.i64.wrap ((k:Int)+1)=((k+1:Nat):Int):=by
 unfold KB at h
 rw [w64 (by omega) (by omega)]
 omega
theorem Ty {k}:decide (((k:Nat):Int)<0)=false:=by simp
def cnts {α:Type} (c:α→Nat):List α→Nat
 | [] =>0
 |x::l=>c x+cnts c l
def mks {α:Type} (mk:Nat→α→α) (c:α→Nat):Nat→List α→List α
 |_,[] =>[]
 |k,x::l=>mk k x::mks mk c (k+c x) l
theorem cnts_le {α:Type} {c s:α→Nat} {b:Nat}:∀ {l:List α},(∀x,c x≤b+b*s x)→cnts c l≤b*szl s l
 | [],_=>by simp [cnts]
 |x::l,h=>by
  rw [cnts,szl,Nat.mul_add,Nat.mul_add]
  have:=h x
  have:=cnts_le (l:=l) h
  omega
theorem ER {α:Type} {c:α→Nat} {b:Nat}:∀ {l:List α},(∀x,c x≤b)→cnts c l≤b*l.length
 | [],_=>by simp [cnts]
 |x::l,h=>by
  rw [cnts,List.length_cons,Nat.mul_add]
  have:=h x
  have:=ER (l:=l) h
  omega
def one {α:Type}:α→Nat:=fun _=>1
def mkI:Nat→Int→Int:=fun k _=>(k:Int)
theorem OK {α:Type} {x:α}:one x≤1:=Nat.le_refl 1
theorem Uz {α:Type} (L:Nat→List α→Int→Int→Option (Int × List α)) (mk:Nat→α→α) (c:α→Nat) (P:α→Prop)
  (hL:∀n (pre post:List α) x (k:Nat),P x→k+c x≤KB→pre.length<Big→L (n+1) (pre++x::post) (k:Int) (pre.length:Int)=L n (pre++mk k x::post) ((k+c x:Nat):Int) ((List.length pre+1:Nat):Int))
  (hN:∀n (l:List α) (k:Int),L (n+1) l k (l.length:Int)=some (k,l))
  (l:List α) (k:Nat) (hP:∀x ∈ l,P x) (hl:l.length≤Big) (hk:k+cnts c l≤KB):L fuel l (k:Int) 0=some (((k+cnts c l:Nat):Int),mks mk c k l):=by
 have loop:∀ (post pre:List α) (n k:Nat),(∀x ∈ post,P x)→pre.length+post.length≤Big→k+cnts c post≤KB→post.length<n→L n (pre++post) (k:Int) (pre.length:Int)=some (((k+cnts c post:Nat):Int),pre++mks mk c k post):=by
  intro post
  induction post with
  |nil=>
   intro pre n k _ _ _ hn
   obtain⟨n,rfl⟩:∃m,n=m+1:=⟨n - 1,by omega⟩
   rw [List.append_nil,hN,cnts,mks,List.append_nil]; rfl
  |cons x post ih=>
   intro pre n k hp hb hk hn
   obtain⟨n,rfl⟩:∃m,n=m+1:=⟨n - 1,by omega⟩
   rw [List.length_cons] at hb hn
   rw [cnts] at hk
   rw [hL n pre post x k (hp x (List.mem_cons_self ..)) (by omega) (by omega),cnts,mks]
   have:=ih (pre++[mk k x]) n (k+c x) (fun y hy=>hp y (List.mem_cons_of_mem _ hy)) (by rw [List.length_append]; simp; omega) (by omega) (by omega)
   rw [List.append_assoc,List.append_assoc,List.length_append] at this
   simp only [List.cons_append,List.nil_append,List.length_cons,List.length_nil,Nat.zero_add] at this
   rw [this,Nat.add_assoc]
 exact loop l [] fuel k hP (by simpa using hl) hk (by rw [BF]; unfold Big at hl; omega)
theorem aY {α:Type} (L:Nat→List α→Int→Int→Option Int) (mk:Nat→α→α) (c:α→Nat) (P:α→Prop)
  (hL:∀n (pre post:List α) x (k:Nat),P x→k+c x≤KB→pre.length<Big→L (n+1) (pre++mk k x::post) (k:Int) (pre.length:Int)=L n (pre++mk k x::post) ((k+c x:Nat):Int) ((List.length pre+1:Nat):Int))
  (hN:∀n (l:List α) (k:Int),L (n+1) l k (l.length:Int)=some k)
  (l:List α) (k:Nat) (hP:∀x ∈ l,P x) (hl:l.length≤Big) (hk:k+cnts c l≤KB):L fuel (mks mk c k l) (k:Int) 0=some ((k+cnts c l:Nat):Int):=by
 have loop:∀ (post pre:List α) (n k:Nat),(∀x ∈ post,P x)→pre.length+post.length≤Big→k+cnts c post≤KB→post.length<n→L n (pre++mks mk c k post) (k:Int) (pre.length:Int)=some ((k+cnts c post:Nat):Int):=by
  intro post
  induction post with
  |nil=>
   intro pre n k _ _ _ hn
   obtain⟨n,rfl⟩:∃m,n=m+1:=⟨n - 1,by omega⟩
   rw [mks,List.append_nil,hN,cnts]; rfl
  |cons x post ih=>
   intro pre n k hp hb hk hn
   obtain⟨n,rfl⟩:∃m,n=m+1:=⟨n - 1,by omega⟩
   rw [List.length_cons] at hb hn
   rw [cnts] at hk
   rw [mks,hL n pre _ x k (hp x (List.mem_cons_self ..)) (by omega) (by omega),cnts]
   have:=ih (pre++[mk k x]) n (k+c x) (fun y hy=>hp y (List.mem_cons_of_mem _ hy)) (by rw [List.length_append]; simp; omega) (by omega) (by omega)
   rw [List.append_assoc,List.length_append] at this
   simp only [List.cons_append,List.nil_append,List.length_cons,List.length_nil,Nat.zero_add] at this
   rw [this,Nat.add_assoc]
 exact loop l [] fuel k hP (by simpa using hl) hk (by rw [BF]; unfold Big at hl; omega)
structure Port.Ok (x:Port):Prop where
 agent:(Lit.int IntKind.i64 x.agent).wf =true
 slot:(Lit.int IntKind.i64 x.slot).wf =true
theorem Port.ok_of (x:Port) (h:H1 (Port.ds x)):x.Ok:=by
 rw [Port.ds_eq] at h
 simp only [H1,D.ok,List.length_map] at h
 obtain⟨h1,h2,-⟩:=h
 exact⟨h1,h2⟩
theorem Port.eq_iff (x y:Port):x=y↔x.agent=y.agent∧x.slot=y.slot:=by
 cases x; cases y; simp only [Port.mk.injEq]
theorem Tz (l:List Port) (hl:l.length≤9223372036854775807) (h:∀x ∈ l,x.Ok) (left:Nat) (h1:left≤1048576):G8 l left=some (szr l.length left):=by
 unfold G8
 exact Uu h1 hl fun _=>Ts
theorem WM (x:Port):G9 x=some x:=by
 unfold G9
 rfl
theorem T0 (l:List Port) (hl:l.length≤Big):HA l=some l:=by
 unfold HA
 exact gTo (fun n acc i=>DL n l acc i) G9 _ l (fun n acc i=>by rw [DL]) hl (fun x hx=>WM x)
theorem Qm (x y:Port):Bm (HC x y) (x=y):=by
 unfold HC
 exact Bm.iff (EQ Gb fun _=>EQ Gb fun _=>J2) (by rw [Port.eq_iff]; simp only [and_true])
theorem Om (l m:List Port) (hl:l.length≤Big):Bm (HD l m) (l=m):=by
 unfold HD
 exact WD (fun n i=>DM n l m i) HC l m (fun n i=>by rw [DM]) hl fun x hx y _=>Qm x y
structure Agent.Ok (x:Agent):Prop where
 kind:(Lit.int IntKind.i64 x.kind).wf =true
 level:(Lit.int IntKind.i64 x.level).wf =true
 value:(Lit.int IntKind.i64 x.value).wf =true
 data:(x.data.length≤9223372036854775807∧∀e ∈ x.data,(Lit.int IntKind.i64 e).wf =true)
 ports:(x.ports.length≤9223372036854775807∧∀e ∈ x.ports,Port.Ok e)
theorem Agent.ok_of (x:Agent) (h:H1 (Agent.ds x)):x.Ok:=by
 rw [Agent.ds_eq] at h
 simp only [H1,D.ok,List.length_map] at h
 obtain⟨h1,h2,h3,h4,h5,-⟩:=h
 exact⟨h1,h2,h3,⟨h4.1,fun e he=>by have:=(Kz h4.2 he); simpa only [AB,H1,D.ok,and_true] using this⟩,⟨h5.1,fun e he=>Port.ok_of e (Kz h5.2 he)⟩⟩
theorem Agent.eq_iff (x y:Agent):x=y↔x.kind=y.kind∧x.level=y.level∧x.value=y.value∧x.data=y.data∧x.ports=y.ports:=by
 cases x; cases y; simp only [Agent.mk.injEq]
def Agent.sz (x:Agent):Nat:=x.data.length+(x.ports.length+0)
theorem T2 (x:Agent) (h:x.Ok) (left:Nat) (h1:left≤1048576):Fk x left=some (szr x.sz left):=by
 unfold Fk Agent.sz
 exact NA (SV _ _ (by omega) h.data.1) fun _=>NA (Tz _ h.ports.1 h.ports.2 _ (by omega)) fun _=>Ts
theorem Sf (l:List Agent) (hl:l.length≤9223372036854775807) (h:∀x ∈ l,x.Ok) (left:Nat) (h1:left≤1048576):GD l left=some (szr (szl Agent.sz l) left):=by
 unfold GD
 exact gSz (fun n p i=>Cu n l p i) Fk Agent.sz l (fun n p i=>by rw [Cu]) left h1 (fun x hx k hk=>T2 x (h x hx) k hk) hl
theorem T3 (x:Agent) (h:x.sz≤Big):Fl x=some x:=by
 unfold Fl
 rw [SW _ (by have:=h; simp only [Agent.sz] at this; omega),AA]
 rw [T0 _ (by have:=h; simp only [Agent.sz] at this; omega),AA]
 first|done|rfl
theorem Sg (l:List Agent) (hl:szl Agent.sz l≤Big):GE l=some l:=by
 unfold GE
 exact gTo (fun n acc i=>Cv n l acc i) Fl _ l (fun n acc i=>by rw [Cv]) (by have:=Hl Agent.sz l; omega) (fun x hx=>T3 x (by have:=JF (s:=Agent.sz) hx; omega))
theorem On (x y:Agent) (h:x.sz≤Big):Bm (Fm x y) (x=y):=by
 unfold Fm
 exact Bm.iff (EQ Gb fun _=>EQ Gb fun _=>EQ Gb fun _=>Ek (OJ _ _ (by have:=h; simp only [Agent.sz] at this; omega)) fun _=>Ek (Om _ _ (by have:=h; simp only [Agent.sz] at this; omega)) fun _=>J2) (by rw [Agent.eq_iff]; simp only [and_true])
theorem OL (l m:List Agent) (hl:szl Agent.sz l≤Big):Bm (GF l m) (l=m):=by
 unfold GF
 exact WD (fun n i=>Cw n l m i) Fm l m (fun n i=>by rw [Cw]) (by have:=Hl Agent.sz l; omega) fun x hx y _=>On x y (by have:=JF (s:=Agent.sz) hx; omega)
structure Net.Ok (x:Net):Prop where
 agents:(x.agents.length≤9223372036854775807∧∀e ∈ x.agents,Agent.Ok e)
theorem Net.ok_of (x:Net) (h:H1 (Net.ds x)):x.Ok:=by
 rw [Net.ds_eq] at h
 simp only [H1,D.ok,List.length_map] at h
 obtain⟨h1,-⟩:=h
 exact⟨⟨h1.1,fun e he=>Agent.ok_of e (Kz h1.2 he)⟩⟩
theorem Net.eq_iff (x y:Net):x=y↔x.agents=y.agents:=by
 cases x; cases y; simp only [Net.mk.injEq]
def Net.sz (x:Net):Nat:=szl Agent.sz x.agents+0
theorem YE (x:Net) (h:x.Ok) (left:Nat) (h1:left≤1048576):K2 x left=some (szr x.sz left):=by
 unfold K2 Net.sz
 exact NA (Sf _ h.agents.1 h.agents.2 _ (by omega)) fun _=>Ts
theorem YF (x:Net) (h:x.sz≤Big):FZ x=some x:=by
 unfold FZ
 rw [Sg _ (by have:=h; simp only [Net.sz] at this; omega),AA]
 first|done|rfl
theorem Sh (x y:Net) (h:x.sz≤Big):Bm (JC x y) (x=y):=by
 unfold JC
 exact Bm.iff (Ek (OL _ _ (by have:=h; simp only [Net.sz] at this; omega)) fun _=>J2) (by rw [Net.eq_iff]; simp only [and_true])
theorem EB (l:List Int) (k:Nat) (h:l.length≤Big) (hk:k+cnts one l≤KB):DG l (k:Int)=some (((k+cnts one l:Nat):Int),mks mkI one k l):=by
 unfold DG
 refine Uz (fun n l k i=>Be n l k i) mkI one (fun _=>True) ?_ ?_ l k (fun _ _=>trivial) h hk
 ·intro n pre post x k hx hk hp
  have e:k+one x=k+1:=by rfl
  rw [e] at hk ⊢
  rw [Be,if_pos Is]
  simp (maxSteps:=2000000) (disch:=omega) only [Ir,K9,AA,wk,FH]
  rfl
 ·intro n l k; rw [Be,if_neg (by rw [It]; decide)]
theorem JS (l:List Int) (k:Nat) (h:l.length≤Big) (hk:k+cnts one l≤KB):Du (mks mkI one k l) (k:Int)=some ((k+cnts one l:Nat):Int):=by
 unfold Du
 refine aY (fun n l k i=>Bf n l k i) mkI one (fun _=>True) ?_ ?_ l k (fun _ _=>trivial) h hk
 ·intro n pre post x k hx hk hp
  have e:k+one x=k+1:=by rfl
  rw [e] at hk ⊢
  rw [Bf,if_pos Is]
  simp (maxSteps:=2000000) (disch:=omega) only [mkI,Ir,AA,wk,FH,Ty,eq_self,decide_true,Bool.not_true,Bool.false_eq_true,reduceIte]
 ·intro n l k; rw [Bf,if_neg (by rw [It]; decide)]
def Port.cnt (x:Port):Nat:=1+1
def Port.mk1 (k:Nat) (x:Port):Port:=⟨mkI (k) x.agent,mkI (k+1) x.slot⟩
def Port.cntV (x:Port):Nat:=0
def Port.mkV (k:Nat) (x:Port):Port:=⟨x.agent,x.slot⟩
theorem Port.cnt_le (x:Port):x.cnt≤2:=by unfold Port.cnt; omega
theorem LA (l:List Port) (k:Nat) (h:l.length≤Big) (hk:k+cnts Port.cnt l≤KB):FB l (k:Int)=some (((k+cnts Port.cnt l:Nat):Int),mks Port.mk1 Port.cnt k l):=by
 unfold FB
 refine Uz (fun n l k i=>B3 n l k i) Port.mk1 Port.cnt (fun _=>True) ?_ ?_ l k (fun _ _=>trivial) h hk
 ·intro n pre post x k hx hk hp
  have e:k+Port.cnt x=k+1+1:=by unfold Port.cnt; omega
  rw [e] at hk ⊢
  rw [B3,if_pos Is]
  simp (maxSteps:=2000000) (disch:=omega) only [Ir,K9,AA,wk,FH,EB]
  rfl
 ·intro n l k; rw [B3,if_neg (by rw [It]; decide)]
def Agent.cnt (x:Agent):Nat:=1+1+1+cnts one x.data+cnts Port.cnt x.ports
def Agent.mk1 (k:Nat) (x:Agent):Agent:=⟨mkI (k) x.kind,mkI (k+1) x.level,mkI (k+1+1) x.value,mks mkI one (k+1+1+1) x.data,mks Port.mk1 Port.cnt (k+1+1+1+cnts one x.data) x.ports⟩
def Agent.cntV (x:Agent):Nat:=cnts one x.data+cnts Port.cnt x.ports
def Agent.mkV (k:Nat) (x:Agent):Agent:=⟨x.kind,x.level,x.value,mks mkI one (k) x.data,mks Port.mk1 Port.cnt (k+cnts one x.data) x.ports⟩
theorem Agent.cnt_le (x:Agent):x.cnt≤3+3*x.sz:=by
 simp only [Agent.cnt,Agent.sz]
 have:=ER (c:=one) (b:=1) (l:=x.data) (fun x=>OK)
 have:=ER (c:=Port.cnt) (b:=2) (l:=x.ports) (fun x=>Port.cnt_le x)
 omega
theorem Agent.cntV_le (x:Agent):x.cntV≤3+3*x.sz:=by
 simp only [Agent.cntV,Agent.sz]
 have:=ER (c:=one) (b:=1) (l:=x.data) (fun x=>OK)
 have:=ER (c:=Port.cnt) (b:=2) (l:=x.ports) (fun x=>Port.cnt_le x)
 omega
theorem Oo (l:List Agent) (k:Nat) (h:szl Agent.sz l≤Big) (hk:k+cnts Agent.cnt l≤KB):Eg l (k:Int)=some (((k+cnts Agent.cnt l:Nat):Int),mks Agent.mk1 Agent.cnt k l):=by
 unfold Eg
 refine Uz (fun n l k i=>Bg n l k i) Agent.mk1 Agent.cnt (fun x=>x.sz≤Big) ?_ ?_ l k (fun x hx=>by have:=JF (s:=Agent.sz) hx; omega) (by have:=Hl Agent.sz l; omega) hk
 ·intro n pre post x k hx hk hp
  have e:k+Agent.cnt x=k+1+1+1+cnts one x.data+cnts Port.cnt x.ports:=by unfold Agent.cnt; omega
  rw [e] at hk ⊢
  simp only [Agent.sz] at hx
  rw [Bg,if_pos Is]
  simp (maxSteps:=2000000) (disch:=omega) only [Ir,K9,AA,wk,FH,EB,LA]
  rfl
 ·intro n l k; rw [Bg,if_neg (by rw [It]; decide)]
def Net.cnt (x:Net):Nat:=cnts Agent.cnt x.agents
def Net.mk1 (k:Nat) (x:Net):Net:=⟨mks Agent.mk1 Agent.cnt (k) x.agents⟩
def Net.cntV (x:Net):Nat:=cnts Agent.cnt x.agents
def Net.mkV (k:Nat) (x:Net):Net:=⟨mks Agent.mk1 Agent.cnt (k) x.agents⟩
theorem Net.cnt_le (x:Net):x.cnt≤3+3*x.sz:=by
 simp only [Net.cnt,Net.sz]
 have:=cnts_le (c:=Agent.cnt) (s:=Agent.sz) (b:=3) (l:=x.agents) (fun x=>Agent.cnt_le x)
 omega
theorem Net.cntV_le (x:Net):x.cntV≤3+3*x.sz:=by
 simp only [Net.cntV,Net.sz]
 have:=cnts_le (c:=Agent.cnt) (s:=Agent.sz) (b:=3) (l:=x.agents) (fun x=>Agent.cnt_le x)
 omega
theorem T4 (x:Net) (k:Nat) (h:x.sz≤Big) (hk:k+x.cntV≤KB):Fi x (k:Int)=some (((k+x.cntV:Nat):Int),mks Agent.mk1 Agent.cnt (k) x.agents):=by
 have e:k+x.cntV=k+cnts Agent.cnt x.agents:=by unfold Net.cntV; omega
 rw [e] at hk ⊢
 simp only [Net.sz] at h
 unfold Fi
 simp (maxSteps:=2000000) (disch:=omega) only [AA,wk,EB,LA,Oo]
end Go.Proofs.YtoncbhomocgmcaaGreatDoor.Ab
