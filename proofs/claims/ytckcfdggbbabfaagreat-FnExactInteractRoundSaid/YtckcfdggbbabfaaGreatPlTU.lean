/-
  Results that are marked and found marked again: the loops, each once. No program is in sight.
-/
import Derived.Test.YtckcfdggbbabfaaGreatPlNet
import Derived.Test.YtckcfdggbbabfaaGreatModU
import Derived.Test.YtckcfdggbbabfaaGreatAbZ
namespace Go.Proofs.YtckcfdggbbabfaaGreat.Ab
set_option linter.unusedVariables false
set_option linter.unusedSimpArgs false
open Go.RowKit
section
variable {α:Type} {pre post:List α} {x y:α}
theorem FD:at? (pre++x::post) ((List.length pre:Nat):Int)=some x:=Bq rfl
theorem MD:decide (((List.length pre:Nat):Int)<((List.length (pre++x::post):Nat):Int))=true:=Cm rfl
theorem Ot:CU (pre++x::post) ((List.length pre:Nat):Int) y=some (pre++y::post):=by
 unfold CU Uu
 simp
theorem IB (h:pre.length<Big):IntKind.i64.wrap (((List.length pre:Nat):Int)+1)=((List.length pre+1:Nat):Int):=by
 unfold Big at h
 rw [w64 (by omega) (by omega)]
 omega
theorem ME {l:List α}:decide (((List.length l:Nat):Int)<((List.length l:Nat):Int))=false:=by simp
end
abbrev KB:Nat:=4611686018427387904
theorem wk {k:Nat} (h:k+1≤KB):IntKind.i64.wrap ((k:Int)+1)=((k+1:Nat):Int):=by
 unfold KB at h
 rw [w64 (by omega) (by omega)]
 omega
theorem ZV {k:Nat}:decide (((k:Nat):Int)<0)=false:=by simp
def cnts {α:Type} (c:α→Nat):List α→Nat
 | [] =>0
 |x::l=>c x+cnts c l
def mks {α:Type} (mk:Nat→α→α) (c:α→Nat):Nat→List α→List α
 |_,[] =>[]
 |k,x::l=>mk k x::mks mk c (k+c x) l
theorem M3 {α:Type} {c s:α→Nat} {b:Nat}:∀ {l:List α},(∀x,c x≤b+b*s x)→cnts c l≤b*szl s l
 | [],_=>by simp [cnts]
 |x::l,h=>by
  rw [cnts,szl,Nat.mul_add,Nat.mul_add]
  have:=h x
  have:=M3 (l:=l) h
  omega
theorem JO {α:Type} {c:α→Nat} {b:Nat}:∀ {l:List α},(∀x,c x≤b)→cnts c l≤b*l.length
 | [],_=>by simp [cnts]
 |x::l,h=>by
  rw [cnts,List.length_cons,Nat.mul_add]
  have:=h x
  have:=JO (l:=l) h
  omega
def one {α:Type}:α→Nat:=fun _=>1
def mkI:Nat→Int→Int:=fun k _=>(k:Int)
theorem ZW {α:Type} {x:α}:one x≤1:=Nat.le_refl 1
theorem WJ {α:Type} (L:Nat→List α→Int→Int→Option (Int × List α)) (mk:Nat→α→α) (c:α→Nat) (P:α→Prop)
  (hL:∀n (pre post:List α) x (k:Nat),P x→k+c x≤KB→pre.length<Big→L (n+1) (pre++x::post) (k:Int) ((List.length pre:Nat):Int)=L n (pre++mk k x::post) ((k+c x:Nat):Int) ((List.length pre+1:Nat):Int))
  (hN:∀n (l:List α) (k:Int),L (n+1) l k ((List.length l:Nat):Int)=some (k,l))
  (l:List α) (k:Nat) (hP:∀x ∈ l,P x) (hl:l.length≤Big) (hk:k+cnts c l≤KB):L fuel l (k:Int) 0=some (((k+cnts c l:Nat):Int),mks mk c k l):=by
 have loop:∀ (post pre:List α) (n k:Nat),(∀x ∈ post,P x)→pre.length+post.length≤Big→k+cnts c post≤KB→post.length<n→L n (pre++post) (k:Int) ((List.length pre:Nat):Int)=some (((k+cnts c post:Nat):Int),pre++mks mk c k post):=by
  intro post
  induction post with
  |nil=>
   intro pre n k _ _ _ hn
   obtain⟨n,rfl⟩:∃m,n=m+1:=⟨n - 1,by omega⟩
   rw [List.append_nil,hN,cnts,mks,List.append_nil]; rfl
  |cons x post ih=>
   intro pre n k hp hb hk hn
   obtain⟨n,rfl⟩:∃m,n=m+1:=⟨n - 1,by omega⟩
   rw [List.length_cons] at hb hn
   rw [cnts] at hk
   rw [hL n pre post x k (hp x (List.mem_cons_self ..)) (by omega) (by omega),cnts,mks]
   have:=ih (pre++[mk k x]) n (k+c x) (fun y hy=>hp y (List.mem_cons_of_mem _ hy)) (by rw [List.length_append]; simp; omega) (by omega) (by omega)
   rw [List.append_assoc,List.append_assoc,List.length_append] at this
   simp only [List.cons_append,List.nil_append,List.length_cons,List.length_nil,Nat.zero_add] at this
   rw [this,Nat.add_assoc]
 exact loop l [] fuel k hP (by simpa using hl) hk (by rw [Aw]; unfold Big at hl; omega)
theorem ZX {α:Type} (L:Nat→List α→Int→Int→Option Int) (mk:Nat→α→α) (c:α→Nat) (P:α→Prop)
  (hL:∀n (pre post:List α) x (k:Nat),P x→k+c x≤KB→pre.length<Big→L (n+1) (pre++mk k x::post) (k:Int) ((List.length pre:Nat):Int)=L n (pre++mk k x::post) ((k+c x:Nat):Int) ((List.length pre+1:Nat):Int))
  (hN:∀n (l:List α) (k:Int),L (n+1) l k ((List.length l:Nat):Int)=some k)
  (l:List α) (k:Nat) (hP:∀x ∈ l,P x) (hl:l.length≤Big) (hk:k+cnts c l≤KB):L fuel (mks mk c k l) (k:Int) 0=some ((k+cnts c l:Nat):Int):=by
 have loop:∀ (post pre:List α) (n k:Nat),(∀x ∈ post,P x)→pre.length+post.length≤Big→k+cnts c post≤KB→post.length<n→L n (pre++mks mk c k post) (k:Int) ((List.length pre:Nat):Int)=some ((k+cnts c post:Nat):Int):=by
  intro post
  induction post with
  |nil=>
   intro pre n k _ _ _ hn
   obtain⟨n,rfl⟩:∃m,n=m+1:=⟨n - 1,by omega⟩
   rw [mks,List.append_nil,hN,cnts]; rfl
  |cons x post ih=>
   intro pre n k hp hb hk hn
   obtain⟨n,rfl⟩:∃m,n=m+1:=⟨n - 1,by omega⟩
   rw [List.length_cons] at hb hn
   rw [cnts] at hk
   rw [mks,hL n pre _ x k (hp x (List.mem_cons_self ..)) (by omega) (by omega),cnts]
   have:=ih (pre++[mk k x]) n (k+c x) (fun y hy=>hp y (List.mem_cons_of_mem _ hy)) (by rw [List.length_append]; simp; omega) (by omega) (by omega)
   rw [List.append_assoc,List.length_append] at this
   simp only [List.cons_append,List.nil_append,List.length_cons,List.length_nil,Nat.zero_add] at this
   rw [this,Nat.add_assoc]
 exact loop l [] fuel k hP (by simpa using hl) hk (by rw [Aw]; unfold Big at hl; omega)
end Go.Proofs.YtckcfdggbbabfaaGreat.Ab
namespace Go.Proofs.YtckcfdggbbabfaaGreat.Ab
set_option linter.unusedVariables false
set_option linter.unusedSimpArgs false
open Go.RowKit
structure Port.Ok (x:Port):Prop where
 agent:(Lit.int IntKind.i64 x.agent).wf =true
 slot:(Lit.int IntKind.i64 x.slot).wf =true
theorem Port.ok_of (x:Port) (h:IR (Port.ds x)):x.Ok:=by
 rw [Port.ds_eq] at h
 simp only [IR,D.ok,List.length_map] at h
 obtain⟨h1,h2,-⟩:=h
 exact⟨h1,h2⟩
theorem Port.eq_iff (x y:Port):x=y↔x.agent=y.agent∧x.slot=y.slot:=by
 cases x; cases y; simp only [Port.mk.injEq]
theorem VI (l:List Port) (hl:l.length≤9223372036854775807) (h:∀x ∈ l,x.Ok) (left:Nat) (h1:left≤1048576):JD l left=some (szr l.length left):=by
 unfold JD
 exact V5 h1 hl fun _=>Uz
theorem Xh (x:Port):JE x=some x:=by
 unfold JE
 rfl
theorem VJ (l:List Port) (hl:l.length≤Big):JF l=some l:=by
 unfold JF
 exact gTo (fun n acc i=>EH n l acc i) JE _ l (fun n acc i=>by rw [EH]) hl (fun x hx=>Xh x)
theorem SG (x y:Port):DU (JG x y) (x=y):=by
 unfold JG
 exact DU.iff (Ge LQ fun _=>Ge LQ fun _=>L9) (by rw [Port.eq_iff]; simp only [and_true])
theorem Qd (l m:List Port) (hl:l.length≤Big):DU (JH l m) (l=m):=by
 unfold JH
 exact a8 (fun n i=>EI n l m i) JG l m (fun n i=>by rw [EI]) hl fun x hx y _=>SG x y
structure Agent.Ok (x:Agent):Prop where
 kind:(Lit.int IntKind.i64 x.kind).wf =true
 level:(Lit.int IntKind.i64 x.level).wf =true
 value:(Lit.int IntKind.i64 x.value).wf =true
 data:(x.data.length≤9223372036854775807∧∀e ∈ x.data,(Lit.int IntKind.i64 e).wf =true)
 ports:(x.ports.length≤9223372036854775807∧∀e ∈ x.ports,Port.Ok e)
theorem Agent.ok_of (x:Agent) (h:IR (Agent.ds x)):x.Ok:=by
 rw [Agent.ds_eq] at h
 simp only [IR,D.ok,List.length_map] at h
 obtain⟨h1,h2,h3,h4,h5,-⟩:=h
 exact⟨h1,h2,h3,⟨h4.1,fun e he=>by have:=(Kh h4.2 he); simpa only [Au,IR,D.ok,and_true] using this⟩,⟨h5.1,fun e he=>Port.ok_of e (Kh h5.2 he)⟩⟩
theorem Agent.eq_iff (x y:Agent):x=y↔x.kind=y.kind∧x.level=y.level∧x.value=y.value∧x.data=y.data∧x.ports=y.ports:=by
 cases x; cases y; simp only [Agent.mk.injEq]
def Agent.sz (x:Agent):Nat:=x.data.length+(x.ports.length+0)
theorem VK (x:Agent) (h:x.Ok) (left:Nat) (h1:left≤1048576):He x left=some (szr x.sz left):=by
 unfold He Agent.sz
 exact Oo (TZ _ _ (by omega) h.data.1) fun _=>Oo (VI _ h.ports.1 h.ports.2 _ (by omega)) fun _=>Uz
theorem Tx (l:List Agent) (hl:l.length≤9223372036854775807) (h:∀x ∈ l,x.Ok) (left:Nat) (h1:left≤1048576):H2 l left=some (szr (szl Agent.sz l) left):=by
 unfold H2
 exact gSz (fun n p i=>Ds n l p i) He Agent.sz l (fun n p i=>by rw [Ds]) left h1 (fun x hx k hk=>VK x (h x hx) k hk) hl
theorem VL (x:Agent) (h:x.sz≤Big):Hf x=some x:=by
 unfold Hf
 rw [Ta _ (by have:=h; simp only [Agent.sz] at this; omega),AA]
 rw [VJ _ (by have:=h; simp only [Agent.sz] at this; omega),AA]
 first|done|rfl
theorem Ty (l:List Agent) (hl:szl Agent.sz l≤Big):H3 l=some l:=by
 unfold H3
 exact gTo (fun n acc i=>Dt n l acc i) Hf _ l (fun n acc i=>by rw [Dt]) (by have:=FQ Agent.sz l; omega) (fun x hx=>VL x (by have:=GG (s:=Agent.sz) hx; omega))
theorem Qe (x y:Agent) (h:x.sz≤Big):DU (Hg x y) (x=y):=by
 unfold Hg
 exact DU.iff (Ge LQ fun _=>Ge LQ fun _=>Ge LQ fun _=>GH (Pv _ _ (by have:=h; simp only [Agent.sz] at this; omega)) fun _=>GH (Qd _ _ (by have:=h; simp only [Agent.sz] at this; omega)) fun _=>L9) (by rw [Agent.eq_iff]; simp only [and_true])
theorem P6 (l m:List Agent) (hl:szl Agent.sz l≤Big):DU (H4 l m) (l=m):=by
 unfold H4
 exact a8 (fun n i=>Du n l m i) Hg l m (fun n i=>by rw [Du]) (by have:=FQ Agent.sz l; omega) fun x hx y _=>Qe x y (by have:=GG (s:=Agent.sz) hx; omega)
structure Net.Ok (x:Net):Prop where
 agents:(x.agents.length≤9223372036854775807∧∀e ∈ x.agents,Agent.Ok e)
theorem Net.ok_of (x:Net) (h:IR (Net.ds x)):x.Ok:=by
 rw [Net.ds_eq] at h
 simp only [IR,D.ok,List.length_map] at h
 obtain⟨h1,-⟩:=h
 exact⟨⟨h1.1,fun e he=>Agent.ok_of e (Kh h1.2 he)⟩⟩
theorem Net.eq_iff (x y:Net):x=y↔x.agents=y.agents:=by
 cases x; cases y; simp only [Net.mk.injEq]
def Net.sz (x:Net):Nat:=szl Agent.sz x.agents+0
theorem Tz (x:Net) (h:x.Ok) (left:Nat) (h1:left≤1048576):Jk x left=some (szr x.sz left):=by
 unfold Jk Net.sz
 exact Oo (Tx _ h.agents.1 h.agents.2 _ (by omega)) fun _=>Uz
theorem Xi (l:List Net) (hl:l.length≤9223372036854775807) (h:∀x ∈ l,x.Ok) (left:Nat) (h1:left≤1048576):Kl l left=some (szr (szl Net.sz l) left):=by
 unfold Kl
 exact gSz (fun n p i=>Eu n l p i) Jk Net.sz l (fun n p i=>by rw [Eu]) left h1 (fun x hx k hk=>Tz x (h x hx) k hk) hl
theorem T0 (x:Net) (h:x.sz≤Big):F6 x=some x:=by
 unfold F6
 rw [Ty _ (by have:=h; simp only [Net.sz] at this; omega),AA]
 first|done|rfl
theorem Xj (l:List Net) (hl:szl Net.sz l≤Big):F5 l=some l:=by
 unfold F5
 exact gTo (fun n acc i=>Ew n l acc i) F6 _ l (fun n acc i=>by rw [Ew]) (by have:=FQ Net.sz l; omega) (fun x hx=>T0 x (by have:=GG (s:=Net.sz) hx; omega))
theorem Kv (x y:Net) (h:x.sz≤Big):DU (FP x y) (x=y):=by
 unfold FP
 exact DU.iff (GH (P6 _ _ (by have:=h; simp only [Net.sz] at this; omega)) fun _=>L9) (by rw [Net.eq_iff]; simp only [and_true])
theorem SH (l m:List Net) (hl:szl Net.sz l≤Big):DU (I9 l m) (l=m):=by
 unfold I9
 exact a8 (fun n i=>Ex n l m i) FP l m (fun n i=>by rw [Ex]) (by have:=FQ Net.sz l; omega) fun x hx y _=>Kv x y (by have:=GG (s:=Net.sz) hx; omega)
end Go.Proofs.YtckcfdggbbabfaaGreat.Ab
namespace Go.Proofs.YtckcfdggbbabfaaGreat.Ab
set_option linter.unusedVariables false
set_option linter.unusedSimpArgs false
open Go.RowKit
theorem Gq (l:List Int) (k:Nat) (h:l.length≤Big) (hk:k+cnts one l≤KB):Fy l (k:Int)=some (((k+cnts one l:Nat):Int),mks mkI one k l):=by
 unfold Fy
 refine WJ (fun n l k i=>CM n l k i) mkI one (fun _=>True) ?_ ?_ l k (fun _ _=>trivial) h hk
 ·intro n pre post x k hx hk hp
  have e:k+one x=k+1:=by rfl
  rw [e] at hk ⊢
  rw [CM,if_pos MD]
  simp (disch:=omega) only [FD,Ot,AA,wk,IB]
  rfl
 ·intro n l k; rw [CM,if_neg (by rw [ME]; decide)]
theorem Iq (l:List Int) (k:Nat) (h:l.length≤Big) (hk:k+cnts one l≤KB):Fz (mks mkI one k l) (k:Int)=some ((k+cnts one l:Nat):Int):=by
 unfold Fz
 refine ZX (fun n l k i=>CN n l k i) mkI one (fun _=>True) ?_ ?_ l k (fun _ _=>trivial) h hk
 ·intro n pre post x k hx hk hp
  have e:k+one x=k+1:=by rfl
  rw [e] at hk ⊢
  rw [CN,if_pos MD]
  simp (disch:=omega) only [mkI,FD,AA,wk,IB,ZV,eq_self,decide_true,Bool.not_true,Bool.false_eq_true,reduceIte]
 ·intro n l k; rw [CN,if_neg (by rw [ME]; decide)]
def Port.cnt (x:Port):Nat:=1+1
def Port.mk1 (k:Nat) (x:Port):Port:=⟨mkI (k) x.agent,mkI (k+1) x.slot⟩
def Port.cntV (x:Port):Nat:=0
def Port.mkV (k:Nat) (x:Port):Port:=⟨x.agent,x.slot⟩
theorem Port.cnt_le (x:Port):x.cnt≤2:=by unfold Port.cnt; omega
theorem Jr (l:List Port) (k:Nat) (h:l.length≤Big) (hk:k+cnts Port.cnt l≤KB):G6 l (k:Int)=some (((k+cnts Port.cnt l:Nat):Int),mks Port.mk1 Port.cnt k l):=by
 unfold G6
 refine WJ (fun n l k i=>Cj n l k i) Port.mk1 Port.cnt (fun _=>True) ?_ ?_ l k (fun _ _=>trivial) h hk
 ·intro n pre post x k hx hk hp
  have e:k+Port.cnt x=k+1+1:=by unfold Port.cnt; omega
  rw [e] at hk ⊢
  rw [Cj,if_pos MD]
  simp (disch:=omega) only [FD,Ot,AA,wk,IB,Gq]
  rfl
 ·intro n l k; rw [Cj,if_neg (by rw [ME]; decide)]
def Agent.cnt (x:Agent):Nat:=1+1+1+cnts one x.data+cnts Port.cnt x.ports
def Agent.mk1 (k:Nat) (x:Agent):Agent:=⟨mkI (k) x.kind,mkI (k+1) x.level,mkI (k+1+1) x.value,mks mkI one (k+1+1+1) x.data,mks Port.mk1 Port.cnt (k+1+1+1+cnts one x.data) x.ports⟩
def Agent.cntV (x:Agent):Nat:=cnts one x.data+cnts Port.cnt x.ports
def Agent.mkV (k:Nat) (x:Agent):Agent:=⟨x.kind,x.level,x.value,mks mkI one (k) x.data,mks Port.mk1 Port.cnt (k+cnts one x.data) x.ports⟩
theorem Agent.cnt_le (x:Agent):x.cnt≤3+3*x.sz:=by
 simp only [Agent.cnt,Agent.sz]
 have:=JO (c:=one) (b:=1) (l:=x.data) (fun x=>ZW)
 have:=JO (c:=Port.cnt) (b:=2) (l:=x.ports) (fun x=>Port.cnt_le x)
 omega
theorem Agent.cntV_le (x:Agent):x.cntV≤3+3*x.sz:=by
 simp only [Agent.cntV,Agent.sz]
 have:=JO (c:=one) (b:=1) (l:=x.data) (fun x=>ZW)
 have:=JO (c:=Port.cnt) (b:=2) (l:=x.ports) (fun x=>Port.cnt_le x)
 omega
theorem Lg (l:List Agent) (k:Nat) (h:szl Agent.sz l≤Big) (hk:k+cnts Agent.cnt l≤KB):E5 l (k:Int)=some (((k+cnts Agent.cnt l:Nat):Int),mks Agent.mk1 Agent.cnt k l):=by
 unfold E5
 refine WJ (fun n l k i=>CR n l k i) Agent.mk1 Agent.cnt (fun x=>x.sz≤Big) ?_ ?_ l k (fun x hx=>by have:=GG (s:=Agent.sz) hx; omega) (by have:=FQ Agent.sz l; omega) hk
 ·intro n pre post x k hx hk hp
  have e:k+Agent.cnt x=k+1+1+1+cnts one x.data+cnts Port.cnt x.ports:=by unfold Agent.cnt; omega
  rw [e] at hk ⊢
  simp only [Agent.sz] at hx
  rw [CR,if_pos MD]
  simp (disch:=omega) only [FD,Ot,AA,wk,IB,Gq,Jr]
  rfl
 ·intro n l k; rw [CR,if_neg (by rw [ME]; decide)]
def Net.cnt (x:Net):Nat:=cnts Agent.cnt x.agents
def Net.mk1 (k:Nat) (x:Net):Net:=⟨mks Agent.mk1 Agent.cnt (k) x.agents⟩
def Net.cntV (x:Net):Nat:=cnts Agent.cnt x.agents
def Net.mkV (k:Nat) (x:Net):Net:=⟨mks Agent.mk1 Agent.cnt (k) x.agents⟩
theorem Net.cnt_le (x:Net):x.cnt≤3+3*x.sz:=by
 simp only [Net.cnt,Net.sz]
 have:=M3 (c:=Agent.cnt) (s:=Agent.sz) (b:=3) (l:=x.agents) (fun x=>Agent.cnt_le x)
 omega
theorem Net.cntV_le (x:Net):x.cntV≤3+3*x.sz:=by
 simp only [Net.cntV,Net.sz]
 have:=M3 (c:=Agent.cnt) (s:=Agent.sz) (b:=3) (l:=x.agents) (fun x=>Agent.cnt_le x)
 omega
theorem P7 (x:Net) (k:Nat) (h:x.sz≤Big) (hk:k+x.cntV≤KB):Fh x (k:Int)=some (((k+x.cntV:Nat):Int),mks Agent.mk1 Agent.cnt (k) x.agents):=by
 have e:k+x.cntV=k+cnts Agent.cnt x.agents:=by unfold Net.cntV; omega
 rw [e] at hk ⊢
 simp only [Net.sz] at h
 unfold Fh
 simp (disch:=omega) only [AA,wk,Gq,Jr,Lg]
theorem M4 (l:List Port) (k:Nat) (h:l.length≤Big) (hk:k+cnts Port.cnt l≤KB):G7 (mks Port.mk1 Port.cnt k l) (k:Int)=some ((k+cnts Port.cnt l:Nat):Int):=by
 unfold G7
 refine ZX (fun n l k i=>Ck n l k i) Port.mk1 Port.cnt (fun _=>True) ?_ ?_ l k (fun _ _=>trivial) h hk
 ·intro n pre post x k hx hk hp
  have e:k+Port.cnt x=k+1+1:=by unfold Port.cnt; omega
  rw [e] at hk ⊢
  rw [Ck,if_pos MD]
  simp (disch:=omega) only [Port.mk1,mkI,FD,AA,wk,IB,ZV,eq_self,decide_true,Bool.not_true,Bool.false_eq_true,reduceIte,Iq]
 ·intro n l k; rw [Ck,if_neg (by rw [ME]; decide)]
theorem Qf (l:List Agent) (k:Nat) (h:szl Agent.sz l≤Big) (hk:k+cnts Agent.cnt l≤KB):GC (mks Agent.mk1 Agent.cnt k l) (k:Int)=some ((k+cnts Agent.cnt l:Nat):Int):=by
 unfold GC
 refine ZX (fun n l k i=>CS n l k i) Agent.mk1 Agent.cnt (fun x=>x.sz≤Big) ?_ ?_ l k (fun x hx=>by have:=GG (s:=Agent.sz) hx; omega) (by have:=FQ Agent.sz l; omega) hk
 ·intro n pre post x k hx hk hp
  have e:k+Agent.cnt x=k+1+1+1+cnts one x.data+cnts Port.cnt x.ports:=by unfold Agent.cnt; omega
  rw [e] at hk ⊢
  simp only [Agent.sz] at hx
  rw [CS,if_pos MD]
  simp (disch:=omega) only [Agent.mk1,mkI,FD,AA,wk,IB,ZV,eq_self,decide_true,Bool.not_true,Bool.false_eq_true,reduceIte,Iq,M4]
 ·intro n l k; rw [CS,if_neg (by rw [ME]; decide)]
theorem VM (x:Net) (k:Nat) (h:x.sz≤Big) (hk:k+x.cntV≤KB):Ga (Net.mkV k x) (k:Int)=some ((k+x.cntV:Nat):Int):=by
 have e:k+x.cntV=k+cnts Agent.cnt x.agents:=by unfold Net.cntV; omega
 rw [e] at hk ⊢
 simp only [Net.sz] at h
 unfold Ga
 simp (disch:=omega) only [Net.mkV,AA,wk,ZV,eq_self,decide_true,Bool.not_true,Bool.false_eq_true,reduceIte,Iq,M4,Qf]
theorem T3 (l:List Net) (k:Nat) (h:szl Net.sz l≤Big) (hk:k+cnts Net.cnt l≤KB):Gb l (k:Int)=some (((k+cnts Net.cnt l:Nat):Int),mks Net.mk1 Net.cnt k l):=by
 unfold Gb
 refine WJ (fun n l k i=>DF n l k i) Net.mk1 Net.cnt (fun x=>x.sz≤Big) ?_ ?_ l k (fun x hx=>by have:=GG (s:=Net.sz) hx; omega) (by have:=FQ Net.sz l; omega) hk
 ·intro n pre post x k hx hk hp
  have e:k+Net.cnt x=k+cnts Agent.cnt x.agents:=by unfold Net.cnt; omega
  rw [e] at hk ⊢
  simp only [Net.sz] at hx
  rw [DF,if_pos MD]
  simp (disch:=omega) only [FD,Ot,AA,wk,IB,Gq,Jr,Lg]
  rfl
 ·intro n l k; rw [DF,if_neg (by rw [ME]; decide)]
end Go.Proofs.YtckcfdggbbabfaaGreat.Ab
