/-
  Results that are marked and found marked again: the loops, each once. No program is in sight.
-/
import Derived.Test.YtckcfdggbbabfaaGreatPlNet
import Derived.Test.YtckcfdggbbabfaaGreatModU
import Derived.Test.YtckcfdggbbabfaaGreatAbZ
namespace Go.Proofs.YtckcfdggbbabfaaGreat.Ab
set_option linter.unusedVariables false
set_option linter.unusedSimpArgs false
open Go.RowKit
section
variable {α:Type} {pre post:List α} {x y:α}
theorem F4:at? (pre++x::post) ((List.length pre:Nat):Int)=some x:=BO rfl
theorem Nr:decide (((List.length pre:Nat):Int)<((List.length (pre++x::post):Nat):Int))=true:=CG rfl
theorem Oi:CF (pre++x::post) ((List.length pre:Nat):Int) y=some (pre++y::post):=by
 unfold CF Vi
 simp
theorem JM (h:pre.length<Big):IntKind.i64.wrap (((List.length pre:Nat):Int)+1)=((List.length pre+1:Nat):Int):=by
 unfold Big at h
 rw [w64 (by omega) (by omega)]
 omega
theorem Ns {l:List α}:decide (((List.length l:Nat):Int)<((List.length l:Nat):Int))=false:=by simp
end
abbrev KB:Nat:=4611686018427387904
theorem wk {k} (h:k+1≤KB):IntKind.i64.wrap ((k:Int)+1)=((k+1:Nat):Int):=by
 unfold KB at h
 rw [w64 (by omega) (by omega)]
 omega
theorem cE {k}:decide (((k:Nat):Int)<0)=false:=by simp
def cnts {α:Type} (c:α→Nat):List α→Nat
 | [] =>0
 |x::l=>c x+cnts c l
def mks {α:Type} (mk:Nat→α→α) (c:α→Nat):Nat→List α→List α
 |_,[] =>[]
 |k,x::l=>mk k x::mks mk c (k+c x) l
theorem IX {α:Type} {c s:α→Nat} {b:Nat}:∀ {l:List α},(∀x,c x≤b+b*s x)→cnts c l≤b*szl s l
 | [],_=>by simp [cnts]
 |x::l,h=>by
  rw [cnts,szl,Nat.mul_add,Nat.mul_add]
  have:=h x
  have:=IX (l:=l) h
  omega
theorem Fu {α:Type} {c:α→Nat} {b:Nat}:∀ {l:List α},(∀x,c x≤b)→cnts c l≤b*l.length
 | [],_=>by simp [cnts]
 |x::l,h=>by
  rw [cnts,List.length_cons,Nat.mul_add]
  have:=h x
  have:=Fu (l:=l) h
  omega
def one {α:Type}:α→Nat:=fun _=>1
def mkI:Nat→Int→Int:=fun k _=>(k:Int)
theorem Pe {α:Type} {x:α}:one x≤1:=Nat.le_refl 1
theorem WE {α:Type} (L:Nat→List α→Int→Int→Option (Int × List α)) (mk:Nat→α→α) (c:α→Nat) (P:α→Prop)
  (hL:∀n (pre post:List α) x (k:Nat),P x→k+c x≤KB→pre.length<Big→L (n+1) (pre++x::post) (k:Int) ((List.length pre:Nat):Int)=L n (pre++mk k x::post) ((k+c x:Nat):Int) ((List.length pre+1:Nat):Int))
  (hN:∀n (l:List α) (k:Int),L (n+1) l k ((List.length l:Nat):Int)=some (k,l))
  (l:List α) (k:Nat) (hP:∀x ∈ l,P x) (hl:l.length≤Big) (hk:k+cnts c l≤KB):L fuel l (k:Int) 0=some (((k+cnts c l:Nat):Int),mks mk c k l):=by
 have loop:∀ (post pre:List α) (n k:Nat),(∀x ∈ post,P x)→pre.length+post.length≤Big→k+cnts c post≤KB→post.length<n→L n (pre++post) (k:Int) ((List.length pre:Nat):Int)=some (((k+cnts c post:Nat):Int),pre++mks mk c k post):=by
  intro post
  induction post with
  |nil=>
   intro pre n k _ _ _ hn
   obtain⟨n,rfl⟩:∃m,n=m+1:=⟨n - 1,by omega⟩
   rw [List.append_nil,hN,cnts,mks,List.append_nil]; rfl
  |cons x post ih=>
   intro pre n k hp hb hk hn
   obtain⟨n,rfl⟩:∃m,n=m+1:=⟨n - 1,by omega⟩
   rw [List.length_cons] at hb hn
   rw [cnts] at hk
   rw [hL n pre post x k (hp x (List.mem_cons_self ..)) (by omega) (by omega),cnts,mks]
   have:=ih (pre++[mk k x]) n (k+c x) (fun y hy=>hp y (List.mem_cons_of_mem _ hy)) (by rw [List.length_append]; simp; omega) (by omega) (by omega)
   rw [List.append_assoc,List.append_assoc,List.length_append] at this
   simp only [List.cons_append,List.nil_append,List.length_cons,List.length_nil,Nat.zero_add] at this
   rw [this,Nat.add_assoc]
 exact loop l [] fuel k hP (by simpa using hl) hk (by rw [Ah]; unfold Big at hl; omega)
theorem en {α:Type} (L:Nat→List α→Int→Int→Option Int) (mk:Nat→α→α) (c:α→Nat) (P:α→Prop)
  (hL:∀n (pre post:List α) x (k:Nat),P x→k+c x≤KB→pre.length<Big→L (n+1) (pre++mk k x::post) (k:Int) ((List.length pre:Nat):Int)=L n (pre++mk k x::post) ((k+c x:Nat):Int) ((List.length pre+1:Nat):Int))
  (hN:∀n (l:List α) (k:Int),L (n+1) l k ((List.length l:Nat):Int)=some k)
  (l:List α) (k:Nat) (hP:∀x ∈ l,P x) (hl:l.length≤Big) (hk:k+cnts c l≤KB):L fuel (mks mk c k l) (k:Int) 0=some ((k+cnts c l:Nat):Int):=by
 have loop:∀ (post pre:List α) (n k:Nat),(∀x ∈ post,P x)→pre.length+post.length≤Big→k+cnts c post≤KB→post.length<n→L n (pre++mks mk c k post) (k:Int) ((List.length pre:Nat):Int)=some ((k+cnts c post:Nat):Int):=by
  intro post
  induction post with
  |nil=>
   intro pre n k _ _ _ hn
   obtain⟨n,rfl⟩:∃m,n=m+1:=⟨n - 1,by omega⟩
   rw [mks,List.append_nil,hN,cnts]; rfl
  |cons x post ih=>
   intro pre n k hp hb hk hn
   obtain⟨n,rfl⟩:∃m,n=m+1:=⟨n - 1,by omega⟩
   rw [List.length_cons] at hb hn
   rw [cnts] at hk
   rw [mks,hL n pre _ x k (hp x (List.mem_cons_self ..)) (by omega) (by omega),cnts]
   have:=ih (pre++[mk k x]) n (k+c x) (fun y hy=>hp y (List.mem_cons_of_mem _ hy)) (by rw [List.length_append]; simp; omega) (by omega) (by omega)
   rw [List.append_assoc,List.length_append] at this
   simp only [List.cons_append,List.nil_append,List.length_cons,List.length_nil,Nat.zero_add] at this
   rw [this,Nat.add_assoc]
 exact loop l [] fuel k hP (by simpa using hl) hk (by rw [Ah]; unfold Big at hl; omega)
end Go.Proofs.YtckcfdggbbabfaaGreat.Ab
namespace Go.Proofs.YtckcfdggbbabfaaGreat.Ab
set_option linter.unusedVariables false
set_option linter.unusedSimpArgs false
open Go.RowKit
structure Port.Ok (x:Port):Prop where
 agent:(Lit.int IntKind.i64 x.agent).wf =true
 slot:(Lit.int IntKind.i64 x.slot).wf =true
theorem Port.ok_of (x:Port) (h:F9 (Port.ds x)):x.Ok:=by
 rw [Port.ds_eq] at h
 simp only [F9,D.ok,List.length_map] at h
 obtain⟨h1,h2,-⟩:=h
 exact⟨h1,h2⟩
theorem Port.eq_iff (x y:Port):x=y↔x.agent=y.agent∧x.slot=y.slot:=by
 cases x; cases y; simp only [Port.mk.injEq]
theorem XR (l:List Port) (hl:l.length≤9223372036854775807) (h:∀x ∈ l,x.Ok) (left:Nat) (h1:left≤1048576):KP l left=some (szr l.length left):=by
 unfold KP
 exact YB h1 hl fun _=>W8
theorem Zm (x:Port):KQ x=some x:=by
 unfold KQ
 rfl
theorem XS (l:List Port) (hl:l.length≤Big):KR l=some l:=by
 unfold KR
 exact gTo (fun n acc i=>Ew n l acc i) KQ _ l (fun n acc i=>by rw [Ew]) hl (fun x hx=>Zm x)
theorem UQ (x y:Port):DZ (KS x y) (x=y):=by
 unfold KS
 exact DZ.iff (Hd Mv fun _=>Hd Mv fun _=>Nn) (by rw [Port.eq_iff]; simp only [and_true])
theorem Sd (l m:List Port) (hl:l.length≤Big):DZ (KU l m) (l=m):=by
 unfold KU
 exact bR (fun n i=>Ex n l m i) KS l m (fun n i=>by rw [Ex]) hl fun x hx y _=>UQ x y
structure Agent.Ok (x:Agent):Prop where
 kind:(Lit.int IntKind.i64 x.kind).wf =true
 level:(Lit.int IntKind.i64 x.level).wf =true
 value:(Lit.int IntKind.i64 x.value).wf =true
 data:(x.data.length≤9223372036854775807∧∀e ∈ x.data,(Lit.int IntKind.i64 e).wf =true)
 ports:(x.ports.length≤9223372036854775807∧∀e ∈ x.ports,Port.Ok e)
theorem Agent.ok_of (x:Agent) (h:F9 (Agent.ds x)):x.Ok:=by
 rw [Agent.ds_eq] at h
 simp only [F9,D.ok,List.length_map] at h
 obtain⟨h1,h2,h3,h4,h5,-⟩:=h
 exact⟨h1,h2,h3,⟨h4.1,fun e he=>by have:=(I4 h4.2 he); simpa only [AO,F9,D.ok,and_true] using this⟩,⟨h5.1,fun e he=>Port.ok_of e (I4 h5.2 he)⟩⟩
theorem Agent.eq_iff (x y:Agent):x=y↔x.kind=y.kind∧x.level=y.level∧x.value=y.value∧x.data=y.data∧x.ports=y.ports:=by
 cases x; cases y; simp only [Agent.mk.injEq]
def Agent.sz (x:Agent):Nat:=x.data.length+(x.ports.length+0)
theorem XT (x:Agent) (h:x.Ok) (left:Nat) (h1:left≤1048576):Il x left=some (szr x.sz left):=by
 unfold Il Agent.sz
 exact Qq (Vk _ _ (by omega) h.data.1) fun _=>Qq (XR _ h.ports.1 h.ports.2 _ (by omega)) fun _=>W8
theorem WF (l:List Agent) (hl:l.length≤9223372036854775807) (h:∀x ∈ l,x.Ok) (left:Nat) (h1:left≤1048576):JB l left=some (szr (szl Agent.sz l) left):=by
 unfold JB
 exact gSz (fun n p i=>EQ n l p i) Il Agent.sz l (fun n p i=>by rw [EQ]) left h1 (fun x hx k hk=>XT x (h x hx) k hk) hl
theorem XU (x:Agent) (h:x.sz≤Big):Im x=some x:=by
 unfold Im
 rw [Vl _ (by have:=h; simp only [Agent.sz] at this; omega),AA]
 rw [XS _ (by have:=h; simp only [Agent.sz] at this; omega),AA]
 first|done|rfl
theorem WG (l:List Agent) (hl:szl Agent.sz l≤Big):JC l=some l:=by
 unfold JC
 exact gTo (fun n acc i=>ER n l acc i) Im _ l (fun n acc i=>by rw [ER]) (by have:=FL Agent.sz l; omega) (fun x hx=>XU x (by have:=HJ (s:=Agent.sz) hx; omega))
theorem Se (x y:Agent) (h:x.sz≤Big):DZ (In x y) (x=y):=by
 unfold In
 exact DZ.iff (Hd Mv fun _=>Hd Mv fun _=>Hd Mv fun _=>HK (JJ _ _ (by have:=h; simp only [Agent.sz] at this; omega)) fun _=>HK (Sd _ _ (by have:=h; simp only [Agent.sz] at this; omega)) fun _=>Nn) (by rw [Agent.eq_iff]; simp only [and_true])
theorem R5 (l m:List Agent) (hl:szl Agent.sz l≤Big):DZ (JD l m) (l=m):=by
 unfold JD
 exact bR (fun n i=>ES n l m i) In l m (fun n i=>by rw [ES]) (by have:=FL Agent.sz l; omega) fun x hx y _=>Se x y (by have:=HJ (s:=Agent.sz) hx; omega)
structure Net.Ok (x:Net):Prop where
 agents:(x.agents.length≤9223372036854775807∧∀e ∈ x.agents,Agent.Ok e)
theorem Net.ok_of (x:Net) (h:F9 (Net.ds x)):x.Ok:=by
 rw [Net.ds_eq] at h
 simp only [F9,D.ok,List.length_map] at h
 obtain⟨h1,-⟩:=h
 exact⟨⟨h1.1,fun e he=>Agent.ok_of e (I4 h1.2 he)⟩⟩
theorem Net.eq_iff (x y:Net):x=y↔x.agents=y.agents:=by
 cases x; cases y; simp only [Net.mk.injEq]
def Net.sz (x:Net):Nat:=szl Agent.sz x.agents+0
theorem Oj (x:Net) (h:x.Ok) (left:Nat) (h1:left≤1048576):IT x left=some (szr x.sz left):=by
 unfold IT Net.sz
 exact Qq (WF _ h.agents.1 h.agents.2 _ (by omega)) fun _=>W8
theorem Pf (l:List Net) (hl:l.length≤9223372036854775807) (h:∀x ∈ l,x.Ok) (left:Nat) (h1:left≤1048576):I9 l left=some (szr (szl Net.sz l) left):=by
 unfold I9
 exact gSz (fun n p i=>Fe n l p i) IT Net.sz l (fun n p i=>by rw [Fe]) left h1 (fun x hx k hk=>Oj x (h x hx) k hk) hl
theorem Ol (x:Net) (h:x.sz≤Big):C5 x=some x:=by
 unfold C5
 rw [WG _ (by have:=h; simp only [Net.sz] at this; omega),AA]
 first|done|rfl
theorem Pg (l:List Net) (hl:szl Net.sz l≤Big):Ck l=some l:=by
 unfold Ck
 exact gTo (fun n acc i=>Ff n l acc i) C5 _ l (fun n acc i=>by rw [Ff]) (by have:=FL Net.sz l; omega) (fun x hx=>Ol x (by have:=HJ (s:=Net.sz) hx; omega))
theorem Jn (x y:Net) (h:x.sz≤Big):DZ (GM x y) (x=y):=by
 unfold GM
 exact DZ.iff (HK (R5 _ _ (by have:=h; simp only [Net.sz] at this; omega)) fun _=>Nn) (by rw [Net.eq_iff]; simp only [and_true])
theorem LD (l m:List Net) (hl:szl Net.sz l≤Big):DZ (GC l m) (l=m):=by
 unfold GC
 exact bR (fun n i=>Fg n l m i) GM l m (fun n i=>by rw [Fg]) (by have:=FL Net.sz l; omega) fun x hx y _=>Jn x y (by have:=HJ (s:=Net.sz) hx; omega)
end Go.Proofs.YtckcfdggbbabfaaGreat.Ab
namespace Go.Proofs.YtckcfdggbbabfaaGreat.Ab
set_option linter.unusedVariables false
set_option linter.unusedSimpArgs false
open Go.RowKit
theorem FH (l:List Int) (k:Nat) (h:l.length≤Big) (hk:k+cnts one l≤KB):D3 l (k:Int)=some (((k+cnts one l:Nat):Int),mks mkI one k l):=by
 unfold D3
 refine WE (fun n l k i=>CY n l k i) mkI one (fun _=>True) ?_ ?_ l k (fun _ _=>trivial) h hk
 ·intro n pre post x k hx hk hp
  have e:k+one x=k+1:=by rfl
  rw [e] at hk ⊢
  rw [CY,if_pos Nr]
  simp (disch:=omega) only [F4,Oi,AA,wk,JM]
  rfl
 ·intro n l k; rw [CY,if_neg (by rw [Ns]; decide)]
theorem NG (l:List Int) (k:Nat) (h:l.length≤Big) (hk:k+cnts one l≤KB):D4 (mks mkI one k l) (k:Int)=some ((k+cnts one l:Nat):Int):=by
 unfold D4
 refine en (fun n l k i=>CZ n l k i) mkI one (fun _=>True) ?_ ?_ l k (fun _ _=>trivial) h hk
 ·intro n pre post x k hx hk hp
  have e:k+one x=k+1:=by rfl
  rw [e] at hk ⊢
  rw [CZ,if_pos Nr]
  simp (disch:=omega) only [mkI,F4,AA,wk,JM,cE,eq_self,decide_true,Bool.not_true,Bool.false_eq_true,reduceIte]
 ·intro n l k; rw [CZ,if_neg (by rw [Ns]; decide)]
def Port.cnt (x:Port):Nat:=1+1
def Port.mk1 (k:Nat) (x:Port):Port:=⟨mkI (k) x.agent,mkI (k+1) x.slot⟩
def Port.cntV (x:Port):Nat:=0
def Port.mkV (k:Nat) (x:Port):Port:=⟨x.agent,x.slot⟩
theorem Port.cnt_le (x:Port):x.cnt≤2:=by unfold Port.cnt; omega
theorem LE (l:List Port) (k:Nat) (h:l.length≤Big) (hk:k+cnts Port.cnt l≤KB):H5 l (k:Int)=some (((k+cnts Port.cnt l:Nat):Int),mks Port.mk1 Port.cnt k l):=by
 unfold H5
 refine WE (fun n l k i=>C0 n l k i) Port.mk1 Port.cnt (fun _=>True) ?_ ?_ l k (fun _ _=>trivial) h hk
 ·intro n pre post x k hx hk hp
  have e:k+Port.cnt x=k+1+1:=by unfold Port.cnt; omega
  rw [e] at hk ⊢
  rw [C0,if_pos Nr]
  simp (disch:=omega) only [F4,Oi,AA,wk,JM,FH]
  rfl
 ·intro n l k; rw [C0,if_neg (by rw [Ns]; decide)]
def Agent.cnt (x:Agent):Nat:=1+1+1+cnts one x.data+cnts Port.cnt x.ports
def Agent.mk1 (k:Nat) (x:Agent):Agent:=⟨mkI (k) x.kind,mkI (k+1) x.level,mkI (k+1+1) x.value,mks mkI one (k+1+1+1) x.data,mks Port.mk1 Port.cnt (k+1+1+1+cnts one x.data) x.ports⟩
def Agent.cntV (x:Agent):Nat:=cnts one x.data+cnts Port.cnt x.ports
def Agent.mkV (k:Nat) (x:Agent):Agent:=⟨x.kind,x.level,x.value,mks mkI one (k) x.data,mks Port.mk1 Port.cnt (k+cnts one x.data) x.ports⟩
theorem Agent.cnt_le (x:Agent):x.cnt≤3+3*x.sz:=by
 simp only [Agent.cnt,Agent.sz]
 have:=Fu (c:=one) (b:=1) (l:=x.data) (fun x=>Pe)
 have:=Fu (c:=Port.cnt) (b:=2) (l:=x.ports) (fun x=>Port.cnt_le x)
 omega
theorem Agent.cntV_le (x:Agent):x.cntV≤3+3*x.sz:=by
 simp only [Agent.cntV,Agent.sz]
 have:=Fu (c:=one) (b:=1) (l:=x.data) (fun x=>Pe)
 have:=Fu (c:=Port.cnt) (b:=2) (l:=x.ports) (fun x=>Port.cnt_le x)
 omega
theorem NH (l:List Agent) (k:Nat) (h:szl Agent.sz l≤Big) (hk:k+cnts Agent.cnt l≤KB):Fp l (k:Int)=some (((k+cnts Agent.cnt l:Nat):Int),mks Agent.mk1 Agent.cnt k l):=by
 unfold Fp
 refine WE (fun n l k i=>Cf n l k i) Agent.mk1 Agent.cnt (fun x=>x.sz≤Big) ?_ ?_ l k (fun x hx=>by have:=HJ (s:=Agent.sz) hx; omega) (by have:=FL Agent.sz l; omega) hk
 ·intro n pre post x k hx hk hp
  have e:k+Agent.cnt x=k+1+1+1+cnts one x.data+cnts Port.cnt x.ports:=by unfold Agent.cnt; omega
  rw [e] at hk ⊢
  simp only [Agent.sz] at hx
  rw [Cf,if_pos Nr]
  simp (disch:=omega) only [F4,Oi,AA,wk,JM,FH,LE]
  rfl
 ·intro n l k; rw [Cf,if_neg (by rw [Ns]; decide)]
def Net.cnt (x:Net):Nat:=cnts Agent.cnt x.agents
def Net.mk1 (k:Nat) (x:Net):Net:=⟨mks Agent.mk1 Agent.cnt (k) x.agents⟩
def Net.cntV (x:Net):Nat:=cnts Agent.cnt x.agents
def Net.mkV (k:Nat) (x:Net):Net:=⟨mks Agent.mk1 Agent.cnt (k) x.agents⟩
theorem Net.cnt_le (x:Net):x.cnt≤3+3*x.sz:=by
 simp only [Net.cnt,Net.sz]
 have:=IX (c:=Agent.cnt) (s:=Agent.sz) (b:=3) (l:=x.agents) (fun x=>Agent.cnt_le x)
 omega
theorem Net.cntV_le (x:Net):x.cntV≤3+3*x.sz:=by
 simp only [Net.cntV,Net.sz]
 have:=IX (c:=Agent.cnt) (s:=Agent.sz) (b:=3) (l:=x.agents) (fun x=>Agent.cnt_le x)
 omega
theorem R6 (x:Net) (k:Nat) (h:x.sz≤Big) (hk:k+x.cntV≤KB):Gl x (k:Int)=some (((k+x.cntV:Nat):Int),mks Agent.mk1 Agent.cnt (k) x.agents):=by
 have e:k+x.cntV=k+cnts Agent.cnt x.agents:=by unfold Net.cntV; omega
 rw [e] at hk ⊢
 simp only [Net.sz] at h
 unfold Gl
 simp (disch:=omega) only [AA,wk,FH,LE,NH]
theorem QJ (l:List Net) (k:Nat) (h:szl Net.sz l≤Big) (hk:k+cnts Net.cnt l≤KB):Fc l (k:Int)=some (((k+cnts Net.cnt l:Nat):Int),mks Net.mk1 Net.cnt k l):=by
 unfold Fc
 refine WE (fun n l k i=>DY n l k i) Net.mk1 Net.cnt (fun x=>x.sz≤Big) ?_ ?_ l k (fun x hx=>by have:=HJ (s:=Net.sz) hx; omega) (by have:=FL Net.sz l; omega) hk
 ·intro n pre post x k hx hk hp
  have e:k+Net.cnt x=k+cnts Agent.cnt x.agents:=by unfold Net.cnt; omega
  rw [e] at hk ⊢
  simp only [Net.sz] at hx
  rw [DY,if_pos Nr]
  simp (disch:=omega) only [F4,Oi,AA,wk,JM,FH,LE,NH]
  rfl
 ·intro n l k; rw [DY,if_neg (by rw [Ns]; decide)]
end Go.Proofs.YtckcfdggbbabfaaGreat.Ab
