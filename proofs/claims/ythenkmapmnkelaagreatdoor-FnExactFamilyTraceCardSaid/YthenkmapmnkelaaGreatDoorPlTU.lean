/- Results that are marked and found marked again. -/
import Derived.Test.YthenkmapmnkelaaGreatDoorPlNet
import Derived.Test.YthenkmapmnkelaaGreatDoorModU
import Derived.Test.YthenkmapmnkelaaGreatDoorAbZ
namespace Go.Proofs.YthenkmapmnkelaaGreatDoor.Ab
set_option linter.unusedVariables false
set_option maxHeartbeats 1000000
set_option linter.unusedSimpArgs false
open Go.RowKit
section
variable {α:Type} {pre post:List α} {x y:α}
theorem Hb:at? (pre++x::post) (pre.length:Int)=some x:=BZ rfl
theorem UQ:decide ((pre.length:Int)<((List.length (pre++x::post):Nat):Int))=true:=Cb rfl
theorem S4:Br (pre++x::post) (pre.length:Int) y=some (pre++y::post):=by
 simp [Br,aV]
theorem NC (h:pre.length<Big):IntKind.i64.wrap ((pre.length:Int)+1)=((List.length pre+1:Nat):Int):=by
 grind [w64]
theorem UR {l:List α}:decide ((l.length:Int)<(l.length:Int))=false:=by simp
end
abbrev KB:Nat:=4611686018427387904
theorem wk {k} (h:k+1≤KB):IntKind.i64.wrap ((k:Int)+1)=((k+1:Nat):Int):=by
 grind [w64]
theorem rm {k}:decide (((k:Nat):Int)<0)=false:=by simp
def cnts {α:Type} (c:α→Nat):List α→Nat
 | [] =>0
 |x::l=>c x+cnts c l
def mks {α:Type} (mk:Nat→α→α) (c:α→Nat):Nat→List α→List α
 |_,[] =>[]
 |k,x::l=>mk k x::mks mk c (k+c x) l
theorem Nd {α:Type} {c s:α→Nat} {b:Nat}:∀ {l:List α},(∀x,c x≤b+b*s x)→cnts c l≤b*szl s l
 | [],_=>by simp [cnts]
 |x::l,h=>by
  rw [cnts,szl,Nat.mul_add,Nat.mul_add]
  have:=h x
  have:=Nd (l:=l) h
  omega
theorem Gv {α:Type} {c:α→Nat} {b:Nat}:∀ {l:List α},(∀x,c x≤b)→cnts c l≤b*l.length
 | [],_=>by simp [cnts]
 |x::l,h=>by
  rw [cnts,List.length_cons,Nat.mul_add]
  have:=h x
  have:=Gv (l:=l) h
  omega
def one {α:Type}:α→Nat:=fun _=>1
def mkI:Nat→Int→Int:=fun k _=>(k:Int)
theorem UE {α:Type} {x:α}:one x≤1:=Nat.le_refl 1
theorem c9 {α:Type} (L:Nat→List α→Int→Int→Option (Int × List α)) (mk:Nat→α→α) (c:α→Nat) (P:α→Prop)
  (hL:∀n (pre post:List α) x (k:Nat),P x→k+c x≤KB→pre.length<Big→L (n+1) (pre++x::post) (k:Int) (pre.length:Int)=L n (pre++mk k x::post) ((k+c x:Nat):Int) ((List.length pre+1:Nat):Int))
  (hN:∀n (l:List α) (k:Int),L (n+1) l k (l.length:Int)=some (k,l))
  (l:List α) (k:Nat) (hP:∀x ∈ l,P x) (hl:l.length≤Big) (hk:k+cnts c l≤KB):L fuel l (k:Int) 0=some (((k+cnts c l:Nat):Int),mks mk c k l):=by
 have loop:∀ (post pre:List α) (n k:Nat),(∀x ∈ post,P x)→pre.length+post.length≤Big→k+cnts c post≤KB→post.length<n→L n (pre++post) (k:Int) (pre.length:Int)=some (((k+cnts c post:Nat):Int),pre++mks mk c k post):=by
  intro post
  induction post with
  |nil=>
   intro pre n k _ _ _ j
   obtain⟨n,rfl⟩:∃m,n=m+1:=⟨n - 1,by omega⟩
   rw [List.append_nil,hN,cnts,mks,List.append_nil]; rfl
  |cons x post ih=>
   intro pre n k hp p hk j
   obtain⟨n,rfl⟩:∃m,n=m+1:=⟨n - 1,by omega⟩
   rw [List.length_cons] at p j
   rw [cnts] at hk
   rw [hL n pre post x k (hp x (List.mem_cons_self ..)) (by omega) (by omega),cnts,mks]
   have:=ih (pre++[mk k x]) n (k+c x) (fun y hy=>hp y (List.mem_cons_of_mem _ hy)) (by rw [List.length_append]; grind) (by omega) (by omega)
   rw [List.append_assoc,List.append_assoc,List.length_append] at this
   simp only [List.cons_append,List.nil_append,List.length_cons,List.length_nil,Nat.zero_add] at this
   rw [this,Nat.add_assoc]
 exact loop l [] fuel k hP (by grind) hk (by rw [AY]; grind)
theorem sJ {α:Type} (L:Nat→List α→Int→Int→Option Int) (mk:Nat→α→α) (c:α→Nat) (P:α→Prop)
  (hL:∀n (pre post:List α) x (k:Nat),P x→k+c x≤KB→pre.length<Big→L (n+1) (pre++mk k x::post) (k:Int) (pre.length:Int)=L n (pre++mk k x::post) ((k+c x:Nat):Int) ((List.length pre+1:Nat):Int))
  (hN:∀n (l:List α) (k:Int),L (n+1) l k (l.length:Int)=some k)
  (l:List α) (k:Nat) (hP:∀x ∈ l,P x) (hl:l.length≤Big) (hk:k+cnts c l≤KB):L fuel (mks mk c k l) (k:Int) 0=some ((k+cnts c l:Nat):Int):=by
 have loop:∀ (post pre:List α) (n k:Nat),(∀x ∈ post,P x)→pre.length+post.length≤Big→k+cnts c post≤KB→post.length<n→L n (pre++mks mk c k post) (k:Int) (pre.length:Int)=some ((k+cnts c post:Nat):Int):=by
  intro post
  induction post with
  |nil=>
   intro pre n k _ _ _ j
   obtain⟨n,rfl⟩:∃m,n=m+1:=⟨n - 1,by omega⟩
   rw [mks,List.append_nil,hN,cnts]; rfl
  |cons x post ih=>
   intro pre n k hp p hk j
   obtain⟨n,rfl⟩:∃m,n=m+1:=⟨n - 1,by omega⟩
   rw [List.length_cons] at p j
   rw [cnts] at hk
   rw [mks,hL n pre _ x k (hp x (List.mem_cons_self ..)) (by omega) (by omega),cnts]
   have:=ih (pre++[mk k x]) n (k+c x) (fun y hy=>hp y (List.mem_cons_of_mem _ hy)) (by rw [List.length_append]; grind) (by omega) (by omega)
   rw [List.append_assoc,List.length_append] at this
   simp only [List.cons_append,List.nil_append,List.length_cons,List.length_nil,Nat.zero_add] at this
   rw [this,Nat.add_assoc]
 exact loop l [] fuel k hP (by grind) hk (by rw [AY]; grind)
structure Port.Ok (x:Port):Prop where
 agent:(Lit.int IntKind.i64 x.agent).wf =true
 slot:(Lit.int IntKind.i64 x.slot).wf =true
theorem Port.ok_of (x:Port) (h:JL (Port.ds x)):x.Ok:=by
 rw [Port.ds_eq] at h
 simp only [JL,D.ok,List.length_map] at h
 obtain⟨h1,h2,-⟩:=h
 exact⟨h1,h2⟩
theorem Port.eq_iff (x y:Port):x=y↔x.agent=y.agent∧x.slot=y.slot:=by
 cases x; cases y; simp only [Port.mk.injEq]
theorem bF (l:List Port) (hl:l.length≤9223372036854775807) (h:∀x ∈ l,x.Ok) (left:Nat) (h1:left≤1048576):Kt l left=some (szr l.length left):=by
 unfold Kt
 exact cn h1 hl fun _=>ar
theorem fR (x:Port):Ku x=some x:=by
 unfold Ku
 rfl
theorem bG (l:List Port) (hl:l.length≤Big):Kv l=some l:=by
 unfold Kv
 exact gTo (fun n acc i=>FI n l acc i) Ku _ l (fun n acc i=>by rw [FI]) hl (fun x hx=>fR x)
theorem XQ (x y:Port):C1 (Kw x y) (x=y):=by
 unfold Kw
 exact C1.iff (Gz J5 fun _=>Gz J5 fun _=>Of) (by rw [Port.eq_iff]; simp only [and_true])
theorem U8 (l m:List Port) (hl:l.length≤Big):C1 (Kx l m) (l=m):=by
 unfold Kx
 exact em (fun n i=>FJ n l m i) Kw l m (fun n i=>by rw [FJ]) hl fun x hx y _=>XQ x y
structure Agent.Ok (x:Agent):Prop where
 kind:(Lit.int IntKind.i64 x.kind).wf =true
 level:(Lit.int IntKind.i64 x.level).wf =true
 value:(Lit.int IntKind.i64 x.value).wf =true
 data:(x.data.length≤9223372036854775807∧∀e ∈ x.data,(Lit.int IntKind.i64 e).wf =true)
 ports:(x.ports.length≤9223372036854775807∧∀e ∈ x.ports,Port.Ok e)
theorem Agent.ok_of (x:Agent) (h:JL (Agent.ds x)):x.Ok:=by
 rw [Agent.ds_eq] at h
 simp only [JL,D.ok,List.length_map] at h
 obtain⟨h1,h2,h3,p,q,-⟩:=h
 exact⟨h1,h2,h3,⟨p.1,fun e j=>by have:=(Mk p.2 j); simpa only [AD,JL,D.ok,and_true] using this⟩,⟨q.1,fun e j=>Port.ok_of e (Mk q.2 j)⟩⟩
theorem Agent.eq_iff (x y:Agent):x=y↔x.kind=y.kind∧x.level=y.level∧x.value=y.value∧x.data=y.data∧x.ports=y.ports:=by
 cases x; cases y; simp only [Agent.mk.injEq]
def Agent.sz (x:Agent):Nat:=x.data.length+(x.ports.length+0)
theorem bH (x:Agent) (h:x.Ok) (left:Nat) (h1:left≤1048576):Iz x left=some (szr x.sz left):=by
 unfold Iz Agent.sz
 exact S3 (Y9 _ _ (by omega) h.data.1) fun _=>S3 (bF _ h.ports.1 h.ports.2 _ (by omega)) fun _=>ar
theorem ZU (l:List Agent) (hl:l.length≤9223372036854775807) (h:∀x ∈ l,x.Ok) (left:Nat) (h1:left≤1048576):JT l left=some (szr (szl Agent.sz l) left):=by
 unfold JT
 exact gSz (fun n p i=>Eh n l p i) Iz Agent.sz l (fun n p i=>by rw [Eh]) left h1 (fun x hx k hk=>bH x (h x hx) k hk) hl
theorem bI (x:Agent) (h:x.sz≤Big):I0 x=some x:=by
 unfold I0
 rw [R2 _ (by have:=h; simp only [Agent.sz] at this; omega),AA]
 rw [bG _ (by have:=h; simp only [Agent.sz] at this; omega),AA]
 first|done|rfl
theorem ZV (l:List Agent) (hl:szl Agent.sz l≤Big):JU l=some l:=by
 unfold JU
 exact gTo (fun n acc i=>Ei n l acc i) I0 _ l (fun n acc i=>by rw [Ei]) (by have:=G9 Agent.sz l; omega) (fun x hx=>bI x (by have:=H3 (s:=Agent.sz) hx; omega))
theorem U9 (x y:Agent) (h:x.sz≤Big):C1 (I1 x y) (x=y):=by
 unfold I1
 exact C1.iff (Gz J5 fun _=>Gz J5 fun _=>Gz J5 fun _=>Hc (JO _ _ (by have:=h; simp only [Agent.sz] at this; omega)) fun _=>Hc (U8 _ _ (by have:=h; simp only [Agent.sz] at this; omega)) fun _=>Of) (by rw [Agent.eq_iff]; simp only [and_true])
theorem US (l m:List Agent) (hl:szl Agent.sz l≤Big):C1 (JV l m) (l=m):=by
 unfold JV
 exact em (fun n i=>Ej n l m i) I1 l m (fun n i=>by rw [Ej]) (by have:=G9 Agent.sz l; omega) fun x hx y _=>U9 x y (by have:=H3 (s:=Agent.sz) hx; omega)
structure Net.Ok (x:Net):Prop where
 agents:(x.agents.length≤9223372036854775807∧∀e ∈ x.agents,Agent.Ok e)
theorem Net.ok_of (x:Net) (h:JL (Net.ds x)):x.Ok:=by
 rw [Net.ds_eq] at h
 simp only [JL,D.ok,List.length_map] at h
 obtain⟨h1,-⟩:=h
 exact⟨⟨h1.1,fun e j=>Agent.ok_of e (Mk h1.2 j)⟩⟩
theorem Net.eq_iff (x y:Net):x=y↔x.agents=y.agents:=by
 cases x; cases y; simp only [Net.mk.injEq]
def Net.sz (x:Net):Nat:=szl Agent.sz x.agents+0
theorem Yt (x:Net) (h:x.Ok) (left:Nat) (h1:left≤1048576):Ld x left=some (szr x.sz left):=by
 unfold Ld Net.sz
 exact S3 (ZU _ h.agents.1 h.agents.2 _ (by omega)) fun _=>ar
theorem ee (l:List Net) (hl:l.length≤9223372036854775807) (h:∀x ∈ l,x.Ok) (left:Nat) (h1:left≤1048576):Mu l left=some (szr (szl Net.sz l) left):=by
 unfold Mu
 exact gSz (fun n p i=>F9 n l p i) Ld Net.sz l (fun n p i=>by rw [F9]) left h1 (fun x hx k hk=>Yt x (h x hx) k hk) hl
theorem Yu (x:Net) (h:x.sz≤Big):HC x=some x:=by
 unfold HC
 rw [ZV _ (by have:=h; simp only [Net.sz] at this; omega),AA]
 first|done|rfl
theorem ef (l:List Net) (hl:szl Net.sz l≤Big):HA l=some l:=by
 unfold HA
 exact gTo (fun n acc i=>GA n l acc i) HC _ l (fun n acc i=>by rw [GA]) (by have:=G9 Net.sz l; omega) (fun x hx=>Yu x (by have:=H3 (s:=Net.sz) hx; omega))
theorem R1 (x y:Net) (h:x.sz≤Big):C1 (J2 x y) (x=y):=by
 unfold J2
 exact C1.iff (Hc (US _ _ (by have:=h; simp only [Net.sz] at this; omega)) fun _=>Of) (by rw [Net.eq_iff]; simp only [and_true])
theorem W3 (l m:List Net) (hl:szl Net.sz l≤Big):C1 (Kj l m) (l=m):=by
 unfold Kj
 exact em (fun n i=>GB n l m i) J2 l m (fun n i=>by rw [GB]) (by have:=G9 Net.sz l; omega) fun x hx y _=>R1 x y (by have:=H3 (s:=Net.sz) hx; omega)
theorem Fh (l:List Int) (k:Nat) (h:l.length≤Big) (hk:k+cnts one l≤KB):Da l (k:Int)=some (((k+cnts one l:Nat):Int),mks mkI one k l):=by
 unfold Da
 refine c9 (fun n l k i=>Cf n l k i) mkI one (fun _=>True) ?_ ?_ l k (fun _ _=>trivial) h hk
 ·intro n pre post x k hx hk hp
  have e:k+one x=k+1:=by rfl
  rw [e] at hk ⊢
  rw [Cf,if_pos UQ]
  simp (maxSteps:=2000000) (disch:=omega) only [Hb,S4,AA,wk,NC]
  rfl
 ·intro n l k; rw [Cf,if_neg (by rw [UR]; decide)]
theorem U2 (l:List Int) (k:Nat) (h:l.length≤Big) (hk:k+cnts one l≤KB):FC (mks mkI one k l) (k:Int)=some ((k+cnts one l:Nat):Int):=by
 unfold FC
 refine sJ (fun n l k i=>Cg n l k i) mkI one (fun _=>True) ?_ ?_ l k (fun _ _=>trivial) h hk
 ·intro n pre post x k hx hk hp
  have e:k+one x=k+1:=by rfl
  rw [e] at hk ⊢
  rw [Cg,if_pos UQ]
  simp (maxSteps:=2000000) (disch:=omega) only [mkI,Hb,AA,wk,NC,rm,eq_self,decide_true,Bool.not_true,Bool.false_eq_true,reduceIte]
 ·intro n l k; rw [Cg,if_neg (by rw [UR]; decide)]
def Port.cnt (x:Port):Nat:=1+1
def Port.mk1 (k:Nat) (x:Port):Port:=⟨mkI (k) x.agent,mkI (k+1) x.slot⟩
def Port.cntV (x:Port):Nat:=0
def Port.mkV (k:Nat) (x:Port):Port:=⟨x.agent,x.slot⟩
theorem Port.cnt_le (x:Port):x.cnt≤2:=by unfold Port.cnt; omega
theorem Ll (l:List Port) (k:Nat) (h:l.length≤Big) (hk:k+cnts Port.cnt l≤KB):IP l (k:Int)=some (((k+cnts Port.cnt l:Nat):Int),mks Port.mk1 Port.cnt k l):=by
 unfold IP
 refine c9 (fun n l k i=>DG n l k i) Port.mk1 Port.cnt (fun _=>True) ?_ ?_ l k (fun _ _=>trivial) h hk
 ·intro n pre post x k hx hk hp
  have e:k+Port.cnt x=k+1+1:=by unfold Port.cnt; omega
  rw [e] at hk ⊢
  rw [DG,if_pos UQ]
  simp (maxSteps:=2000000) (disch:=omega) only [Hb,S4,AA,wk,NC,Fh]
  rfl
 ·intro n l k; rw [DG,if_neg (by rw [UR]; decide)]
def Agent.cnt (x:Agent):Nat:=1+1+1+cnts one x.data+cnts Port.cnt x.ports
def Agent.mk1 (k:Nat) (x:Agent):Agent:=⟨mkI (k) x.kind,mkI (k+1) x.level,mkI (k+1+1) x.value,mks mkI one (k+1+1+1) x.data,mks Port.mk1 Port.cnt (k+1+1+1+cnts one x.data) x.ports⟩
def Agent.cntV (x:Agent):Nat:=cnts one x.data+cnts Port.cnt x.ports
def Agent.mkV (k:Nat) (x:Agent):Agent:=⟨x.kind,x.level,x.value,mks mkI one (k) x.data,mks Port.mk1 Port.cnt (k+cnts one x.data) x.ports⟩
theorem Agent.cnt_le (x:Agent):x.cnt≤3+3*x.sz:=by
 simp only [Agent.cnt,Agent.sz]
 have:=Gv (c:=one) (b:=1) (l:=x.data) (fun x=>UE)
 have:=Gv (c:=Port.cnt) (b:=2) (l:=x.ports) (fun x=>Port.cnt_le x)
 omega
theorem Agent.cntV_le (x:Agent):x.cntV≤3+3*x.sz:=by
 simp only [Agent.cntV,Agent.sz]
 have:=Gv (c:=one) (b:=1) (l:=x.data) (fun x=>UE)
 have:=Gv (c:=Port.cnt) (b:=2) (l:=x.ports) (fun x=>Port.cnt_le x)
 omega
theorem N8 (l:List Agent) (k:Nat) (h:szl Agent.sz l≤Big) (hk:k+cnts Agent.cnt l≤KB):GK l (k:Int)=some (((k+cnts Agent.cnt l:Nat):Int),mks Agent.mk1 Agent.cnt k l):=by
 unfold GK
 refine c9 (fun n l k i=>Ck n l k i) Agent.mk1 Agent.cnt (fun x=>x.sz≤Big) ?_ ?_ l k (fun x hx=>by have:=H3 (s:=Agent.sz) hx; omega) (by have:=G9 Agent.sz l; omega) hk
 ·intro n pre post x k hx hk hp
  have e:k+Agent.cnt x=k+1+1+1+cnts one x.data+cnts Port.cnt x.ports:=by unfold Agent.cnt; omega
  rw [e] at hk ⊢
  simp only [Agent.sz] at hx
  rw [Ck,if_pos UQ]
  simp (maxSteps:=2000000) (disch:=omega) only [Hb,S4,AA,wk,NC,Fh,Ll]
  rfl
 ·intro n l k; rw [Ck,if_neg (by rw [UR]; decide)]
def Net.cnt (x:Net):Nat:=cnts Agent.cnt x.agents
def Net.mk1 (k:Nat) (x:Net):Net:=⟨mks Agent.mk1 Agent.cnt (k) x.agents⟩
def Net.cntV (x:Net):Nat:=cnts Agent.cnt x.agents
def Net.mkV (k:Nat) (x:Net):Net:=⟨mks Agent.mk1 Agent.cnt (k) x.agents⟩
theorem Net.cnt_le (x:Net):x.cnt≤3+3*x.sz:=by
 simp only [Net.cnt,Net.sz]
 have:=Nd (c:=Agent.cnt) (s:=Agent.sz) (b:=3) (l:=x.agents) (fun x=>Agent.cnt_le x)
 omega
theorem Net.cntV_le (x:Net):x.cntV≤3+3*x.sz:=by
 simp only [Net.cntV,Net.sz]
 have:=Nd (c:=Agent.cnt) (s:=Agent.sz) (b:=3) (l:=x.agents) (fun x=>Agent.cnt_le x)
 omega
theorem aY (x:Net) (k:Nat) (h:x.sz≤Big) (hk:k+x.cntV≤KB):It x (k:Int)=some (((k+x.cntV:Nat):Int),mks Agent.mk1 Agent.cnt (k) x.agents):=by
 have e:k+x.cntV=k+cnts Agent.cnt x.agents:=by unfold Net.cntV; omega
 rw [e] at hk ⊢
 simp only [Net.sz] at h
 unfold It
 simp (maxSteps:=2000000) (disch:=omega) only [AA,wk,Fh,Ll,N8]
theorem Yv (l:List Net) (k:Nat) (h:szl Net.sz l≤Big) (hk:k+cnts Net.cnt l≤KB):Hu l (k:Int)=some (((k+cnts Net.cnt l:Nat):Int),mks Net.mk1 Net.cnt k l):=by
 unfold Hu
 refine c9 (fun n l k i=>Do n l k i) Net.mk1 Net.cnt (fun x=>x.sz≤Big) ?_ ?_ l k (fun x hx=>by have:=H3 (s:=Net.sz) hx; omega) (by have:=G9 Net.sz l; omega) hk
 ·intro n pre post x k hx hk hp
  have e:k+Net.cnt x=k+cnts Agent.cnt x.agents:=by unfold Net.cnt; omega
  rw [e] at hk ⊢
  simp only [Net.sz] at hx
  rw [Do,if_pos UQ]
  simp (maxSteps:=2000000) (disch:=omega) only [Hb,S4,AA,wk,NC,Fh,Ll,N8]
  rfl
 ·intro n l k; rw [Do,if_neg (by rw [UR]; decide)]
end Go.Proofs.YthenkmapmnkelaaGreatDoor.Ab
