/-
  Results that are marked and found marked again: the loops, each once. No program is in sight.
-/
import Derived.Test.YtckcfdggbbabfaaGreatPlNet
import Derived.Test.YtckcfdggbbabfaaGreatModU
import Derived.Test.YtckcfdggbbabfaaGreatAbZ
namespace Go.Proofs.YtckcfdggbbabfaaGreat.Ab
set_option linter.unusedVariables false
set_option linter.unusedSimpArgs false
open Go.RowKit
section
variable {α:Type} {pre post:List α} {x y:α}
theorem Jt:at? (pre++x::post) ((List.length pre:Nat):Int)=some x:=Bf rfl
end
abbrev KB:Nat:=4611686018427387904
theorem wk {k:Nat} (h:k+1≤KB):IntKind.i64.wrap ((k:Int)+1)=((k+1:Nat):Int):=by
 unfold KB at h
 rw [w64 (by omega) (by omega)]
 omega
theorem j5 {k:Nat}:decide (((k:Nat):Int)<0)=false:=by simp
def bU {α:Type} (c:α→Nat):List α→Nat
 | [] =>0
 |x::l=>c x+bU c l
def one {α:Type}:α→Nat:=fun _=>1
end Go.Proofs.YtckcfdggbbabfaaGreat.Ab
namespace Go.Proofs.YtckcfdggbbabfaaGreat.Ab
set_option linter.unusedVariables false
set_option linter.unusedSimpArgs false
open Go.RowKit
structure Port.Ok (x:Port):Prop where
 agent:(Lit.int IntKind.i64 x.agent).wf =true
 slot:(Lit.int IntKind.i64 x.slot).wf =true
theorem Port.ok_of (x:Port) (h:IL (Port.ds x)):x.Ok:=by
 rw [Port.ds_eq] at h
 simp only [IL,D.ok,List.length_map] at h
 obtain⟨h1,h2,-⟩:=h
 exact⟨h1,h2⟩
theorem Port.eq_iff (x y:Port):x=y↔x.agent=y.agent∧x.slot=y.slot:=by
 cases x; cases y; simp only [Port.mk.injEq]
theorem VS (l:List Port) (hl:l.length≤9223372036854775807) (h:∀x ∈ l,x.Ok) (left:Nat) (h1:left≤1048576):I6 l left=some (szr l.length left):=by
 unfold I6
 exact WA h1 hl fun _=>U8
theorem Xm (x:Port):I7 x=some x:=by
 unfold I7
 rfl
theorem VT (l:List Port) (hl:l.length≤Big):I8 l=some l:=by
 unfold I8
 exact gTo (fun n acc i=>EB n l acc i) I7 _ l (fun n acc i=>by rw [EB]) hl (fun x hx=>Xm x)
theorem SK (x y:Port):DI (I9 x y) (x=y):=by
 unfold I9
 exact DI.iff (GV LX fun _=>GV LX fun _=>ML) (by rw [Port.eq_iff]; simp only [and_true])
theorem Qe (l m:List Port) (hl:l.length≤Big):DI (JA l m) (l=m):=by
 unfold JA
 exact a8 (fun n i=>EC n l m i) I9 l m (fun n i=>by rw [EC]) hl fun x hx y _=>SK x y
structure Agent.Ok (x:Agent):Prop where
 kind:(Lit.int IntKind.i64 x.kind).wf =true
 level:(Lit.int IntKind.i64 x.level).wf =true
 value:(Lit.int IntKind.i64 x.value).wf =true
 data:(x.data.length≤9223372036854775807∧∀e ∈ x.data,(Lit.int IntKind.i64 e).wf =true)
 ports:(x.ports.length≤9223372036854775807∧∀e ∈ x.ports,Port.Ok e)
theorem Agent.ok_of (x:Agent) (h:IL (Agent.ds x)):x.Ok:=by
 rw [Agent.ds_eq] at h
 simp only [IL,D.ok,List.length_map] at h
 obtain⟨h1,h2,h3,h4,h5,-⟩:=h
 exact⟨h1,h2,h3,⟨h4.1,fun e he=>by have:=(Kk h4.2 he); simpa only [AY,IL,D.ok,and_true] using this⟩,⟨h5.1,fun e he=>Port.ok_of e (Kk h5.2 he)⟩⟩
theorem Agent.eq_iff (x y:Agent):x=y↔x.kind=y.kind∧x.level=y.level∧x.value=y.value∧x.data=y.data∧x.ports=y.ports:=by
 cases x; cases y; simp only [Agent.mk.injEq]
def Agent.sz (x:Agent):Nat:=x.data.length+(x.ports.length+0)
theorem VU (x:Agent) (h:x.Ok) (left:Nat) (h1:left≤1048576):Hf x left=some (szr x.sz left):=by
 unfold Hf Agent.sz
 exact Om (Tk _ _ (by omega) h.data.1) fun _=>Om (VS _ h.ports.1 h.ports.2 _ (by omega)) fun _=>U8
theorem UB (l:List Agent) (hl:l.length≤9223372036854775807) (h:∀x ∈ l,x.Ok) (left:Nat) (h1:left≤1048576):H1 l left=some (szr (szl Agent.sz l) left):=by
 unfold H1
 exact gSz (fun n p i=>Dm n l p i) Hf Agent.sz l (fun n p i=>by rw [Dm]) left h1 (fun x hx k hk=>VU x (h x hx) k hk) hl
theorem VV (x:Agent) (h:x.sz≤Big):Hg x=some x:=by
 unfold Hg
 rw [Tl _ (by have:=h; simp only [Agent.sz] at this; omega),AA]
 rw [VT _ (by have:=h; simp only [Agent.sz] at this; omega),AA]
 first|done|rfl
theorem UC (l:List Agent) (hl:szl Agent.sz l≤Big):H2 l=some l:=by
 unfold H2
 exact gTo (fun n acc i=>Dn n l acc i) Hg _ l (fun n acc i=>by rw [Dn]) (by have:=HP Agent.sz l; omega) (fun x hx=>VV x (by have:=IZ (s:=Agent.sz) hx; omega))
theorem Qf (x y:Agent) (h:x.sz≤Big):DI (Hh x y) (x=y):=by
 unfold Hh
 exact DI.iff (GV LX fun _=>GV LX fun _=>GV LX fun _=>GD (Pp _ _ (by have:=h; simp only [Agent.sz] at this; omega)) fun _=>GD (Qe _ _ (by have:=h; simp only [Agent.sz] at this; omega)) fun _=>ML) (by rw [Agent.eq_iff]; simp only [and_true])
theorem P4 (l m:List Agent) (hl:szl Agent.sz l≤Big):DI (H3 l m) (l=m):=by
 unfold H3
 exact a8 (fun n i=>Do n l m i) Hh l m (fun n i=>by rw [Do]) (by have:=HP Agent.sz l; omega) fun x hx y _=>Qf x y (by have:=IZ (s:=Agent.sz) hx; omega)
structure Net.Ok (x:Net):Prop where
 agents:(x.agents.length≤9223372036854775807∧∀e ∈ x.agents,Agent.Ok e)
theorem Net.ok_of (x:Net) (h:IL (Net.ds x)):x.Ok:=by
 rw [Net.ds_eq] at h
 simp only [IL,D.ok,List.length_map] at h
 obtain⟨h1,-⟩:=h
 exact⟨⟨h1.1,fun e he=>Agent.ok_of e (Kk h1.2 he)⟩⟩
theorem Net.eq_iff (x y:Net):x=y↔x.agents=y.agents:=by
 cases x; cases y; simp only [Net.mk.injEq]
def Net.sz (x:Net):Nat:=szl Agent.sz x.agents+0
theorem UD (x:Net) (h:x.Ok) (left:Nat) (h1:left≤1048576):Jk x left=some (szr x.sz left):=by
 unfold Jk Net.sz
 exact Om (UB _ h.agents.1 h.agents.2 _ (by omega)) fun _=>U8
theorem Xn (l:List Net) (hl:l.length≤9223372036854775807) (h:∀x ∈ l,x.Ok) (left:Nat) (h1:left≤1048576):Kp l left=some (szr (szl Net.sz l) left):=by
 unfold Kp
 exact gSz (fun n p i=>Er n l p i) Jk Net.sz l (fun n p i=>by rw [Er]) left h1 (fun x hx k hk=>UD x (h x hx) k hk) hl
theorem UE (x:Net) (h:x.sz≤Big):Gg x=some x:=by
 unfold Gg
 rw [UC _ (by have:=h; simp only [Net.sz] at this; omega),AA]
 first|done|rfl
theorem Xo (l:List Net) (hl:szl Net.sz l≤Big):G2 l=some l:=by
 unfold G2
 exact gTo (fun n acc i=>Es n l acc i) Gg _ l (fun n acc i=>by rw [Es]) (by have:=HP Net.sz l; omega) (fun x hx=>UE x (by have:=IZ (s:=Net.sz) hx; omega))
theorem OI (x y:Net) (h:x.sz≤Big):DI (IY x y) (x=y):=by
 unfold IY
 exact DI.iff (GD (P4 _ _ (by have:=h; simp only [Net.sz] at this; omega)) fun _=>ML) (by rw [Net.eq_iff]; simp only [and_true])
theorem SL (l m:List Net) (hl:szl Net.sz l≤Big):DI (JB l m) (l=m):=by
 unfold JB
 exact a8 (fun n i=>Et n l m i) IY l m (fun n i=>by rw [Et]) (by have:=HP Net.sz l; omega) fun x hx y _=>OI x y (by have:=IZ (s:=Net.sz) hx; omega)
end Go.Proofs.YtckcfdggbbabfaaGreat.Ab
namespace Go.Proofs.YtckcfdggbbabfaaGreat.Ab
set_option linter.unusedVariables false
set_option linter.unusedSimpArgs false
open Go.RowKit
def Port.cnt (x:Port):Nat:=1+1
def Agent.cnt (x:Agent):Nat:=1+1+1+bU one x.data+bU Port.cnt x.ports
def Net.cnt (x:Net):Nat:=bU Agent.cnt x.agents
end Go.Proofs.YtckcfdggbbabfaaGreat.Ab
