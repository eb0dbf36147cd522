/-
  Results that are marked and found marked again: the loops, each once. No program is in sight.
-/
import Derived.Test.YteckcjgpnegkjaaGreatDoorPlNet
import Derived.Test.YteckcjgpnegkjaaGreatDoorModU
import Derived.Test.YteckcjgpnegkjaaGreatDoorAbZ
namespace Go.Proofs.YteckcjgpnegkjaaGreatDoor.Ab
set_option linter.unusedVariables false
set_option linter.unusedSimpArgs false
open Go.RowKit
section
variable {α:Type} {pre post:List α} {x y:α}
theorem KW:at? (pre++x::post) (pre.length:Int)=some x:=BI rfl
end
theorem qV {k}:decide (((k:Nat):Int)<0)=false:=by simp
def fe {α:Type} (c:α→Nat):List α→Nat
 | [] =>0
 |x::l=>c x+fe c l
def one {α:Type}:α→Nat:=fun _=>1
set_option maxHeartbeats 1000000
structure Port.Ok (x:Port):Prop where
 agent:(Lit.int IntKind.i64 x.agent).wf =true
 slot:(Lit.int IntKind.i64 x.slot).wf =true
theorem Port.ok_of (x:Port) (h:Iv (Port.ds x)):x.Ok:=by
 rw [Port.ds_eq] at h
 simp only [Iv,D.ok,List.length_map] at h
 obtain⟨h1,h2,-⟩:=h
 exact⟨h1,h2⟩
theorem Port.eq_iff (x y:Port):x=y↔x.agent=y.agent∧x.slot=y.slot:=by
 cases x; cases y; grind
theorem XS (l:List Port) (hl:l.length≤9223372036854775807) (h:∀x ∈ l,x.Ok) (left:Nat) (h1:left≤1048576):Jl l left=some (szr l.length left):=by
 unfold Jl
 exact YF h1 hl fun _=>W8
theorem Zw (x:Port):LT x=some x:=by
 rfl
theorem XT (l:List Port) (hl:l.length≤Big):Jm l=some l:=by
 unfold Jm
 exact gTo (fun n acc i=>ET n l acc i) LT _ l (fun n acc i=>by rw [ET]) hl (fun x hx=>Zw x)
theorem Ts (x y:Port):DW (Jn x y) (x=y):=by
 unfold Jn
 exact DW.iff (Gs MG fun _=>Gs MG fun _=>NG) (by rw [Port.eq_iff]; grind)
theorem Rv (l m:List Port) (hl:l.length≤Big):DW (Jo l m) (l=m):=by
 unfold Jo
 exact fH (fun n i=>EU n l m i) Jn l m (fun n i=>by rw [EU]) hl fun x hx y _=>Ts x y
structure Agent.Ok (x:Agent):Prop where
 kind:(Lit.int IntKind.i64 x.kind).wf =true
 level:(Lit.int IntKind.i64 x.level).wf =true
 value:(Lit.int IntKind.i64 x.value).wf =true
 data:(x.data.length≤9223372036854775807∧∀e ∈ x.data,(Lit.int IntKind.i64 e).wf =true)
 ports:(x.ports.length≤9223372036854775807∧∀e ∈ x.ports,Port.Ok e)
theorem Agent.ok_of (x:Agent) (h:Iv (Agent.ds x)):x.Ok:=by
 rw [Agent.ds_eq] at h
 simp only [Iv,D.ok,List.length_map] at h
 obtain⟨h1,h2,h3,h4,h5,-⟩:=h
 exact⟨h1,h2,h3,⟨h4.1,fun e he=>by grind [LM,AS,Iv,D.ok]⟩,⟨h5.1,fun e he=>Port.ok_of e (LM h5.2 he)⟩⟩
theorem Agent.eq_iff (x y:Agent):x=y↔x.kind=y.kind∧x.level=y.level∧x.value=y.value∧x.data=y.data∧x.ports=y.ports:=by
 cases x; cases y; grind
def Agent.sz (x:Agent):Nat:=x.data.length+(x.ports.length+0)
theorem XU (x:Agent) (h:x.Ok) (left:Nat) (h1:left≤1048576):H7 x left=some (szr x.sz left):=by
 unfold H7 Agent.sz
 exact P8 (VP _ _ (by omega) h.data.1) fun _=>P8 (XS _ h.ports.1 h.ports.2 _ (by omega)) fun _=>W8
theorem Vq (l:List Agent) (hl:l.length≤9223372036854775807) (h:∀x ∈ l,x.Ok) (left:Nat) (h1:left≤1048576):IZ l left=some (szr (szl Agent.sz l) left):=by
 unfold IZ
 exact gSz (fun n p i=>Dv n l p i) H7 Agent.sz l (fun n p i=>by rw [Dv]) left h1 (fun x hx k hk=>XU x (h x hx) k hk) hl
theorem XV (x:Agent) (h:x.sz≤Big):H8 x=some x:=by
 unfold H8
 rw [VQ _ (by grind [Agent.sz]),AA]
 rw [XT _ (by grind [Agent.sz]),AA]
 first|done|rfl
theorem Vr (l:List Agent) (hl:szl Agent.sz l≤Big):Ia l=some l:=by
 unfold Ia
 exact gTo (fun n acc i=>Dw n l acc i) H8 _ l (fun n acc i=>by rw [Dw]) (by grind [Ho]) (fun x hx=>XV x (by grind [I9]))
theorem Rw (x y:Agent) (h:x.sz≤Big):DW (H9 x y) (x=y):=by
 unfold H9
 exact DW.iff (Gs MG fun _=>Gs MG fun _=>Gs MG fun _=>GW (Q9 _ _ (by grind [Agent.sz])) fun _=>GW (Rv _ _ (by grind [Agent.sz])) fun _=>NG) (by rw [Agent.eq_iff]; grind)
theorem RH (l m:List Agent) (hl:szl Agent.sz l≤Big):DW (Ib l m) (l=m):=by
 unfold Ib
 exact fH (fun n i=>Dx n l m i) H9 l m (fun n i=>by rw [Dx]) (by grind [Ho]) fun x hx y _=>Rw x y (by grind [I9])
structure Net.Ok (x:Net):Prop where
 agents:(x.agents.length≤9223372036854775807∧∀e ∈ x.agents,Agent.Ok e)
theorem Net.ok_of (x:Net) (h:Iv (Net.ds x)):x.Ok:=by
 rw [Net.ds_eq] at h
 simp only [Iv,D.ok,List.length_map] at h
 obtain⟨h1,-⟩:=h
 exact⟨⟨h1.1,fun e he=>Agent.ok_of e (LM h1.2 he)⟩⟩
theorem Net.eq_iff (x y:Net):x=y↔x.agents=y.agents:=by
 cases x; cases y; grind
def Net.sz (x:Net):Nat:=szl Agent.sz x.agents+0
theorem Vs (x:Net) (h:x.Ok) (left:Nat) (h1:left≤1048576):KN x left=some (szr x.sz left):=by
 unfold KN Net.sz
 exact P8 (Vq _ h.agents.1 h.agents.2 _ (by omega)) fun _=>W8
theorem Zx (l:List Net) (hl:l.length≤9223372036854775807) (h:∀x ∈ l,x.Ok) (left:Nat) (h1:left≤1048576):LS l left=some (szr (szl Net.sz l) left):=by
 unfold LS
 exact gSz (fun n p i=>FC n l p i) KN Net.sz l (fun n p i=>by rw [FC]) left h1 (fun x hx k hk=>Vs x (h x hx) k hk) hl
theorem Vt (x:Net) (h:x.sz≤Big):G2 x=some x:=by
 simp_all [G2,Vr,Net.sz]
theorem Zy (l:List Net) (hl:szl Net.sz l≤Big):HL l=some l:=by
 unfold HL
 exact gTo (fun n acc i=>FD n l acc i) G2 _ l (fun n acc i=>by rw [FD]) (by grind [Ho]) (fun x hx=>Vt x (by grind [I9]))
theorem Pb (x y:Net) (h:x.sz≤Big):DW (I7 x y) (x=y):=by
 grind [I7,GW,RH,Net.sz,NG,Net.eq_iff]
theorem Tt (l m:List Net) (hl:szl Net.sz l≤Big):DW (Jj l m) (l=m):=by
 unfold Jj
 exact fH (fun n i=>FE n l m i) I7 l m (fun n i=>by rw [FE]) (by grind [Ho]) fun x hx y _=>Pb x y (by grind [I9])
def Port.cnt (x:Port):Nat:=1+1
def Agent.cnt (x:Agent):Nat:=1+1+1+fe one x.data+fe Port.cnt x.ports
def Net.cnt (x:Net):Nat:=fe Agent.cnt x.agents
end Go.Proofs.YteckcjgpnegkjaaGreatDoor.Ab
