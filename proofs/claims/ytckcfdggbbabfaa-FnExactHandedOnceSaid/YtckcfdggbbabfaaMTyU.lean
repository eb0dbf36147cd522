/-
  Data of the program as Lean types; how they lie in memory. Printed by wip/ab/gen.py.
-/
import Derived.Test.YtckcfdggbbabfaaAbY
import Derived.Test.YtckcfdggbbabfaaMod
namespace Go.Proofs.Ytckcfdggbbabfaa.Ab
set_option linter.unusedVariables false
set_option linter.unusedSimpArgs false
set_option maxRecDepth 20000
set_option maxHeartbeats 4000000
open Go.RowKit

structure DequeActor where
  todo : List Int
  pc : Int
  t : Int
  b : Int
  x : Int
def DequeActor.ds (c : DequeActor) : List D := [.sl (List.map i64D c.todo), .int .i64 c.pc, .int .i64 c.t, .int .i64 c.b, .int .i64 c.x]
theorem DequeActor.ds_eq (c : DequeActor) : c.ds = [.sl (List.map i64D c.todo), .int .i64 c.pc, .int .i64 c.t, .int .i64 c.b, .int .i64 c.x] := rfl
@[go_sem] def DequeActor.avs (c : DequeActor) : List AV := [.ro (List.map i64D c.todo), .int .i64 c.pc, .int .i64 c.t, .int .i64 c.b, .int .i64 c.x]
@[go_sem] def DequeActor.rv (c : DequeActor) : List RV := [.ow (some 1) (List.map i64D c.todo), .int .i64 c.pc, .int .i64 c.t, .int .i64 c.b, .int .i64 c.x]
@[go_sem] def DequeActor.rvn (c : DequeActor) : List RV := [.ow none (List.map i64D c.todo), .int .i64 c.pc, .int .i64 c.t, .int .i64 c.b, .int .i64 c.x]
attribute [go_sem] DequeActor.ds_eq
theorem DequeActor.ds_len (c : DequeActor) : c.ds.length = 5 := by rw [DequeActor.ds_eq]; rfl
structure Handed where
  actor : Int
  value : Int
def Handed.ds (c : Handed) : List D := [.int .i64 c.actor, .int .i64 c.value]
theorem Handed.ds_eq (c : Handed) : c.ds = [.int .i64 c.actor, .int .i64 c.value] := rfl
@[go_sem] def Handed.avs (c : Handed) : List AV := [.int .i64 c.actor, .int .i64 c.value]
@[go_sem] def Handed.rv (c : Handed) : List RV := [.int .i64 c.actor, .int .i64 c.value]
@[go_sem] def Handed.rvn (c : Handed) : List RV := [.int .i64 c.actor, .int .i64 c.value]
attribute [go_sem] Handed.ds_eq
theorem Handed.ds_len (c : Handed) : c.ds.length = 2 := by rw [Handed.ds_eq]; rfl
structure Deque where
  top : Int
  bottom : Int
  buffer : List Int
  actors : List DequeActor
  taken : List Handed
  refused : List Int
def Deque.ds (c : Deque) : List D := [.int .i64 c.top, .int .i64 c.bottom, .sl (List.map i64D c.buffer), .sl (List.map DequeActor.ds c.actors), .sl (List.map Handed.ds c.taken), .sl (List.map i64D c.refused)]
theorem Deque.ds_eq (c : Deque) : c.ds = [.int .i64 c.top, .int .i64 c.bottom, .sl (List.map i64D c.buffer), .sl (List.map DequeActor.ds c.actors), .sl (List.map Handed.ds c.taken), .sl (List.map i64D c.refused)] := rfl
@[go_sem] def Deque.avs (c : Deque) : List AV := [.int .i64 c.top, .int .i64 c.bottom, .ro (List.map i64D c.buffer), .ro (List.map DequeActor.ds c.actors), .ro (List.map Handed.ds c.taken), .ro (List.map i64D c.refused)]
@[go_sem] def Deque.rv (c : Deque) : List RV := [.int .i64 c.top, .int .i64 c.bottom, .ow (some 1) (List.map i64D c.buffer), .ow (some 5) (List.map DequeActor.ds c.actors), .ow (some 2) (List.map Handed.ds c.taken), .ow (some 1) (List.map i64D c.refused)]
@[go_sem] def Deque.rvn (c : Deque) : List RV := [.int .i64 c.top, .int .i64 c.bottom, .ow none (List.map i64D c.buffer), .ow none (List.map DequeActor.ds c.actors), .ow none (List.map Handed.ds c.taken), .ow none (List.map i64D c.refused)]
attribute [go_sem] Deque.ds_eq
theorem Deque.ds_len (c : Deque) : c.ds.length = 6 := by rw [Deque.ds_eq]; rfl
end Go.Proofs.Ytckcfdggbbabfaa.Ab
