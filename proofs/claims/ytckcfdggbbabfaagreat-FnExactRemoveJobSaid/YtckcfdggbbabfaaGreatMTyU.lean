/-
  Data of the program as Lean types; how they lie in memory. Printed by wip/ab/gen.py.
-/
import Derived.Test.YtckcfdggbbabfaaGreatAbY
import Derived.Test.YtckcfdggbbabfaaGreatMod
namespace Go.Proofs.YtckcfdggbbabfaaGreat.Ab
set_option linter.unusedVariables false
set_option linter.unusedSimpArgs false
set_option maxRecDepth 20000
set_option maxHeartbeats 4000000
open Go.RowKit
structure Port where
 agent : Int
 slot : Int
def Port.ds (c : Port) : List D := [.int .i64 c.agent, .int .i64 c.slot]
theorem Port.ds_eq (c : Port) : c.ds = [.int .i64 c.agent, .int .i64 c.slot] := rfl
@[go_sem] def Port.avs (c : Port) : List AV := [.int .i64 c.agent, .int .i64 c.slot]
@[go_sem] def Port.rv (c : Port) : List RV := [.int .i64 c.agent, .int .i64 c.slot]
@[go_sem] def Port.rvn (c : Port) : List RV := [.int .i64 c.agent, .int .i64 c.slot]
attribute [go_sem] Port.ds_eq
theorem Port.ds_len (c : Port) : c.ds.length = 2 := by rw [Port.ds_eq]; rfl
structure Agent where
 kind : Int
 level : Int
 value : Int
 data : List Int
 ports : List Port
def Agent.ds (c : Agent) : List D := [.int .i64 c.kind, .int .i64 c.level, .int .i64 c.value, .sl (List.map i64D c.data), .sl (List.map Port.ds c.ports)]
theorem Agent.ds_eq (c : Agent) : c.ds = [.int .i64 c.kind, .int .i64 c.level, .int .i64 c.value, .sl (List.map i64D c.data), .sl (List.map Port.ds c.ports)] := rfl
@[go_sem] def Agent.avs (c : Agent) : List AV := [.int .i64 c.kind, .int .i64 c.level, .int .i64 c.value, .ro (List.map i64D c.data), .ro (List.map Port.ds c.ports)]
@[go_sem] def Agent.rv (c : Agent) : List RV := [.int .i64 c.kind, .int .i64 c.level, .int .i64 c.value, .ow (some 1) (List.map i64D c.data), .ow (some 2) (List.map Port.ds c.ports)]
@[go_sem] def Agent.rvn (c : Agent) : List RV := [.int .i64 c.kind, .int .i64 c.level, .int .i64 c.value, .ow none (List.map i64D c.data), .ow none (List.map Port.ds c.ports)]
attribute [go_sem] Agent.ds_eq
theorem Agent.ds_len (c : Agent) : c.ds.length = 5 := by rw [Agent.ds_eq]; rfl
def Agent.dz (c : Agent) : List D := [.int .i64 c.kind, .int .i64 c.level, .int .i64 c.value, .fz (List.map i64D c.data), .fz (List.map Port.ds c.ports)]
@[go_sem] theorem Agent.dz_eq (c : Agent) : c.dz = [.int .i64 c.kind, .int .i64 c.level, .int .i64 c.value, .fz (List.map i64D c.data), .fz (List.map Port.ds c.ports)] := rfl
theorem Agent.dz_len (c : Agent) : c.dz.length = 5 := rfl
theorem Agent.dz_fz (c : Agent) : fzC c.ds = c.dz := by rw [Agent.ds_eq]; rfl
theorem Agent.dz_ng (c : Agent) : ∀ d ∈ c.ds, d ≠ .gone := by rw [Agent.ds_eq]; exact noGone rfl
@[go_sem] theorem Agent.dz_er (l : List Agent) : erR (List.map Agent.dz l) = List.map Agent.ds l := erR_map (fun c => by rw [Agent.ds_eq]; simp only [Agent.dz, erC, er]) l
structure Net where
 agents : List Agent
def Net.ds (c : Net) : List D := [.sl (List.map Agent.ds c.agents)]
theorem Net.ds_eq (c : Net) : c.ds = [.sl (List.map Agent.ds c.agents)] := rfl
@[go_sem] def Net.avs (c : Net) : List AV := [.ro (List.map Agent.ds c.agents)]
@[go_sem] def Net.rv (c : Net) : List RV := [.ow (some 5) (List.map Agent.ds c.agents)]
@[go_sem] def Net.rvn (c : Net) : List RV := [.ow none (List.map Agent.ds c.agents)]
attribute [go_sem] Net.ds_eq
theorem Net.ds_len (c : Net) : c.ds.length = 1 := by rw [Net.ds_eq]; rfl
def Net.dz (c : Net) : List D := [.fz (List.map Agent.ds c.agents)]
@[go_sem] theorem Net.dz_eq (c : Net) : c.dz = [.fz (List.map Agent.ds c.agents)] := rfl
theorem Net.dz_len (c : Net) : c.dz.length = 1 := rfl
theorem Net.dz_fz (c : Net) : fzC c.ds = c.dz := by rw [Net.ds_eq]; rfl
theorem Net.dz_ng (c : Net) : ∀ d ∈ c.ds, d ≠ .gone := by rw [Net.ds_eq]; exact noGone rfl
@[go_sem] theorem Net.dz_er (l : List Net) : erR (List.map Net.dz l) = List.map Net.ds l := erR_map (fun c => by rw [Net.ds_eq]; simp only [Net.dz, erC, er]) l
structure Job where
 id : Int
 weight : Int
 state : Int
 code : Int
 left : Int
 slices : Int
 counts : List Int
 schedule : List Int
 book : List Net
 net : Net
def Job.ds (c : Job) : List D := [.int .i64 c.id, .int .i64 c.weight, .int .i64 c.state, .int .i64 c.code, .int .i64 c.left, .int .i64 c.slices, .sl (List.map i64D c.counts), .sl (List.map i64D c.schedule), .sl (List.map Net.ds c.book), .sl (List.map Agent.ds c.net.agents)]
theorem Job.ds_eq (c : Job) : c.ds = [.int .i64 c.id, .int .i64 c.weight, .int .i64 c.state, .int .i64 c.code, .int .i64 c.left, .int .i64 c.slices, .sl (List.map i64D c.counts), .sl (List.map i64D c.schedule), .sl (List.map Net.ds c.book), .sl (List.map Agent.ds c.net.agents)] := rfl
@[go_sem] def Job.avs (c : Job) : List AV := [.int .i64 c.id, .int .i64 c.weight, .int .i64 c.state, .int .i64 c.code, .int .i64 c.left, .int .i64 c.slices, .ro (List.map i64D c.counts), .ro (List.map i64D c.schedule), .ro (List.map Net.ds c.book), .ro (List.map Agent.ds c.net.agents)]
@[go_sem] def Job.rv (c : Job) : List RV := [.int .i64 c.id, .int .i64 c.weight, .int .i64 c.state, .int .i64 c.code, .int .i64 c.left, .int .i64 c.slices, .ow (some 1) (List.map i64D c.counts), .ow (some 1) (List.map i64D c.schedule), .ow (some 1) (List.map Net.ds c.book), .ow (some 5) (List.map Agent.ds c.net.agents)]
@[go_sem] def Job.rvn (c : Job) : List RV := [.int .i64 c.id, .int .i64 c.weight, .int .i64 c.state, .int .i64 c.code, .int .i64 c.left, .int .i64 c.slices, .ow none (List.map i64D c.counts), .ow none (List.map i64D c.schedule), .ow none (List.map Net.ds c.book), .ow none (List.map Agent.ds c.net.agents)]
attribute [go_sem] Job.ds_eq
theorem Job.ds_len (c : Job) : c.ds.length = 10 := by rw [Job.ds_eq]; rfl
def Job.dz (c : Job) : List D := [.int .i64 c.id, .int .i64 c.weight, .int .i64 c.state, .int .i64 c.code, .int .i64 c.left, .int .i64 c.slices, .fz (List.map i64D c.counts), .fz (List.map i64D c.schedule), .fz (List.map Net.ds c.book), .fz (List.map Agent.ds c.net.agents)]
@[go_sem] theorem Job.dz_eq (c : Job) : c.dz = [.int .i64 c.id, .int .i64 c.weight, .int .i64 c.state, .int .i64 c.code, .int .i64 c.left, .int .i64 c.slices, .fz (List.map i64D c.counts), .fz (List.map i64D c.schedule), .fz (List.map Net.ds c.book), .fz (List.map Agent.ds c.net.agents)] := rfl
theorem Job.dz_len (c : Job) : c.dz.length = 10 := rfl
theorem Job.dz_fz (c : Job) : fzC c.ds = c.dz := by rw [Job.ds_eq]; rfl
theorem Job.dz_ng (c : Job) : ∀ d ∈ c.ds, d ≠ .gone := by rw [Job.ds_eq]; exact noGone rfl
@[go_sem] theorem Job.dz_er (l : List Job) : erR (List.map Job.dz l) = List.map Job.ds l := erR_map (fun c => by rw [Job.ds_eq]; simp only [Job.dz, erC, er]) l
structure Queue where
 quantum : Int
 nextId : Int
 turn : Int
 jobs : List Job
def Queue.ds (c : Queue) : List D := [.int .i64 c.quantum, .int .i64 c.nextId, .int .i64 c.turn, .sl (List.map Job.ds c.jobs)]
theorem Queue.ds_eq (c : Queue) : c.ds = [.int .i64 c.quantum, .int .i64 c.nextId, .int .i64 c.turn, .sl (List.map Job.ds c.jobs)] := rfl
@[go_sem] def Queue.avs (c : Queue) : List AV := [.int .i64 c.quantum, .int .i64 c.nextId, .int .i64 c.turn, .ro (List.map Job.ds c.jobs)]
@[go_sem] def Queue.rv (c : Queue) : List RV := [.int .i64 c.quantum, .int .i64 c.nextId, .int .i64 c.turn, .ow (some 10) (List.map Job.ds c.jobs)]
@[go_sem] def Queue.rvn (c : Queue) : List RV := [.int .i64 c.quantum, .int .i64 c.nextId, .int .i64 c.turn, .ow none (List.map Job.ds c.jobs)]
attribute [go_sem] Queue.ds_eq
theorem Queue.ds_len (c : Queue) : c.ds.length = 4 := by rw [Queue.ds_eq]; rfl
def Queue.dz (c : Queue) : List D := [.int .i64 c.quantum, .int .i64 c.nextId, .int .i64 c.turn, .fz (List.map Job.ds c.jobs)]
@[go_sem] theorem Queue.dz_eq (c : Queue) : c.dz = [.int .i64 c.quantum, .int .i64 c.nextId, .int .i64 c.turn, .fz (List.map Job.ds c.jobs)] := rfl
theorem Queue.dz_len (c : Queue) : c.dz.length = 4 := rfl
theorem Queue.dz_fz (c : Queue) : fzC c.ds = c.dz := by rw [Queue.ds_eq]; rfl
theorem Queue.dz_ng (c : Queue) : ∀ d ∈ c.ds, d ≠ .gone := by rw [Queue.ds_eq]; exact noGone rfl
@[go_sem] theorem Queue.dz_er (l : List Queue) : erR (List.map Queue.dz l) = List.map Queue.ds l := erR_map (fun c => by rw [Queue.ds_eq]; simp only [Queue.dz, erC, er]) l
end Go.Proofs.YtckcfdggbbabfaaGreat.Ab
