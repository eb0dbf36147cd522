/-
  Models of the functions. Printed by wip/ab/gen.py.
-/
import Derived.Test.YtlmanchbpommaaaGreatModJ
namespace Go.Proofs.YtlmanchbpommaaaGreat.Ab
set_option linter.unusedVariables false
set_option linter.unusedSimpArgs false
set_option maxRecDepth 20000
set_option maxHeartbeats 4000000
open Go.RowKit

def s_l34Own_l2 : Nat → Queue → (List Job) → Int → Option (Queue)
  | 0, _, _, _ => none
  | n + 1, a0, p1_0, p1_1 => (if (decide (p1_1 < ((List.length a0.jobs : Nat) : Int))) = true then (Option.bind (at? a0.jobs p1_1) fun v6007 => (Option.bind (s_l34OwnJob v6007) fun v6008 => (Option.bind (app? p1_0 [v6008]) fun v6010 => (s_l34Own_l2 n a0 v6010 (IntKind.i64.wrap (p1_1 + 1)))))) else (some (⟨a0.quantum, a0.nextId, a0.turn, p1_0⟩ : Queue)))
def s_l34Own (a0 : Queue) : Option (Queue) :=
  (s_l34Own_l2 fuel a0 [] 0)
def s_l34End (a0 : List Job) (a0i : Int) (a1 : Int) (a2 : Int) (a3 : Net) : Option ((List Job)) :=
  (Option.bind (at? a0 a0i) fun v2004_1 => (Option.bind (set1? a0 a0i (⟨v2004_1.id, v2004_1.weight, a1, v2004_1.code, v2004_1.left, v2004_1.slices, v2004_1.counts, v2004_1.schedule, v2004_1.book, v2004_1.net⟩ : Job)) fun v2004_2 => (Option.bind (at? v2004_2 a0i) fun v3004_3 => (Option.bind (set1? v2004_2 a0i (⟨v3004_3.id, v3004_3.weight, v3004_3.state, a2, v3004_3.left, v3004_3.slices, v3004_3.counts, v3004_3.schedule, v3004_3.book, v3004_3.net⟩ : Job)) fun v3004_4 => (Option.bind (at? v3004_4 a0i) fun v4003_5 => (Option.bind (set1? v3004_4 a0i (⟨v4003_5.id, v4003_5.weight, v4003_5.state, v4003_5.code, v4003_5.left, v4003_5.slices, v4003_5.counts, [], v4003_5.book, v4003_5.net⟩ : Job)) fun v4003_6 => (Option.bind (at? v4003_6 a0i) fun v5003_7 => (Option.bind (set1? v4003_6 a0i (⟨v5003_7.id, v5003_7.weight, v5003_7.state, v5003_7.code, v5003_7.left, v5003_7.slices, v5003_7.counts, v5003_7.schedule, [], v5003_7.net⟩ : Job)) fun v5003_8 => (Option.bind (at? v5003_8 a0i) fun v6004_9 => (Option.bind (set1? v5003_8 a0i (⟨v6004_9.id, v6004_9.weight, v6004_9.state, v6004_9.code, v6004_9.left, v6004_9.slices, v6004_9.counts, v6004_9.schedule, v6004_9.book, a3⟩ : Job)) fun v6004_10 => (some v6004_10)))))))))))
def s_CancelJob_j2 (a0 : Queue) (v2001 : Int × Int) (p1_0 : Int) : Option (Queue × Int) :=
  (if (!decide (p1_0 = 0)) = true then (some ((⟨0, 0, 0, []⟩ : Queue), p1_0)) else (Option.bind (s_l34Own a0) fun v7000 => (Option.bind (at? v7000.jobs v2001.1) fun v8003 => (Option.bind (s_l34End v7000.jobs v2001.1 4 0 (⟨[]⟩ : Net)) fun v8005 => (some ((⟨v7000.quantum, v7000.nextId, v7000.turn, v8005⟩ : Queue), 0))))))
def s_CancelJob_j1 (a0 : Queue) (v2001 : Int × Int) (p0_0 : Bool) : Option (Queue × Int) :=
  (if p0_0 = true then (s_CancelJob_j2 a0 v2001 5) else (s_CancelJob_j2 a0 v2001 v2001.2))
def s_CancelJob (a0 : Queue) (a1 : Int) : Option (Queue × Int) :=
  (Option.bind (s_l34Asked a0 a1) fun v2001 => (if (decide (v2001.2 = 0)) = true then (Option.bind (at? a0.jobs v2001.1) fun v3006 => (s_CancelJob_j1 a0 v2001 (!decide (v3006.state = 1)))) else (s_CancelJob_j1 a0 v2001 false)))
def i_copyQueue_l2 : Nat → Queue → (List Job) → Int → Option (Queue)
  | 0, _, _, _ => none
  | n + 1, a0, p1_0, p1_1 => (if (decide (p1_1 < ((List.length a0.jobs : Nat) : Int))) = true then (Option.bind (at? a0.jobs p1_1) fun v6000 => (Option.bind (i_copyJob v6000) fun v7003 => (Option.bind (app? p1_0 [v7003]) fun v7005 => (i_copyQueue_l2 n a0 v7005 (IntKind.i64.wrap (p1_1 + 1)))))) else (some (⟨a0.quantum, a0.nextId, a0.turn, p1_0⟩ : Queue)))
def i_copyQueue (a0 : Queue) : Option (Queue) :=
  (i_copyQueue_l2 fuel a0 [] 0)
def i_Job_end (a0 : List Job) (a0i : Int) (a1 : Int) (a2 : Int) (a3 : Net) : Option ((List Job)) :=
  (Option.bind (at? a0 a0i) fun v2010_1 => (Option.bind (set1? a0 a0i (⟨v2010_1.id, v2010_1.weight, a1, v2010_1.code, v2010_1.left, v2010_1.slices, v2010_1.counts, v2010_1.schedule, v2010_1.book, v2010_1.net⟩ : Job)) fun v2010_2 => (Option.bind (at? v2010_2 a0i) fun v2013_3 => (Option.bind (set1? v2010_2 a0i (⟨v2013_3.id, v2013_3.weight, v2013_3.state, a2, v2013_3.left, v2013_3.slices, v2013_3.counts, v2013_3.schedule, v2013_3.book, v2013_3.net⟩ : Job)) fun v2013_4 => (Option.bind (at? v2013_4 a0i) fun v2016_5 => (Option.bind (set1? v2013_4 a0i (⟨v2016_5.id, v2016_5.weight, v2016_5.state, v2016_5.code, v2016_5.left, v2016_5.slices, v2016_5.counts, [], v2016_5.book, v2016_5.net⟩ : Job)) fun v2016_6 => (Option.bind (at? v2016_6 a0i) fun v2019_7 => (Option.bind (set1? v2016_6 a0i (⟨v2019_7.id, v2019_7.weight, v2019_7.state, v2019_7.code, v2019_7.left, v2019_7.slices, v2019_7.counts, v2019_7.schedule, [], v2019_7.net⟩ : Job)) fun v2019_8 => (Option.bind (at? v2019_8 a0i) fun v2022_9 => (Option.bind (set1? v2019_8 a0i (⟨v2022_9.id, v2022_9.weight, v2022_9.state, v2022_9.code, v2022_9.left, v2022_9.slices, v2022_9.counts, v2022_9.schedule, v2022_9.book, a3⟩ : Job)) fun v2022_10 => (some v2022_10)))))))))))
def i_CancelJob (a0 : Queue) (a1 : Int) : Option (Queue × Int) :=
  (Option.bind (i_Queue_found a0 a1) fun v2001 => (if (!decide (v2001.2 = 0)) = true then (some ((⟨0, 0, 0, []⟩ : Queue), v2001.2)) else (Option.bind (at? a0.jobs v2001.1) fun v5003 => (if (!decide (v5003.state = 1)) = true then (some ((⟨0, 0, 0, []⟩ : Queue), 5)) else (Option.bind (i_copyQueue a0) fun v7001 => (Option.bind (at? v7001.jobs v2001.1) fun v8003 => (Option.bind (i_Job_end v7001.jobs v2001.1 4 0 (⟨[]⟩ : Net)) fun v8005 => (some ((⟨v7001.quantum, v7001.nextId, v7001.turn, v8005⟩ : Queue), 0)))))))))
def l_FnExactCancelJob_j3 (v8002 : Queue × Int) (v18002 : Int × (List Job)) (p2_0 : Bool) : Option (Bool) :=
  (if p2_0 = true then (some false) else (Option.bind (l_heldQueue (⟨v8002.1.quantum, v8002.1.nextId, v8002.1.turn, v18002.2⟩ : Queue) 1) fun v29002 => (if (decide (v29002 < 0)) = true then (some false) else (if (!decide (v29002 = v18002.1)) = true then (some false) else (some true)))))
def l_FnExactCancelJob_j2 (a0 : Queue) (a1 : Int) (v6003 : Queue × Int) (v8002 : Queue × Int) (p1_0 : Bool) : Option (Bool) :=
  (if p1_0 = true then (some false) else (Option.bind (l_markQueue v8002.1 1) fun v18002 => (Option.bind (l_heldQueue (⟨v8002.1.quantum, v8002.1.nextId, v8002.1.turn, v18002.2⟩ : Queue) 1) fun v20002 => (if (decide (v20002 < 0)) = true then (some false) else (if (!decide (v20002 = v18002.1)) = true then (some false) else (Option.bind (l_toQueue a0) fun v25001 => (Option.bind (i_CancelJob v25001 a1) fun v25003 => (Option.bind (l_eqQueue v25003.1 v6003.1) fun v26002 => (if (!v26002) = true then (l_FnExactCancelJob_j3 v8002 v18002 true) else (l_FnExactCancelJob_j3 v8002 v18002 (!decide (v25003.2 = v6003.2))))))))))))
def l_FnExactCancelJob_j1 (a0 : Queue) (a1 : Int) (v6003 : Queue × Int) (v7001 : Queue) (v8002 : Queue × Int) (p0_0 : Bool) : Option (Bool) :=
  (if p0_0 = true then (some false) else (Option.bind (l_toQueue a0) fun v11002 => (Option.bind (l_eqQueue v7001 v11002) fun v11003 => (if (!v11003) = true then (some false) else (Option.bind (l_markQueue v7001 1) fun v14002 => (if (decide (v14002.1 < 0)) = true then (l_FnExactCancelJob_j2 a0 a1 v6003 v8002 true) else (Option.bind (l_eqQueue v8002.1 v6003.1) fun v15005 => (if (!v15005) = true then (l_FnExactCancelJob_j2 a0 a1 v6003 v8002 true) else (l_FnExactCancelJob_j2 a0 a1 v6003 v8002 (!decide (v8002.2 = v6003.2)))))))))))
def l_FnExactCancelJob (a0 : Queue) (a1 : Int) : Option (Bool) :=
  (Option.bind (l_szQueue a0 1048576) fun v3002 => (if (decide (v3002 < 0)) = true then (some true) else (Option.bind (l_toQueue a0) fun v6001 => (Option.bind (s_CancelJob v6001 a1) fun v6003 => (Option.bind (l_toQueue a0) fun v7001 => (Option.bind (i_CancelJob v7001 a1) fun v8002 => (Option.bind (l_eqQueue v8002.1 v6003.1) fun v9002 => (if (!v9002) = true then (l_FnExactCancelJob_j1 a0 a1 v6003 v7001 v8002 true) else (l_FnExactCancelJob_j1 a0 a1 v6003 v7001 v8002 (!decide (v8002.2 = v6003.2)))))))))))
end Go.Proofs.YtlmanchbpommaaaGreat.Ab
