/-
  Models of the functions. Printed by wip/ab/gen.py.
-/
import Derived.Test.YtckcfdggbbabfaaGreatManD
import Derived.Test.YtckcfdggbbabfaaGreatModJ
namespace Go.Proofs.YtckcfdggbbabfaaGreat.Ab
set_option linter.unusedVariables false
set_option linter.unusedSimpArgs false
set_option maxRecDepth 20000
set_option maxHeartbeats 4000000
open Go.RowKit
def s_RemoveJob_j3 (v7000 : Queue) (v8011 : List Job) (p2_0 : Int) : Option (Queue × Int) :=
 (if (decide (((List.length v8011 : Nat) : Int) ≤ p2_0)) = true then (some ((⟨v7000.quantum, v7000.nextId, 0, v8011⟩ : Queue), 0)) else (some ((⟨v7000.quantum, v7000.nextId, p2_0, v8011⟩ : Queue), 0)))
def s_RemoveJob_j2 (a0 : Queue) (v2001 : Int × Int) (p1_0 : Int) : Option (Queue × Int) :=
 (if (!decide (p1_0 = 0)) = true then (some ((⟨0, 0, 0, []⟩ : Queue), p1_0)) else (Option.bind (s_l34Own a0) fun v7000 => (Option.bind (cutL v7000.jobs 0 v2001.1) fun v8004 => (Option.bind (app? [] v8004) fun v8005 => (Option.bind (cutL v7000.jobs (IntKind.i64.wrap (v2001.1 + 1)) ((List.length v7000.jobs : Nat) : Int)) fun v8010 => (Option.bind (app? v8005 v8010) fun v8011 => (if (decide (v2001.1 < v7000.turn)) = true then (s_RemoveJob_j3 v7000 v8011 (IntKind.i64.wrap (v7000.turn - 1))) else (s_RemoveJob_j3 v7000 v8011 v7000.turn))))))))
def s_RemoveJob_j1 (a0 : Queue) (v2001 : Int × Int) (p0_0 : Bool) : Option (Queue × Int) :=
 (if p0_0 = true then (s_RemoveJob_j2 a0 v2001 5) else (s_RemoveJob_j2 a0 v2001 v2001.2))
def s_RemoveJob (a0 : Queue) (a1 : Int) : Option (Queue × Int) :=
 (Option.bind (s_l34Asked a0 a1) fun v2001 => (if (decide (v2001.2 = 0)) = true then (Option.bind (at? a0.jobs v2001.1) fun v3006 => (s_RemoveJob_j1 a0 v2001 (decide (v3006.state = 1)))) else (s_RemoveJob_j1 a0 v2001 false)))
def i_RemoveJob_j2 (v7001 : Queue) (v8005 : (List Job)) (p1_0 : Int) : Option (Queue × Int) :=
 (Option.bind (i_copyQueue (⟨v7001.quantum, v7001.nextId, p1_0, v8005⟩ : Queue)) fun v13001 => (some (v13001, 0)))
def i_RemoveJob_j1 (v7001 : Queue) (v8005 : (List Job)) (p0_0 : Int) : Option (Queue × Int) :=
 (if (decide (((List.length v8005 : Nat) : Int) ≤ p0_0)) = true then (i_RemoveJob_j2 v7001 v8005 0) else (i_RemoveJob_j2 v7001 v8005 p0_0))
def i_RemoveJob (a0 : Queue) (a1 : Int) : Option (Queue × Int) :=
 (Option.bind (i_Queue_found a0 a1) fun v2001 => (if (!decide (v2001.2 = 0)) = true then (some ((⟨0, 0, 0, []⟩ : Queue), v2001.2)) else (Option.bind (at? a0.jobs v2001.1) fun v5003 => (if (decide (v5003.state = 1)) = true then (some ((⟨0, 0, 0, []⟩ : Queue), 5)) else (Option.bind (i_copyQueue a0) fun v7001 => (Option.bind (g_Delete_simpl_Job v7001.jobs v2001.1 (IntKind.i64.wrap (v2001.1 + 1))) fun v8005 => (if (decide (v2001.1 < v7001.turn)) = true then (i_RemoveJob_j1 v7001 v8005 (IntKind.i64.wrap (v7001.turn - 1))) else (i_RemoveJob_j1 v7001 v8005 v7001.turn))))))))
def l_FnExactRemoveJob_j3 (v8002 : Queue × Int) (v18002 : Int × (List Job)) (p2_0 : Bool) : Option (Bool) :=
 (if p2_0 = true then (some false) else (Option.bind (l_heldQueue (⟨v8002.1.quantum, v8002.1.nextId, v8002.1.turn, v18002.2⟩ : Queue) 1) fun v29002 => (if (decide (v29002 < 0)) = true then (some false) else (if (!decide (v29002 = v18002.1)) = true then (some false) else (some true)))))
def l_FnExactRemoveJob_j2 (a0 : Queue) (a1 : Int) (v6003 : Queue × Int) (v8002 : Queue × Int) (p1_0 : Bool) : Option (Bool) :=
 (if p1_0 = true then (some false) else (Option.bind (l_markQueue v8002.1 1) fun v18002 => (Option.bind (l_heldQueue (⟨v8002.1.quantum, v8002.1.nextId, v8002.1.turn, v18002.2⟩ : Queue) 1) fun v20002 => (if (decide (v20002 < 0)) = true then (some false) else (if (!decide (v20002 = v18002.1)) = true then (some false) else (Option.bind (l_toQueue a0) fun v25001 => (Option.bind (i_RemoveJob v25001 a1) fun v25003 => (Option.bind (l_eqQueue v25003.1 v6003.1) fun v26002 => (if (!v26002) = true then (l_FnExactRemoveJob_j3 v8002 v18002 true) else (l_FnExactRemoveJob_j3 v8002 v18002 (!decide (v25003.2 = v6003.2))))))))))))
def l_FnExactRemoveJob_j1 (a0 : Queue) (a1 : Int) (v6003 : Queue × Int) (v7001 : Queue) (v8002 : Queue × Int) (p0_0 : Bool) : Option (Bool) :=
 (if p0_0 = true then (some false) else (Option.bind (l_toQueue a0) fun v11002 => (Option.bind (l_eqQueue v7001 v11002) fun v11003 => (if (!v11003) = true then (some false) else (Option.bind (l_markQueue v7001 1) fun v14002 => (if (decide (v14002.1 < 0)) = true then (l_FnExactRemoveJob_j2 a0 a1 v6003 v8002 true) else (Option.bind (l_eqQueue v8002.1 v6003.1) fun v15005 => (if (!v15005) = true then (l_FnExactRemoveJob_j2 a0 a1 v6003 v8002 true) else (l_FnExactRemoveJob_j2 a0 a1 v6003 v8002 (!decide (v8002.2 = v6003.2)))))))))))
def l_FnExactRemoveJob (a0 : Queue) (a1 : Int) : Option (Bool) :=
 (Option.bind (l_szQueue a0 1048576) fun v3002 => (if (decide (v3002 < 0)) = true then (some true) else (Option.bind (l_toQueue a0) fun v6001 => (Option.bind (s_RemoveJob v6001 a1) fun v6003 => (Option.bind (l_toQueue a0) fun v7001 => (Option.bind (i_RemoveJob v7001 a1) fun v8002 => (Option.bind (l_eqQueue v8002.1 v6003.1) fun v9002 => (if (!v9002) = true then (l_FnExactRemoveJob_j1 a0 a1 v6003 v7001 v8002 true) else (l_FnExactRemoveJob_j1 a0 a1 v6003 v7001 v8002 (!decide (v8002.2 = v6003.2)))))))))))
end Go.Proofs.YtckcfdggbbabfaaGreat.Ab
