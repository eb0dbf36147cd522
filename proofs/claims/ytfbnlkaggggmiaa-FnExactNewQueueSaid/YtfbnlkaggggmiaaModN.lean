/-
  Models of the functions. Printed by wip/ab/gen.py.
-/
import Derived.Test.YtfbnlkaggggmiaaMTyN
import Derived.Test.YtfbnlkaggggmiaaMod
namespace Go.Proofs.Ytfbnlkaggggmiaa.Ab
set_option linter.unusedVariables false
set_option linter.unusedSimpArgs false
set_option maxRecDepth 20000
set_option maxHeartbeats 4000000
open Go.RowKit

def s_NewQueue (a0 : Int) : Option (Queue × Int) :=
  (Option.bind (s_l00In a0 1 50) fun v2001 => (if (!v2001) = true then (some ((⟨0, 0, 0, []⟩ : Queue), 2)) else (some ((⟨a0, 1, 0, []⟩ : Queue), 0))))
def i_NewQueue_j1 (a0 : Int) (p0_0 : Bool) : Option (Queue × Int) :=
  (if p0_0 = true then (some ((⟨0, 0, 0, []⟩ : Queue), 2)) else (some ((⟨a0, 1, 0, []⟩ : Queue), 0)))
def i_NewQueue (a0 : Int) : Option (Queue × Int) :=
  (if (decide (a0 < 1)) = true then (i_NewQueue_j1 a0 true) else (i_NewQueue_j1 a0 (decide (50 < a0))))
def l_eqPort (a0 : Port) (a1 : Port) : Option (Bool) :=
  (if (!decide (a0.agent = a1.agent)) = true then (some false) else (if (!decide (a0.slot = a1.slot)) = true then (some false) else (some true)))
def l_eqPortS_l1 : Nat → (List Port) → (List Port) → Int → Option (Bool)
  | 0, _, _, _ => none
  | n + 1, a0, a1, p0_0 => (if (decide (p0_0 < ((List.length a0 : Nat) : Int))) = true then (Option.bind (at? a0 p0_0) fun v7002 => (Option.bind (at? a1 p0_0) fun v7006 => (Option.bind (l_eqPort v7002 v7006) fun v7008 => (if (!v7008) = true then (some false) else (l_eqPortS_l1 n a0 a1 (IntKind.i64.wrap (p0_0 + 1))))))) else (some true))
def l_eqPortS (a0 : List Port) (a1 : List Port) : Option (Bool) :=
  (if (!decide (((List.length a0 : Nat) : Int) = ((List.length a1 : Nat) : Int))) = true then (some false) else (l_eqPortS_l1 fuel a0 a1 0))
def l_eqAgent (a0 : Agent) (a1 : Agent) : Option (Bool) :=
  (if (!decide (a0.kind = a1.kind)) = true then (some false) else (if (!decide (a0.level = a1.level)) = true then (some false) else (if (!decide (a0.value = a1.value)) = true then (some false) else (Option.bind (l_eqInt64S a0.data a1.data) fun v8004 => (if (!v8004) = true then (some false) else (Option.bind (l_eqPortS a0.ports a1.ports) fun v10004 => (if (!v10004) = true then (some false) else (some true))))))))
def l_eqAgentS_l1 : Nat → (List Agent) → (List Agent) → Int → Option (Bool)
  | 0, _, _, _ => none
  | n + 1, a0, a1, p0_0 => (if (decide (p0_0 < ((List.length a0 : Nat) : Int))) = true then (Option.bind (at? a0 p0_0) fun v7002 => (Option.bind (at? a1 p0_0) fun v7006 => (Option.bind (l_eqAgent v7002 v7006) fun v7008 => (if (!v7008) = true then (some false) else (l_eqAgentS_l1 n a0 a1 (IntKind.i64.wrap (p0_0 + 1))))))) else (some true))
def l_eqAgentS (a0 : List Agent) (a1 : List Agent) : Option (Bool) :=
  (if (!decide (((List.length a0 : Nat) : Int) = ((List.length a1 : Nat) : Int))) = true then (some false) else (l_eqAgentS_l1 fuel a0 a1 0))
def l_eqNet (a0 : Net) (a1 : Net) : Option (Bool) :=
  (Option.bind (l_eqAgentS a0.agents a1.agents) fun v2004 => (if (!v2004) = true then (some false) else (some true)))
def l_eqNetS_l1 : Nat → (List Net) → (List Net) → Int → Option (Bool)
  | 0, _, _, _ => none
  | n + 1, a0, a1, p0_0 => (if (decide (p0_0 < ((List.length a0 : Nat) : Int))) = true then (Option.bind (at? a0 p0_0) fun v7002 => (Option.bind (at? a1 p0_0) fun v7006 => (Option.bind (l_eqNet v7002 v7006) fun v7008 => (if (!v7008) = true then (some false) else (l_eqNetS_l1 n a0 a1 (IntKind.i64.wrap (p0_0 + 1))))))) else (some true))
def l_eqNetS (a0 : List Net) (a1 : List Net) : Option (Bool) :=
  (if (!decide (((List.length a0 : Nat) : Int) = ((List.length a1 : Nat) : Int))) = true then (some false) else (l_eqNetS_l1 fuel a0 a1 0))
def l_eqJob (a0 : Job) (a1 : Job) : Option (Bool) :=
  (if (!decide (a0.id = a1.id)) = true then (some false) else (if (!decide (a0.weight = a1.weight)) = true then (some false) else (if (!decide (a0.state = a1.state)) = true then (some false) else (if (!decide (a0.code = a1.code)) = true then (some false) else (if (!decide (a0.left = a1.left)) = true then (some false) else (if (!decide (a0.slices = a1.slices)) = true then (some false) else (Option.bind (l_eqInt64S a0.counts a1.counts) fun v14004 => (if (!v14004) = true then (some false) else (Option.bind (l_eqInt64S a0.schedule a1.schedule) fun v16004 => (if (!v16004) = true then (some false) else (Option.bind (l_eqNetS a0.book a1.book) fun v18004 => (if (!v18004) = true then (some false) else (Option.bind (l_eqNet a0.net a1.net) fun v20004 => (if (!v20004) = true then (some false) else (some true)))))))))))))))
def l_eqJobS_l1 : Nat → (List Job) → (List Job) → Int → Option (Bool)
  | 0, _, _, _ => none
  | n + 1, a0, a1, p0_0 => (if (decide (p0_0 < ((List.length a0 : Nat) : Int))) = true then (Option.bind (at? a0 p0_0) fun v7002 => (Option.bind (at? a1 p0_0) fun v7006 => (Option.bind (l_eqJob v7002 v7006) fun v7008 => (if (!v7008) = true then (some false) else (l_eqJobS_l1 n a0 a1 (IntKind.i64.wrap (p0_0 + 1))))))) else (some true))
def l_eqJobS (a0 : List Job) (a1 : List Job) : Option (Bool) :=
  (if (!decide (((List.length a0 : Nat) : Int) = ((List.length a1 : Nat) : Int))) = true then (some false) else (l_eqJobS_l1 fuel a0 a1 0))
def l_eqQueue (a0 : Queue) (a1 : Queue) : Option (Bool) :=
  (if (!decide (a0.quantum = a1.quantum)) = true then (some false) else (if (!decide (a0.nextId = a1.nextId)) = true then (some false) else (if (!decide (a0.turn = a1.turn)) = true then (some false) else (Option.bind (l_eqJobS a0.jobs a1.jobs) fun v8004 => (if (!v8004) = true then (some false) else (some true))))))
def l_markInt64S_l1 : Nat → (List Int) → Int → Int → Option (Int × (List Int))
  | 0, _, _, _ => none
  | n + 1, p0_0, p0_1, p0_2 => (if (decide (p0_2 < ((List.length p0_0 : Nat) : Int))) = true then (Option.bind (at? p0_0 p0_2) fun v5003 => (Option.bind (set1? p0_0 p0_2 p0_1) fun v5004_8 => (l_markInt64S_l1 n v5004_8 (IntKind.i64.wrap (p0_1 + 1)) (IntKind.i64.wrap (p0_2 + 1))))) else (some (p0_1, p0_0)))
def l_markInt64S (a0 : List Int) (a1 : Int) : Option (Int × (List Int)) :=
  (l_markInt64S_l1 fuel a0 a1 0)
def l_markPortS_l1 : Nat → (List Port) → Int → Int → Option (Int × (List Port))
  | 0, _, _, _ => none
  | n + 1, p0_0, p0_1, p0_2 => (if (decide (p0_2 < ((List.length p0_0 : Nat) : Int))) = true then (Option.bind (at? p0_0 p0_2) fun v5003 => (Option.bind (set1? p0_0 p0_2 (⟨p0_1, v5003.slot⟩ : Port)) fun v5005_15 => (Option.bind (at? v5005_15 p0_2) fun v7003 => (Option.bind (set1? v5005_15 p0_2 (⟨v7003.agent, (IntKind.i64.wrap (p0_1 + 1))⟩ : Port)) fun v7005_16 => (l_markPortS_l1 n v7005_16 (IntKind.i64.wrap ((IntKind.i64.wrap (p0_1 + 1)) + 1)) (IntKind.i64.wrap (p0_2 + 1))))))) else (some (p0_1, p0_0)))
def l_markPortS (a0 : List Port) (a1 : Int) : Option (Int × (List Port)) :=
  (l_markPortS_l1 fuel a0 a1 0)
def l_markAgentS_l1 : Nat → (List Agent) → Int → Int → Option (Int × (List Agent))
  | 0, _, _, _ => none
  | n + 1, p0_0, p0_1, p0_2 => (if (decide (p0_2 < ((List.length p0_0 : Nat) : Int))) = true then (Option.bind (at? p0_0 p0_2) fun v5003 => (Option.bind (set1? p0_0 p0_2 (⟨p0_1, v5003.level, v5003.value, v5003.data, v5003.ports⟩ : Agent)) fun v5005_36 => (Option.bind (at? v5005_36 p0_2) fun v7003 => (Option.bind (set1? v5005_36 p0_2 (⟨v7003.kind, (IntKind.i64.wrap (p0_1 + 1)), v7003.value, v7003.data, v7003.ports⟩ : Agent)) fun v7005_37 => (Option.bind (at? v7005_37 p0_2) fun v9003 => (Option.bind (set1? v7005_37 p0_2 (⟨v9003.kind, v9003.level, (IntKind.i64.wrap ((IntKind.i64.wrap (p0_1 + 1)) + 1)), v9003.data, v9003.ports⟩ : Agent)) fun v9005_38 => (Option.bind (at? v9005_38 p0_2) fun v11002 => (Option.bind (l_markInt64S v11002.data (IntKind.i64.wrap ((IntKind.i64.wrap ((IntKind.i64.wrap (p0_1 + 1)) + 1)) + 1))) fun v11006 => (Option.bind (set1? v9005_38 p0_2 (⟨v11002.kind, v11002.level, v11002.value, v11006.2, v11002.ports⟩ : Agent)) fun v11006_39 => (Option.bind (at? v11006_39 p0_2) fun v12002 => (Option.bind (l_markPortS v12002.ports v11006.1) fun v12006 => (Option.bind (set1? v11006_39 p0_2 (⟨v12002.kind, v12002.level, v12002.value, v12002.data, v12006.2⟩ : Agent)) fun v12006_40 => (l_markAgentS_l1 n v12006_40 v12006.1 (IntKind.i64.wrap (p0_2 + 1))))))))))))))) else (some (p0_1, p0_0)))
def l_markAgentS (a0 : List Agent) (a1 : Int) : Option (Int × (List Agent)) :=
  (l_markAgentS_l1 fuel a0 a1 0)
def l_markNetS_l1 : Nat → (List Net) → Int → Int → Option (Int × (List Net))
  | 0, _, _, _ => none
  | n + 1, p0_0, p0_1, p0_2 => (if (decide (p0_2 < ((List.length p0_0 : Nat) : Int))) = true then (Option.bind (at? p0_0 p0_2) fun v5002 => (Option.bind (l_markAgentS v5002.agents p0_1) fun v5006 => (Option.bind (set1? p0_0 p0_2 (⟨v5006.2⟩ : Net)) fun v5006_8 => (l_markNetS_l1 n v5006_8 v5006.1 (IntKind.i64.wrap (p0_2 + 1)))))) else (some (p0_1, p0_0)))
def l_markNetS (a0 : List Net) (a1 : Int) : Option (Int × (List Net)) :=
  (l_markNetS_l1 fuel a0 a1 0)
def l_markJobS_l1 : Nat → (List Job) → Int → Int → Option (Int × (List Job))
  | 0, _, _, _ => none
  | n + 1, p0_0, p0_1, p0_2 => (if (decide (p0_2 < ((List.length p0_0 : Nat) : Int))) = true then (Option.bind (at? p0_0 p0_2) fun v5003 => (Option.bind (set1? p0_0 p0_2 (⟨p0_1, v5003.weight, v5003.state, v5003.code, v5003.left, v5003.slices, v5003.counts, v5003.schedule, v5003.book, v5003.net⟩ : Job)) fun v5005_71 => (Option.bind (at? v5005_71 p0_2) fun v7003 => (Option.bind (set1? v5005_71 p0_2 (⟨v7003.id, (IntKind.i64.wrap (p0_1 + 1)), v7003.state, v7003.code, v7003.left, v7003.slices, v7003.counts, v7003.schedule, v7003.book, v7003.net⟩ : Job)) fun v7005_72 => (Option.bind (at? v7005_72 p0_2) fun v9003 => (Option.bind (set1? v7005_72 p0_2 (⟨v9003.id, v9003.weight, (IntKind.i64.wrap ((IntKind.i64.wrap (p0_1 + 1)) + 1)), v9003.code, v9003.left, v9003.slices, v9003.counts, v9003.schedule, v9003.book, v9003.net⟩ : Job)) fun v9005_73 => (Option.bind (at? v9005_73 p0_2) fun v11003 => (Option.bind (set1? v9005_73 p0_2 (⟨v11003.id, v11003.weight, v11003.state, (IntKind.i64.wrap ((IntKind.i64.wrap ((IntKind.i64.wrap (p0_1 + 1)) + 1)) + 1)), v11003.left, v11003.slices, v11003.counts, v11003.schedule, v11003.book, v11003.net⟩ : Job)) fun v11005_74 => (Option.bind (at? v11005_74 p0_2) fun v13003 => (Option.bind (set1? v11005_74 p0_2 (⟨v13003.id, v13003.weight, v13003.state, v13003.code, (IntKind.i64.wrap ((IntKind.i64.wrap ((IntKind.i64.wrap ((IntKind.i64.wrap (p0_1 + 1)) + 1)) + 1)) + 1)), v13003.slices, v13003.counts, v13003.schedule, v13003.book, v13003.net⟩ : Job)) fun v13005_75 => (Option.bind (at? v13005_75 p0_2) fun v15003 => (Option.bind (set1? v13005_75 p0_2 (⟨v15003.id, v15003.weight, v15003.state, v15003.code, v15003.left, (IntKind.i64.wrap ((IntKind.i64.wrap ((IntKind.i64.wrap ((IntKind.i64.wrap ((IntKind.i64.wrap (p0_1 + 1)) + 1)) + 1)) + 1)) + 1)), v15003.counts, v15003.schedule, v15003.book, v15003.net⟩ : Job)) fun v15005_76 => (Option.bind (at? v15005_76 p0_2) fun v17002 => (Option.bind (l_markInt64S v17002.counts (IntKind.i64.wrap ((IntKind.i64.wrap ((IntKind.i64.wrap ((IntKind.i64.wrap ((IntKind.i64.wrap ((IntKind.i64.wrap (p0_1 + 1)) + 1)) + 1)) + 1)) + 1)) + 1))) fun v17006 => (Option.bind (set1? v15005_76 p0_2 (⟨v17002.id, v17002.weight, v17002.state, v17002.code, v17002.left, v17002.slices, v17006.2, v17002.schedule, v17002.book, v17002.net⟩ : Job)) fun v17006_77 => (Option.bind (at? v17006_77 p0_2) fun v18002 => (Option.bind (l_markInt64S v18002.schedule v17006.1) fun v18006 => (Option.bind (set1? v17006_77 p0_2 (⟨v18002.id, v18002.weight, v18002.state, v18002.code, v18002.left, v18002.slices, v18002.counts, v18006.2, v18002.book, v18002.net⟩ : Job)) fun v18006_78 => (Option.bind (at? v18006_78 p0_2) fun v19002 => (Option.bind (l_markNetS v19002.book v18006.1) fun v19006 => (Option.bind (set1? v18006_78 p0_2 (⟨v19002.id, v19002.weight, v19002.state, v19002.code, v19002.left, v19002.slices, v19002.counts, v19002.schedule, v19006.2, v19002.net⟩ : Job)) fun v19006_79 => (Option.bind (at? v19006_79 p0_2) fun v20002 => (Option.bind (l_markAgentS v20002.net.agents v19006.1) fun v20007 => (Option.bind (set1? v19006_79 p0_2 (⟨v20002.id, v20002.weight, v20002.state, v20002.code, v20002.left, v20002.slices, v20002.counts, v20002.schedule, v20002.book, (⟨v20007.2⟩ : Net)⟩ : Job)) fun v20007_80 => (l_markJobS_l1 n v20007_80 v20007.1 (IntKind.i64.wrap (p0_2 + 1))))))))))))))))))))))))))) else (some (p0_1, p0_0)))
def l_markJobS (a0 : List Job) (a1 : Int) : Option (Int × (List Job)) :=
  (l_markJobS_l1 fuel a0 a1 0)
def l_markQueue (a0 : Queue) (a1 : Int) : Option (Int × (List Job)) :=
  (Option.bind (l_markJobS a0.jobs a1) fun v2003 => (some (v2003.1, v2003.2)))
def l_heldInt64S_l1 : Nat → (List Int) → Int → Int → Option (Int)
  | 0, _, _, _ => none
  | n + 1, a0, p0_0, p0_1 => (if (decide (p0_1 < ((List.length a0 : Nat) : Int))) = true then (Option.bind (at? a0 p0_1) fun v5002 => (if (!decide (v5002 = p0_0)) = true then (some (-1)) else (l_heldInt64S_l1 n a0 (IntKind.i64.wrap (p0_0 + 1)) (IntKind.i64.wrap (p0_1 + 1))))) else (some p0_0))
def l_heldInt64S (a0 : List Int) (a1 : Int) : Option (Int) :=
  (l_heldInt64S_l1 fuel a0 a1 0)
def l_heldPortS_l1 : Nat → (List Port) → Int → Int → Option (Int)
  | 0, _, _, _ => none
  | n + 1, a0, p0_0, p0_1 => (if (decide (p0_1 < ((List.length a0 : Nat) : Int))) = true then (Option.bind (at? a0 p0_1) fun v5002 => (if (!decide (v5002.agent = p0_0)) = true then (some (-1)) else (Option.bind (at? a0 p0_1) fun v8002 => (if (!decide (v8002.slot = (IntKind.i64.wrap (p0_0 + 1)))) = true then (some (-1)) else (l_heldPortS_l1 n a0 (IntKind.i64.wrap ((IntKind.i64.wrap (p0_0 + 1)) + 1)) (IntKind.i64.wrap (p0_1 + 1))))))) else (some p0_0))
def l_heldPortS (a0 : List Port) (a1 : Int) : Option (Int) :=
  (l_heldPortS_l1 fuel a0 a1 0)
def l_heldAgentS_l1 : Nat → (List Agent) → Int → Int → Option (Int)
  | 0, _, _, _ => none
  | n + 1, a0, p0_0, p0_1 => (if (decide (p0_1 < ((List.length a0 : Nat) : Int))) = true then (Option.bind (at? a0 p0_1) fun v5002 => (if (!decide (v5002.kind = p0_0)) = true then (some (-1)) else (Option.bind (at? a0 p0_1) fun v8002 => (if (!decide (v8002.level = (IntKind.i64.wrap (p0_0 + 1)))) = true then (some (-1)) else (Option.bind (at? a0 p0_1) fun v11002 => (if (!decide (v11002.value = (IntKind.i64.wrap ((IntKind.i64.wrap (p0_0 + 1)) + 1)))) = true then (some (-1)) else (Option.bind (at? a0 p0_1) fun v14002 => (Option.bind (l_heldInt64S v14002.data (IntKind.i64.wrap ((IntKind.i64.wrap ((IntKind.i64.wrap (p0_0 + 1)) + 1)) + 1))) fun v14006 => (if (decide (v14006 < 0)) = true then (some (-1)) else (Option.bind (at? a0 p0_1) fun v17002 => (Option.bind (l_heldPortS v17002.ports v14006) fun v17006 => (if (decide (v17006 < 0)) = true then (some (-1)) else (l_heldAgentS_l1 n a0 v17006 (IntKind.i64.wrap (p0_1 + 1))))))))))))))) else (some p0_0))
def l_heldAgentS (a0 : List Agent) (a1 : Int) : Option (Int) :=
  (l_heldAgentS_l1 fuel a0 a1 0)
def l_heldNetS_l1 : Nat → (List Net) → Int → Int → Option (Int)
  | 0, _, _, _ => none
  | n + 1, a0, p0_0, p0_1 => (if (decide (p0_1 < ((List.length a0 : Nat) : Int))) = true then (Option.bind (at? a0 p0_1) fun v5002 => (Option.bind (l_heldAgentS v5002.agents p0_0) fun v5006 => (if (decide (v5006 < 0)) = true then (some (-1)) else (l_heldNetS_l1 n a0 v5006 (IntKind.i64.wrap (p0_1 + 1)))))) else (some p0_0))
def l_heldNetS (a0 : List Net) (a1 : Int) : Option (Int) :=
  (l_heldNetS_l1 fuel a0 a1 0)
def l_heldJobS_l1 : Nat → (List Job) → Int → Int → Option (Int)
  | 0, _, _, _ => none
  | n + 1, a0, p0_0, p0_1 => (if (decide (p0_1 < ((List.length a0 : Nat) : Int))) = true then (Option.bind (at? a0 p0_1) fun v5002 => (if (!decide (v5002.id = p0_0)) = true then (some (-1)) else (Option.bind (at? a0 p0_1) fun v8002 => (if (!decide (v8002.weight = (IntKind.i64.wrap (p0_0 + 1)))) = true then (some (-1)) else (Option.bind (at? a0 p0_1) fun v11002 => (if (!decide (v11002.state = (IntKind.i64.wrap ((IntKind.i64.wrap (p0_0 + 1)) + 1)))) = true then (some (-1)) else (Option.bind (at? a0 p0_1) fun v14002 => (if (!decide (v14002.code = (IntKind.i64.wrap ((IntKind.i64.wrap ((IntKind.i64.wrap (p0_0 + 1)) + 1)) + 1)))) = true then (some (-1)) else (Option.bind (at? a0 p0_1) fun v17002 => (if (!decide (v17002.left = (IntKind.i64.wrap ((IntKind.i64.wrap ((IntKind.i64.wrap ((IntKind.i64.wrap (p0_0 + 1)) + 1)) + 1)) + 1)))) = true then (some (-1)) else (Option.bind (at? a0 p0_1) fun v20002 => (if (!decide (v20002.slices = (IntKind.i64.wrap ((IntKind.i64.wrap ((IntKind.i64.wrap ((IntKind.i64.wrap ((IntKind.i64.wrap (p0_0 + 1)) + 1)) + 1)) + 1)) + 1)))) = true then (some (-1)) else (Option.bind (at? a0 p0_1) fun v23002 => (Option.bind (l_heldInt64S v23002.counts (IntKind.i64.wrap ((IntKind.i64.wrap ((IntKind.i64.wrap ((IntKind.i64.wrap ((IntKind.i64.wrap ((IntKind.i64.wrap (p0_0 + 1)) + 1)) + 1)) + 1)) + 1)) + 1))) fun v23006 => (if (decide (v23006 < 0)) = true then (some (-1)) else (Option.bind (at? a0 p0_1) fun v26002 => (Option.bind (l_heldInt64S v26002.schedule v23006) fun v26006 => (if (decide (v26006 < 0)) = true then (some (-1)) else (Option.bind (at? a0 p0_1) fun v29002 => (Option.bind (l_heldNetS v29002.book v26006) fun v29006 => (if (decide (v29006 < 0)) = true then (some (-1)) else (Option.bind (at? a0 p0_1) fun v32002 => (Option.bind (l_heldAgentS v32002.net.agents v29006) fun v32007 => (if (decide (v32007 < 0)) = true then (some (-1)) else (l_heldJobS_l1 n a0 v32007 (IntKind.i64.wrap (p0_1 + 1))))))))))))))))))))))))))) else (some p0_0))
def l_heldJobS (a0 : List Job) (a1 : Int) : Option (Int) :=
  (l_heldJobS_l1 fuel a0 a1 0)
def l_heldQueue (a0 : Queue) (a1 : Int) : Option (Int) :=
  (Option.bind (l_heldJobS a0.jobs a1) fun v2003 => (if (decide (v2003 < 0)) = true then (some (-1)) else (some v2003)))
def l_FnExactNewQueue_j2 (v3001 : Queue × Int) (v7002 : Int × (List Job)) (p1_0 : Bool) : Option (Bool) :=
  (if p1_0 = true then (some false) else (Option.bind (l_heldQueue (⟨v3001.1.quantum, v3001.1.nextId, v3001.1.turn, v7002.2⟩ : Queue) 1) fun v18002 => (if (decide (v18002 < 0)) = true then (some false) else (if (!decide (v18002 = v7002.1)) = true then (some false) else (some true)))))
def l_FnExactNewQueue_j1 (a0 : Int) (v2001 : Queue × Int) (v3001 : Queue × Int) (p0_0 : Bool) : Option (Bool) :=
  (if p0_0 = true then (some false) else (Option.bind (l_markQueue v3001.1 1) fun v7002 => (Option.bind (l_heldQueue (⟨v3001.1.quantum, v3001.1.nextId, v3001.1.turn, v7002.2⟩ : Queue) 1) fun v9002 => (if (decide (v9002 < 0)) = true then (some false) else (if (!decide (v9002 = v7002.1)) = true then (some false) else (Option.bind (i_NewQueue a0) fun v14001 => (Option.bind (l_eqQueue v14001.1 v2001.1) fun v15002 => (if (!v15002) = true then (l_FnExactNewQueue_j2 v3001 v7002 true) else (l_FnExactNewQueue_j2 v3001 v7002 (!decide (v14001.2 = v2001.2)))))))))))
def l_FnExactNewQueue (a0 : Int) : Option (Bool) :=
  (Option.bind (s_NewQueue a0) fun v2001 => (Option.bind (i_NewQueue a0) fun v3001 => (Option.bind (l_eqQueue v3001.1 v2001.1) fun v4002 => (if (!v4002) = true then (l_FnExactNewQueue_j1 a0 v2001 v3001 true) else (l_FnExactNewQueue_j1 a0 v2001 v3001 (!decide (v3001.2 = v2001.2)))))))
end Go.Proofs.Ytfbnlkaggggmiaa.Ab
