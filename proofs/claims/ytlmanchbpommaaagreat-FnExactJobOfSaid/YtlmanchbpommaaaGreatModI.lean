/-
  Models of the functions. Printed by wip/ab/gen.py.
-/
import Derived.Test.YtlmanchbpommaaaGreatModJ
namespace Go.Proofs.YtlmanchbpommaaaGreat.Ab
set_option linter.unusedVariables false
set_option linter.unusedSimpArgs false
set_option maxRecDepth 20000
set_option maxHeartbeats 4000000
open Go.RowKit

def l_FnExactJobOf_j3 (v8002 : Job × Int) (v18002 : Int × (List Int) × (List Int) × (List Net) × (List Agent)) (p2_0 : Bool) : Option (Bool) :=
  (if p2_0 = true then (some false) else (Option.bind (l_heldJob (⟨v8002.1.id, v8002.1.weight, v8002.1.state, v8002.1.code, v8002.1.left, v8002.1.slices, v18002.2.1, v18002.2.2.1, v18002.2.2.2.1, (⟨v18002.2.2.2.2⟩ : Net)⟩ : Job) 1) fun v29002 => (if (decide (v29002 < 0)) = true then (some false) else (if (!decide (v29002 = v18002.1)) = true then (some false) else (some true)))))
def l_FnExactJobOf_j2 (a0 : Queue) (a1 : Int) (v6003 : Job × Int) (v8002 : Job × Int) (p1_0 : Bool) : Option (Bool) :=
  (if p1_0 = true then (some false) else (Option.bind (l_markJob v8002.1 1) fun v18002 => (Option.bind (l_heldJob (⟨v8002.1.id, v8002.1.weight, v8002.1.state, v8002.1.code, v8002.1.left, v8002.1.slices, v18002.2.1, v18002.2.2.1, v18002.2.2.2.1, (⟨v18002.2.2.2.2⟩ : Net)⟩ : Job) 1) fun v20002 => (if (decide (v20002 < 0)) = true then (some false) else (if (!decide (v20002 = v18002.1)) = true then (some false) else (Option.bind (l_toQueue a0) fun v25001 => (Option.bind (i_JobOf v25001 a1) fun v25003 => (Option.bind (l_eqJob v25003.1 v6003.1) fun v26002 => (if (!v26002) = true then (l_FnExactJobOf_j3 v8002 v18002 true) else (l_FnExactJobOf_j3 v8002 v18002 (!decide (v25003.2 = v6003.2))))))))))))
def l_FnExactJobOf_j1 (a0 : Queue) (a1 : Int) (v6003 : Job × Int) (v7001 : Queue) (v8002 : Job × Int) (p0_0 : Bool) : Option (Bool) :=
  (if p0_0 = true then (some false) else (Option.bind (l_toQueue a0) fun v11002 => (Option.bind (l_eqQueue v7001 v11002) fun v11003 => (if (!v11003) = true then (some false) else (Option.bind (l_markQueue v7001 1) fun v14002 => (if (decide (v14002.1 < 0)) = true then (l_FnExactJobOf_j2 a0 a1 v6003 v8002 true) else (Option.bind (l_eqJob v8002.1 v6003.1) fun v15005 => (if (!v15005) = true then (l_FnExactJobOf_j2 a0 a1 v6003 v8002 true) else (l_FnExactJobOf_j2 a0 a1 v6003 v8002 (!decide (v8002.2 = v6003.2)))))))))))
def l_FnExactJobOf (a0 : Queue) (a1 : Int) : Option (Bool) :=
  (Option.bind (l_szQueue a0 1048576) fun v3002 => (if (decide (v3002 < 0)) = true then (some true) else (Option.bind (l_toQueue a0) fun v6001 => (Option.bind (s_JobOf v6001 a1) fun v6003 => (Option.bind (l_toQueue a0) fun v7001 => (Option.bind (i_JobOf v7001 a1) fun v8002 => (Option.bind (l_eqJob v8002.1 v6003.1) fun v9002 => (if (!v9002) = true then (l_FnExactJobOf_j1 a0 a1 v6003 v7001 v8002 true) else (l_FnExactJobOf_j1 a0 a1 v6003 v7001 v8002 (!decide (v8002.2 = v6003.2)))))))))))
end Go.Proofs.YtlmanchbpommaaaGreat.Ab
