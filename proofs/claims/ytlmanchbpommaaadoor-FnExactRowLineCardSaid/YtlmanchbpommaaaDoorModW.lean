/-
  Models of the functions. Printed by wip/ab/gen.py.
-/
import Derived.Test.YtlmanchbpommaaaDoorMTyW
import Derived.Test.YtlmanchbpommaaaDoorModF
namespace Go.Proofs.YtlmanchbpommaaaDoor.Ab
set_option linter.unusedVariables false
set_option linter.unusedSimpArgs false
set_option maxRecDepth 20000
set_option maxHeartbeats 4000000
open Go.RowKit

def l_szRow (a0 : Row) (a1 : Int) : Option (Int) :=
  (if (decide ((IntKind.i64.wrap (a1 - ((ByteArray.size a0.name : Nat) : Int))) < 0)) = true then (some (-1)) else (if (decide ((IntKind.i64.wrap ((IntKind.i64.wrap (a1 - ((ByteArray.size a0.name : Nat) : Int))) - ((ByteArray.size a0.typ : Nat) : Int))) < 0)) = true then (some (-1)) else (Option.bind (l_szInt64S a0.uses (IntKind.i64.wrap ((IntKind.i64.wrap (a1 - ((ByteArray.size a0.name : Nat) : Int))) - ((ByteArray.size a0.typ : Nat) : Int)))) fun v8003 => (if (decide (v8003 < 0)) = true then (some (-1)) else (some v8003)))))
def s_RowLine_l3 : Nat → Row → ByteArray → Int → Option (ByteArray)
  | 0, _, _, _ => none
  | n + 1, a0, p2_0, p2_1 => (if (decide (p2_1 < ((List.length a0.uses : Nat) : Int))) = true then (Option.bind (at? a0.uses p2_1) fun v9004 => (Option.bind (s_Decimal v9004) fun v9006 => (Option.bind (sapp? (ByteArray.mk #[32, 64]) v9006) fun v9007 => (Option.bind (sapp? p2_0 v9007) fun v9008 => (s_RowLine_l3 n a0 v9008 (IntKind.i64.wrap (p2_1 + 1))))))) else (some p2_0))
def s_RowLine_j1 (a0 : Row) (p0_0 : ByteArray) : Option (ByteArray) :=
  (Option.bind (sapp? a0.name (ByteArray.mk #[32, 58, 32])) fun v5002 => (Option.bind (sapp? v5002 p0_0) fun v5004 => (Option.bind (sapp? v5004 (ByteArray.mk #[32])) fun v5005 => (Option.bind (s_Decimal a0.size) fun v5008 => (Option.bind (sapp? v5005 v5008) fun v5009 => (Option.bind (sapp? v5009 (ByteArray.mk #[47])) fun v5010 => (Option.bind (s_Decimal a0.agents) fun v5013 => (Option.bind (sapp? v5010 v5013) fun v5014 => (s_RowLine_l3 fuel a0 v5014 0)))))))))
def s_RowLine (a0 : Row) : Option (ByteArray) :=
  (if (sameStr a0.typ (ByteArray.mk #[])) = true then (s_RowLine_j1 a0 (ByteArray.mk #[63])) else (s_RowLine_j1 a0 a0.typ))
def l_toRow (a0 : Row) : Option (Row) :=
  (Option.bind (l_toInt64S a0.uses) fun v7002 => (some (⟨a0.name, a0.typ, a0.size, a0.agents, v7002⟩ : Row)))
def i_RowLine_l2 : Nat → Row → ByteArray → Int → Option (ByteArray)
  | 0, _, _, _ => none
  | n + 1, a0, p1_0, p1_1 => (if (decide (p1_1 < ((List.length a0.uses : Nat) : Int))) = true then (Option.bind (at? a0.uses p1_1) fun v8000 => (Option.bind (i_Decimal v8000) fun v9002 => (Option.bind (sapp? (ByteArray.mk #[32, 64]) v9002) fun v9003 => (Option.bind (sapp? p1_0 v9003) fun v9004 => (i_RowLine_l2 n a0 v9004 (IntKind.i64.wrap (p1_1 + 1))))))) else (some p1_0))
def i_RowLine_j1 (a0 : Row) (p0_0 : ByteArray) : Option (ByteArray) :=
  (Option.bind (sapp? a0.typ (ByteArray.mk #[32])) fun v5003 => (Option.bind (i_Decimal a0.size) fun v5006 => (Option.bind (sapp? v5003 v5006) fun v5007 => (Option.bind (sapp? v5007 (ByteArray.mk #[47])) fun v5008 => (Option.bind (i_Decimal a0.agents) fun v5011 => (Option.bind (sapp? v5008 v5011) fun v5012 => (Option.bind (sapp? p0_0 v5012) fun v5013 => (i_RowLine_l2 fuel a0 v5013 0))))))))
def i_RowLine (a0 : Row) : Option (ByteArray) :=
  (Option.bind (sapp? a0.name (ByteArray.mk #[32, 58, 32])) fun v2002 => (if (sameStr a0.typ (ByteArray.mk #[])) = true then (Option.bind (sapp? v2002 (ByteArray.mk #[63])) fun v4001 => (i_RowLine_j1 a0 v4001)) else (i_RowLine_j1 a0 v2002)))
def l_eqRow (a0 : Row) (a1 : Row) : Option (Bool) :=
  (if (!sameStr a0.name a1.name) = true then (some false) else (if (!sameStr a0.typ a1.typ) = true then (some false) else (if (!decide (a0.size = a1.size)) = true then (some false) else (if (!decide (a0.agents = a1.agents)) = true then (some false) else (Option.bind (l_eqInt64S a0.uses a1.uses) fun v10004 => (if (!v10004) = true then (some false) else (some true)))))))
def l_FnExactRowLine (a0 : Row) : Option (Bool) :=
  (Option.bind (l_szRow a0 1048576) fun v3002 => (if (decide (v3002 < 0)) = true then (some true) else (Option.bind (l_toRow a0) fun v6001 => (Option.bind (s_RowLine v6001) fun v6002 => (Option.bind (l_toRow a0) fun v7001 => (Option.bind (i_RowLine v7001) fun v8001 => (if (!sameStr v8001 v6002) = true then (some false) else (Option.bind (l_toRow a0) fun v11002 => (Option.bind (l_eqRow v7001 v11002) fun v11003 => (if (!v11003) = true then (some false) else (some true)))))))))))
end Go.Proofs.YtlmanchbpommaaaDoor.Ab
