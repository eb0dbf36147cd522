/-
  Models of the functions. Printed by wip/ab/gen.py.
-/
import Derived.Test.YtlmanchbpommaaaDoorManF
import Derived.Test.YtlmanchbpommaaaDoorMod
namespace Go.Proofs.YtlmanchbpommaaaDoor.Ab
set_option linter.unusedVariables false
set_option linter.unusedSimpArgs false
set_option maxRecDepth 20000
set_option maxHeartbeats 4000000
open Go.RowKit

def i_Decimal (a0 : Int) : Option (ByteArray) :=
  (Option.bind (g_FormatInt a0 10) fun v2001 => (some v2001))
def s_Decimal_l12 : Nat → (List Int) → (List Int) → Int → Option (ByteArray)
  | 0, _, _, _ => none
  | n + 1, p5_0, p7_0, p7_1 => (if (decide (0 ≤ p7_1)) = true then (Option.bind (at? p5_0 p7_1) fun v18003 => (Option.bind (app? p7_0 [v18003]) fun v18006 => (s_Decimal_l12 n p5_0 v18006 (IntKind.i64.wrap (p7_1 - 1))))) else (Option.bind (strN? p7_0) fun v19001 => (some v19001)))
def s_Decimal_j10 (p5_0 : List Int) : Option (ByteArray) :=
  (s_Decimal_l12 fuel p5_0 [] (IntKind.i64.wrap (((List.length p5_0 : Nat) : Int) - 1)))
def s_Decimal_j9 (a0 : Int) (p4_0 : List Int) : Option (ByteArray) :=
  (if (decide (a0 < 0)) = true then (Option.bind (app? p4_0 [45]) fun v13002 => (s_Decimal_j10 v13002)) else (s_Decimal_j10 p4_0))
mutual
def s_Decimal_l7 : Nat → Int → (List Int) → Int → Option (ByteArray)
  | 0, _, _, _ => none
  | n + 1, a0, p2_0, p2_1 => (if (!decide (p2_1 = 0)) = true then (if (decide ((Int.tmod p2_1 10) < 0)) = true then (s_Decimal_j8 n a0 p2_0 p2_1 (IntKind.i64.wrap (0 - (Int.tmod p2_1 10)))) else (s_Decimal_j8 n a0 p2_0 p2_1 (Int.tmod p2_1 10))) else (if (decide (a0 = 0)) = true then (Option.bind (app? p2_0 [48]) fun v11002 => (s_Decimal_j9 a0 v11002)) else (s_Decimal_j9 a0 p2_0)))
def s_Decimal_j8 : Nat → Int → (List Int) → Int → Int → Option (ByteArray)
  | 0, _, _, _, _ => none
  | n + 1, a0, p2_0, p2_1, p3_0 => (Option.bind (app? p2_0 [(IntKind.u8.wrap (IntKind.i64.wrap (48 + p3_0)))]) fun v8005 => (s_Decimal_l7 n a0 v8005 (IntKind.i64.wrap (Int.tdiv p2_1 10))))
end
def s_Decimal (a0 : Int) : Option (ByteArray) :=
  (s_Decimal_l7 fuel a0 [] a0)
end Go.Proofs.YtlmanchbpommaaaDoor.Ab
