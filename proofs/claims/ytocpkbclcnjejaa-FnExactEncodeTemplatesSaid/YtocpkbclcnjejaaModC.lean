/-
  Models of the functions. Printed by wip/ab/gen.py.
-/
import Derived.Test.YtocpkbclcnjejaaModU
namespace Go.Proofs.Ytocpkbclcnjejaa.Ab
set_option linter.unusedVariables false
set_option linter.unusedSimpArgs false
set_option maxRecDepth 20000
set_option maxHeartbeats 4000000
open Go.RowKit

def s_l33Number_l3 : Nat → (List Int) → Int → Option ((List Int))
  | 0, _, _ => none
  | n + 1, p2_0, p2_1 => (if (decide (128 ≤ p2_1)) = true then (Option.bind (app? p2_0 [(IntKind.u8.wrap (IntKind.u64.wrap ((Int.tmod p2_1 128) + 128)))]) fun v6006 => (s_l33Number_l3 n v6006 (IntKind.u64.wrap (Int.tdiv p2_1 128)))) else (Option.bind (app? p2_0 [(IntKind.u8.wrap p2_1)]) fun v8004 => (some v8004)))
def s_l33Number_j1 (a0 : List Int) (p0_0 : Int) : Option ((List Int)) :=
  (s_l33Number_l3 fuel a0 p0_0)
def s_l33Number (a0 : List Int) (a1 : Int) : Option ((List Int)) :=
  (if (decide (a1 < 0)) = true then (s_l33Number_j1 a0 (bits BinOp.xor IntKind.u64 (if IntKind.signed IntKind.u64 = true then -1 else IntKind.max IntKind.u64) (IntKind.u64.wrap ((IntKind.u64.wrap a1) * 2 ^ min (Int.toNat 1) (IntKind.bits IntKind.u64))))) else (s_l33Number_j1 a0 (IntKind.u64.wrap ((IntKind.u64.wrap a1) * 2 ^ min (Int.toNat 1) (IntKind.bits IntKind.u64)))))
def i_appendNumber_l3 : Nat → (List Int) → Int → Option ((List Int))
  | 0, _, _ => none
  | n + 1, p2_0, p2_1 => (if (decide (128 ≤ p2_1)) = true then (Option.bind (app? p2_0 [(IntKind.u8.wrap ((IntKind.u8.wrap (Int.tmod p2_1 128)) + 128))]) fun v6006 => (i_appendNumber_l3 n v6006 (IntKind.i64.wrap (Int.tdiv p2_1 128)))) else (Option.bind (app? p2_0 [(IntKind.u8.wrap p2_1)]) fun v8004 => (some v8004)))
def i_appendNumber_j1 (a0 : List Int) (p0_0 : Int) : Option ((List Int)) :=
  (i_appendNumber_l3 fuel a0 p0_0)
def i_appendNumber (a0 : List Int) (a1 : Int) : Option ((List Int)) :=
  (if (decide (a1 < 0)) = true then (i_appendNumber_j1 a0 (IntKind.i64.wrap ((IntKind.i64.wrap ((-2) * a1)) - 1))) else (i_appendNumber_j1 a0 (IntKind.i64.wrap (2 * a1))))
mutual
def s_l33Sum_l3 : Nat → (List Int) → Int → Int → Option (Int)
  | 0, _, _, _ => none
  | n + 1, a0, p0_0, p0_1 => (if (decide (p0_1 < ((List.length a0 : Nat) : Int))) = true then (Option.bind (at? a0 p0_1) fun v6003 => (s_l33Sum_l4 n a0 p0_1 (bits BinOp.xor IntKind.u32 p0_0 (IntKind.u32.wrap v6003)) 0)) else (some (bits BinOp.xor IntKind.u32 p0_0 4294967295)))
def s_l33Sum_l4 : Nat → (List Int) → Int → Int → Int → Option (Int)
  | 0, _, _, _, _ => none
  | n + 1, a0, p0_1, p1_0, p1_1 => (if (decide (p1_1 < 8)) = true then (if (decide ((bits BinOp.and IntKind.u32 p1_0 1) = 1)) = true then (s_l33Sum_l4 n a0 p0_1 (bits BinOp.xor IntKind.u32 (p1_0 / 2 ^ min (Int.toNat 1) (IntKind.bits IntKind.u32)) 3988292384) (IntKind.i64.wrap (p1_1 + 1))) else (s_l33Sum_l4 n a0 p0_1 (p1_0 / 2 ^ min (Int.toNat 1) (IntKind.bits IntKind.u32)) (IntKind.i64.wrap (p1_1 + 1)))) else (s_l33Sum_l3 n a0 p1_0 (IntKind.i64.wrap (p0_1 + 1))))
end
def s_l33Sum (a0 : List Int) : Option (Int) :=
  (s_l33Sum_l3 fuel a0 4294967295 0)
def s_l33Frame (a0 : Int) (a1 : List Int) : Option ((List Int)) :=
  (Option.bind (app? [73, 78, 69, 84, 1, (IntKind.u8.wrap a0)] a1) fun v2004 => (Option.bind (s_l33Sum v2004) fun v3001 => (Option.bind (app? v2004 [(IntKind.u8.wrap v3001), (IntKind.u8.wrap (v3001 / 2 ^ min (Int.toNat 8) (IntKind.bits IntKind.u32))), (IntKind.u8.wrap (v3001 / 2 ^ min (Int.toNat 16) (IntKind.bits IntKind.u32))), (IntKind.u8.wrap (v3001 / 2 ^ min (Int.toNat 24) (IntKind.bits IntKind.u32)))]) fun v4013 => (some v4013))))
def s_l33Close (a0 : Int) (a1 : List Int) : Option ((List Int) × Int) :=
  (if (decide (60000 < (IntKind.i64.wrap (((List.length a1 : Nat) : Int) + 10)))) = true then (some ([], 4)) else (Option.bind (s_l33Frame a0 a1) fun v4002 => (some (v4002, 0))))
def i_frameHead  : Option ((List Int)) :=
  (some [73, 78, 69, 84, 1])
mutual
def i_ChecksumOf_l3 : Nat → (List Int) → Int → Int → Option (Int)
  | 0, _, _, _ => none
  | n + 1, a0, p0_0, p0_1 => (if (decide (p0_1 < ((List.length a0 : Nat) : Int))) = true then (Option.bind (at? a0 p0_1) fun v5000 => (i_ChecksumOf_l4 n a0 p0_1 (bits BinOp.xor IntKind.u32 p0_0 (IntKind.u32.wrap v5000)) 0)) else (some (IntKind.i64.wrap (bits BinOp.xor IntKind.u32 (if IntKind.signed IntKind.u32 = true then -1 else IntKind.max IntKind.u32) p0_0))))
def i_ChecksumOf_l4 : Nat → (List Int) → Int → Int → Int → Option (Int)
  | 0, _, _, _, _ => none
  | n + 1, a0, p0_1, p1_0, p1_1 => (if (decide (p1_1 < 8)) = true then (if (decide ((bits BinOp.and IntKind.u32 p1_0 1) = 1)) = true then (i_ChecksumOf_l4 n a0 p0_1 (bits BinOp.xor IntKind.u32 (p1_0 / 2 ^ min (Int.toNat 1) (IntKind.bits IntKind.u32)) 3988292384) (IntKind.i64.wrap (p1_1 + 1))) else (i_ChecksumOf_l4 n a0 p0_1 (p1_0 / 2 ^ min (Int.toNat 1) (IntKind.bits IntKind.u32)) (IntKind.i64.wrap (p1_1 + 1)))) else (i_ChecksumOf_l3 n a0 p1_0 (IntKind.i64.wrap (p0_1 + 1))))
end
def i_ChecksumOf (a0 : List Int) : Option (Int) :=
  (i_ChecksumOf_l3 fuel a0 4294967295 0)
def i_framed_l2 : Nat → (List Int) → Int → Int → Option ((List Int) × Int)
  | 0, _, _, _ => none
  | n + 1, p1_0, p1_1, p1_2 => (if (decide (p1_2 < 4)) = true then (Option.bind (app? p1_0 [(IntKind.u8.wrap (Int.tmod p1_1 256))]) fun v6005 => (i_framed_l2 n v6005 (IntKind.i64.wrap (Int.tdiv p1_1 256)) (IntKind.i64.wrap (p1_2 + 1)))) else (if (decide (60000 < ((List.length p1_0 : Nat) : Int))) = true then (some ([], 4)) else (some (p1_0, 0))))
def i_framed (a0 : Int) (a1 : List Int) : Option ((List Int) × Int) :=
  (Option.bind i_frameHead fun v2000 => (Option.bind (app? v2000 [a0]) fun v2003 => (Option.bind (app? v2003 a1) fun v2005 => (Option.bind (i_ChecksumOf v2005) fun v3001 => (i_framed_l2 fuel v2005 v3001 0)))))
def l_eqByteS_l1 : Nat → (List Int) → (List Int) → Int → Option (Bool)
  | 0, _, _, _ => none
  | n + 1, a0, a1, p0_0 => (if (decide (p0_0 < ((List.length a0 : Nat) : Int))) = true then (Option.bind (at? a0 p0_0) fun v7002 => (Option.bind (at? a1 p0_0) fun v7006 => (if (!decide (v7002 = v7006)) = true then (some false) else (l_eqByteS_l1 n a0 a1 (IntKind.i64.wrap (p0_0 + 1)))))) else (some true))
def l_eqByteS (a0 : List Int) (a1 : List Int) : Option (Bool) :=
  (if (!decide (((List.length a0 : Nat) : Int) = ((List.length a1 : Nat) : Int))) = true then (some false) else (l_eqByteS_l1 fuel a0 a1 0))
def l_markByteS_l1 : Nat → (List Int) → Int → Int → Option (Int × (List Int))
  | 0, _, _, _ => none
  | n + 1, p0_0, p0_1, p0_2 => (if (decide (p0_2 < ((List.length p0_0 : Nat) : Int))) = true then (Option.bind (at? p0_0 p0_2) fun v5004 => (Option.bind (set1? p0_0 p0_2 (IntKind.u8.wrap p0_1)) fun v5005_8 => (l_markByteS_l1 n v5005_8 (IntKind.i64.wrap (p0_1 + 1)) (IntKind.i64.wrap (p0_2 + 1))))) else (some (p0_1, p0_0)))
def l_markByteS (a0 : List Int) (a1 : Int) : Option (Int × (List Int)) :=
  (l_markByteS_l1 fuel a0 a1 0)
def l_heldByteS_l1 : Nat → (List Int) → Int → Int → Option (Int)
  | 0, _, _, _ => none
  | n + 1, a0, p0_0, p0_1 => (if (decide (p0_1 < ((List.length a0 : Nat) : Int))) = true then (Option.bind (at? a0 p0_1) fun v5002 => (if (!decide (v5002 = (IntKind.u8.wrap p0_0))) = true then (some (-1)) else (l_heldByteS_l1 n a0 (IntKind.i64.wrap (p0_0 + 1)) (IntKind.i64.wrap (p0_1 + 1))))) else (some p0_0))
def l_heldByteS (a0 : List Int) (a1 : Int) : Option (Int) :=
  (l_heldByteS_l1 fuel a0 a1 0)
end Go.Proofs.Ytocpkbclcnjejaa.Ab
