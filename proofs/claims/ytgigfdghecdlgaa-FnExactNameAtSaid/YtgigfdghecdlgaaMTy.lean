/-
  Data of the program as Lean types; how they lie in memory. Printed by wip/ab/gen.py.
-/
import Derived.Test.YtgigfdghecdlgaaAbY
namespace Go.Proofs.Ytgigfdghecdlgaa.Ab
set_option linter.unusedVariables false
set_option linter.unusedSimpArgs false
set_option maxRecDepth 20000
set_option maxHeartbeats 4000000
open Go.RowKit

structure Core where
  kind : Int
  value : Int
  data : List Int
  kids : List Core
mutual
def Core.ds : Core → List D
  | ⟨x0, x1, x2, x3⟩ => [.int .i64 x0, .int .i64 x1, .sl (List.map i64D x2), .sl (Core.rows x3)]
def Core.rows : List Core → List (List D)
  | [] => []
  | c :: cs => Core.ds c :: Core.rows cs
end
theorem Core.rows_map : ∀ l : List Core, Core.rows l = List.map Core.ds l
  | [] => by rw [Core.rows]; rfl
  | c :: cs => by rw [Core.rows, Core.rows_map cs]; rfl
theorem Core.ds_eq (c : Core) : c.ds = [.int .i64 c.kind, .int .i64 c.value, .sl (List.map i64D c.data), .sl (List.map Core.ds c.kids)] := by
  cases c; rw [Core.ds]; simp only [Core.rows_map]
@[go_sem] def Core.avs (c : Core) : List AV := [.int .i64 c.kind, .int .i64 c.value, .ro (List.map i64D c.data), .ro (List.map Core.ds c.kids)]
@[go_sem] def Core.rv (c : Core) : List RV := [.int .i64 c.kind, .int .i64 c.value, .ow (some 1) (List.map i64D c.data), .ow (some 4) (List.map Core.ds c.kids)]
@[go_sem] def Core.rvn (c : Core) : List RV := [.int .i64 c.kind, .int .i64 c.value, .ow none (List.map i64D c.data), .ow none (List.map Core.ds c.kids)]
attribute [go_sem] Core.ds_eq
theorem Core.ds_len (c : Core) : c.ds.length = 4 := by rw [Core.ds_eq]; rfl
def Core.dz (c : Core) : List D := [.int .i64 c.kind, .int .i64 c.value, .fz (List.map i64D c.data), .fz (List.map Core.ds c.kids)]
@[go_sem] theorem Core.dz_eq (c : Core) : c.dz = [.int .i64 c.kind, .int .i64 c.value, .fz (List.map i64D c.data), .fz (List.map Core.ds c.kids)] := rfl
theorem Core.dz_len (c : Core) : c.dz.length = 4 := rfl
theorem Core.dz_fz (c : Core) : fzC c.ds = c.dz := by rw [Core.ds_eq]; rfl
theorem Core.dz_ng (c : Core) : ∀ d ∈ c.ds, d ≠ .gone := by rw [Core.ds_eq]; exact noGone rfl
@[go_sem] theorem Core.dz_er (l : List Core) : erR (List.map Core.dz l) = List.map Core.ds l := erR_map (fun c => by rw [Core.ds_eq]; simp only [Core.dz, erC, er]) l
structure Labelled where
  term : Core
  labels : List ByteArray
def Labelled.ds (c : Labelled) : List D := [.int .i64 c.term.kind, .int .i64 c.term.value, .sl (List.map i64D c.term.data), .sl (List.map Core.ds c.term.kids), .sl (List.map strD c.labels)]
theorem Labelled.ds_eq (c : Labelled) : c.ds = [.int .i64 c.term.kind, .int .i64 c.term.value, .sl (List.map i64D c.term.data), .sl (List.map Core.ds c.term.kids), .sl (List.map strD c.labels)] := rfl
@[go_sem] def Labelled.avs (c : Labelled) : List AV := [.int .i64 c.term.kind, .int .i64 c.term.value, .ro (List.map i64D c.term.data), .ro (List.map Core.ds c.term.kids), .ro (List.map strD c.labels)]
@[go_sem] def Labelled.rv (c : Labelled) : List RV := [.int .i64 c.term.kind, .int .i64 c.term.value, .ow (some 1) (List.map i64D c.term.data), .ow (some 4) (List.map Core.ds c.term.kids), .ow (some 1) (List.map strD c.labels)]
@[go_sem] def Labelled.rvn (c : Labelled) : List RV := [.int .i64 c.term.kind, .int .i64 c.term.value, .ow none (List.map i64D c.term.data), .ow none (List.map Core.ds c.term.kids), .ow none (List.map strD c.labels)]
attribute [go_sem] Labelled.ds_eq
theorem Labelled.ds_len (c : Labelled) : c.ds.length = 5 := by rw [Labelled.ds_eq]; rfl
def Labelled.dz (c : Labelled) : List D := [.int .i64 c.term.kind, .int .i64 c.term.value, .fz (List.map i64D c.term.data), .fz (List.map Core.ds c.term.kids), .fz (List.map strD c.labels)]
@[go_sem] theorem Labelled.dz_eq (c : Labelled) : c.dz = [.int .i64 c.term.kind, .int .i64 c.term.value, .fz (List.map i64D c.term.data), .fz (List.map Core.ds c.term.kids), .fz (List.map strD c.labels)] := rfl
theorem Labelled.dz_len (c : Labelled) : c.dz.length = 5 := rfl
theorem Labelled.dz_fz (c : Labelled) : fzC c.ds = c.dz := by rw [Labelled.ds_eq]; rfl
theorem Labelled.dz_ng (c : Labelled) : ∀ d ∈ c.ds, d ≠ .gone := by rw [Labelled.ds_eq]; exact noGone rfl
@[go_sem] theorem Labelled.dz_er (l : List Labelled) : erR (List.map Labelled.dz l) = List.map Labelled.ds l := erR_map (fun c => by rw [Labelled.ds_eq]; simp only [Labelled.dz, erC, er]) l
end Go.Proofs.Ytgigfdghecdlgaa.Ab
