/-
  Data of the program as Lean types; how they lie in memory. Printed by wip/ab/gen.py.
-/
import Derived.Test.YtjdinbgcgbigoaaGreatAbY
import Derived.Test.YtjdinbgcgbigoaaGreatModD
namespace Go.Proofs.YtjdinbgcgbigoaaGreat.Ab
set_option linter.unusedVariables false
set_option linter.unusedSimpArgs false
set_option maxRecDepth 20000
set_option maxHeartbeats 4000000
open Go.RowKit
structure Marker where
 b : Book
 marks : List Int
 att : Int
def Marker.ds (c : Marker) : List D := [.sl (List.map Core.ds c.b.defs),.sl (List.map i64D c.marks),.int .i64 c.att]
theorem Marker.ds_eq (c : Marker) : c.ds = [.sl (List.map Core.ds c.b.defs),.sl (List.map i64D c.marks),.int .i64 c.att] := rfl
@[go_sem] def Marker.avs (c : Marker) : List AV := [.ro (List.map Core.ds c.b.defs),.ro (List.map i64D c.marks),.int .i64 c.att]
@[go_sem] def Marker.rv (c : Marker) : List RV := [.ow (some 4) (List.map Core.ds c.b.defs),.ow (some 1) (List.map i64D c.marks),.int .i64 c.att]
@[go_sem] def Marker.rvn (c : Marker) : List RV := [.ow none (List.map Core.ds c.b.defs),.ow none (List.map i64D c.marks),.int .i64 c.att]
attribute [go_sem] Marker.ds_eq
theorem Marker.ds_len (c : Marker) : c.ds.length = 3 := by rw [Marker.ds_eq]; rfl
def Marker.dz (c : Marker) : List D := [.fz (List.map Core.ds c.b.defs),.fz (List.map i64D c.marks),.int .i64 c.att]
@[go_sem] theorem Marker.dz_eq (c : Marker) : c.dz = [.fz (List.map Core.ds c.b.defs),.fz (List.map i64D c.marks),.int .i64 c.att] := rfl
theorem Marker.dz_len (c : Marker) : c.dz.length = 3 := rfl
theorem Marker.dz_fz (c : Marker) : fzC c.ds = c.dz := by rw [Marker.ds_eq]; rfl
theorem Marker.dz_ng (c : Marker) : ∀ d ∈ c.ds,d ≠ .gone := by rw [Marker.ds_eq]; exact noGone rfl
@[go_sem] theorem Marker.dz_er (l : List Marker) : erR (List.map Marker.dz l) = List.map Marker.ds l := erR_map (fun c => by rw [Marker.ds_eq]; simp only [Marker.dz,erC,er]) l
end Go.Proofs.YtjdinbgcgbigoaaGreat.Ab
