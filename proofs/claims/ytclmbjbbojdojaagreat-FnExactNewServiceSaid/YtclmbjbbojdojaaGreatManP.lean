/-
  Parcels of a clone whose slices are still shared, or replaced by copies.
-/
import Derived.Test.YtclmbjbbojdojaaGreatModW
import Derived.Test.YtclmbjbbojdojaaGreatAbY
namespace Go.Proofs.YtclmbjbbojdojaaGreat.Ab
set_option linter.unusedVariables false
set_option linter.unusedSimpArgs false
open Go.RowKit
inductive MParcel where
 |sh (x:Parcel)
 |ow (x:Parcel)
def MParcel.ds:MParcel→List D
 | .sh x=>x.dz
 | .ow x=>x.ds
def MParcel.sh?:MParcel→Option Parcel
 | .sh x=>some x
 | .ow _=>none
theorem MParcel.sh_some {m:MParcel} {x:Parcel} (e:m.sh?=some x):m= .sh x:=by
 cases m with
 |sh y=>cases e; rfl
 |ow y=>cases e
def MParcel.ow?:List MParcel→Option (List Parcel)
 | [] =>some []
 | .ow x::l=>(MParcel.ow? l).map (x:: ·)
 | .sh _::_=>none
theorem MParcel.ow_some:∀ {l:List MParcel} {r:List Parcel},MParcel.ow? l=some r→l=List.map MParcel.ow r
 | [],r,h=>by cases h; rfl
 | .ow x::l,r,h=>by
  simp only [MParcel.ow?,Option.map_eq_some_iff] at h
  obtain⟨r',h1,rfl⟩:=h
  rw [List.map_cons,MParcel.ow_some h1]
 | .sh _::_,r,h=>by cases h
theorem MParcel.ds_sh (x:Parcel):(MParcel.sh x).ds =x.dz:=rfl
theorem MParcel.ds_ow (x:Parcel):(MParcel.ow x).ds =x.ds:=rfl
attribute [go_sem] MParcel.ds_sh MParcel.ds_ow
theorem MParcel.ds_len (m:MParcel):m.ds.length=12:=by
 cases m with
 |sh x=>exact Parcel.dz_len x
 |ow x=>exact Parcel.ds_len x
@[go_sem] theorem MParcel.map_sh (l:List Parcel):List.map MParcel.ds (List.map MParcel.sh l)=List.map Parcel.dz l:=by
 rw [List.map_map]; rfl
@[go_sem] theorem MParcel.map_ow (l:List Parcel):List.map MParcel.ds (List.map MParcel.ow l)=List.map Parcel.ds l:=by
 rw [List.map_map]; rfl
theorem Address.ds_clr (x:Address):Ss x.ds=true:=by rw [Address.ds_eq]; rfl
theorem Parcel.ds_clr (x:Parcel):Ss x.ds=true:=by
 rw [Parcel.ds_eq]
 simp only [Ss,clr,ay,My Address.ds_clr,Bool.and_self]
end Go.Proofs.YtclmbjbbojdojaaGreat.Ab
