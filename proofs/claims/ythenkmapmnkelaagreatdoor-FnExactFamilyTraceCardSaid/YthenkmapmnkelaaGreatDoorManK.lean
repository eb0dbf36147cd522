/- Lists by pointers. -/
import Derived.Test.YthenkmapmnkelaaGreatDoorAbY
namespace Go.Proofs.YthenkmapmnkelaaGreatDoor.Ab
set_option linter.unusedVariables false
set_option linter.unusedSimpArgs false
open Go.RowKit
structure Stack where
 port:Int
 rest:Option Stack
def Stack.ds:Stack→List D
 |⟨p,none⟩=>[.int .i64 p,.nilp]
 |⟨p,some r⟩=>[.int .i64 p,.ptr r.ds]
theorem Stack.ds_eq (c:Stack):c.ds=[.int .i64 c.port,nopD Stack.ds c.rest] :=by
 obtain⟨p,r⟩:=c
 cases r <;> rw [Stack.ds] <;> rfl
def Stack.avs:Stack→List AV
 |⟨p,none⟩=>[.int .i64 p,.nilp]
 |⟨p,some r⟩=>[.int .i64 p,.rop r.avs 0]
@[go_sem] theorem Stack.avs_eq (c:Stack):c.avs=[.int .i64 c.port,nop Stack.avs c.rest] :=by
 obtain⟨p,r⟩:=c
 cases r <;> rw [Stack.avs] <;> rfl
theorem Stack.nop_some (p:Int) (r:Option Stack):nop Stack.avs (some ⟨p,r⟩)= .rop [.int .i64 p,nop Stack.avs r] 0:=by
 show AV.rop (Stack.avs ⟨p,r⟩) 0=_
 rw [Stack.avs_eq]
attribute [go_sem] Stack.ds_eq
theorem Stack.ds_len (c:Stack):c.ds.length=2:=by rw [Stack.ds_eq]; rfl
theorem Stack.nopa:∀c:Stack,L5 c.ds=c.avs
 |⟨p,none⟩=>by rw [Stack.ds,Stack.avs]; rfl
 |⟨p,some r⟩=>by rw [Stack.ds,Stack.avs]; simp only [L5,ofD,Stack.nopa r]
theorem Stack.nopb:∀c:Stack,unDs c.avs=some c.ds
 |⟨p,none⟩=>by rw [Stack.ds,Stack.avs]; rfl
 |⟨p,some r⟩=>by rw [Stack.ds,Stack.avs]; simp only [unDs,unD,Stack.nopb r,Option.map_some]
theorem Stack.nopc:∀c:Stack,Cp c.avs=true
 |⟨p,none⟩=>by rw [Stack.avs]; rfl
 |⟨p,some r⟩=>by rw [Stack.avs]; simp only [Cp,CC,Stack.nopc r,Bool.and_self]
theorem Stack.nopx:NopOf Stack.ds Stack.avs:=⟨Stack.nopa,Stack.nopb,Stack.nopc⟩
@[go_sem] theorem Stack.nop_of (o:Option Stack):ofD (nopD Stack.ds o)=nop Stack.avs o:=Stack.nopx.of o
@[go_sem] theorem Stack.nop_un (o:Option Stack):unD (nop Stack.avs o)=some (nopD Stack.ds o):=Stack.nopx.un o
@[go_sem] theorem Stack.nop_pu (o:Option Stack):CC (nop Stack.avs o)=true:=Stack.nopx.pu o
@[go_sem] theorem Stack.nop_cl (o:Option Stack) {T B}:cl T B (nop Stack.avs o)=some (nop Stack.avs o):=Stack.nopx.cl o
@[go_sem] theorem Stack.nop_ta (o:Option Stack) {T B}:toA T B (nop Stack.avs o)=some (nop Stack.avs o):=Stack.nopx.ta o
@[go_sem] theorem Stack.nop_pas (o:Option Stack) {y} {σ0}:E2 y σ0 (nop Stack.avs o) (nop Stack.avs o)=True:=Stack.nopx.pas o
@[go_sem] theorem Stack.nop_bk (o:Option Stack) {cv rt rb nt nb}:bak ⟨cv,rt,rb,nt,nb,true⟩ (nop Stack.avs o)=nop Stack.avs o:=Stack.nopx.bk o rfl
@[go_sem] theorem Stack.nop_kn (o:Option Stack) {rt rb}:FR rt rb (nop Stack.avs o)=true:=Stack.nopx.kn o
@[go_sem] theorem Stack.nop_re (o:Option Stack) {rt rb}:ren rt rb (nop Stack.avs o)=nop Stack.avs o:=Stack.nopx.re o
@[go_sem] theorem Stack.nop_mp (o:Option Stack):AV.mp? (nop Stack.avs o)=false:=Stack.nopx.mp o
@[go_sem] theorem Stack.nop_on (o:Option Stack):AV.one (nop Stack.avs o)=true:=Stack.nopx.on o
@[go_sem ↓] theorem Stack.nop_ce (o:Option Stack):cellsOf (nop Stack.avs o)=some [nop Stack.avs o] :=Stack.nopx.ce o
structure Stacks where
 e0:Option Stack
 e1:Option Stack
 e2:Option Stack
 e3:Option Stack
 e4:Option Stack
 e5:Option Stack
 e6:Option Stack
 e7:Option Stack
 e8:Option Stack
def Stacks.l (s:Stacks):List (Option Stack):=[s.e0,s.e1,s.e2,s.e3,s.e4,s.e5,s.e6,s.e7,s.e8]
def Stacks.of?:List (Option Stack)→Option Stacks
 | [a,b,c,d,e,f,g,h,i] =>some ⟨a,b,c,d,e,f,g,h,i⟩
 |_=>none
def Stacks.ds (s:Stacks):List D:=[nopD Stack.ds s.e0,nopD Stack.ds s.e1,nopD Stack.ds s.e2,nopD Stack.ds s.e3,nopD Stack.ds s.e4,nopD Stack.ds s.e5,nopD Stack.ds s.e6,nopD Stack.ds s.e7,nopD Stack.ds s.e8]
@[go_sem] def Stacks.avs (s:Stacks):List AV:=[nop Stack.avs s.e0,nop Stack.avs s.e1,nop Stack.avs s.e2,nop Stack.avs s.e3,nop Stack.avs s.e4,nop Stack.avs s.e5,nop Stack.avs s.e6,nop Stack.avs s.e7,nop Stack.avs s.e8]
theorem Stacks.ds_eq (s:Stacks):s.ds=[nopD Stack.ds s.e0,nopD Stack.ds s.e1,nopD Stack.ds s.e2,nopD Stack.ds s.e3,nopD Stack.ds s.e4,nopD Stack.ds s.e5,nopD Stack.ds s.e6,nopD Stack.ds s.e7,nopD Stack.ds s.e8] :=rfl
attribute [go_sem] Stacks.ds_eq
theorem Stacks.map_l (s:Stacks):List.map (nop Stack.avs) s.l=s.avs:=rfl
theorem Stacks.put {s t:Stacks} {n:Int} {x:Option Stack} {l:List (Option Stack)} (h:Br s.l n x=some l) (ht:Stacks.of? l=some t):splice s.avs n.toNat [nop Stack.avs x] =t.avs:=by
 have e:=Ah h
 have hl:splice s.avs n.toNat [nop Stack.avs x] =List.map (nop Stack.avs) l:=by
  rw [← e,List.map_set,Stacks.map_l]; rfl
 rw [hl]
 unfold Stacks.of? at ht
 split at ht
 ·cases ht; rfl
 ·cases ht
structure ReadBinder where
 lam:Int
 stacks:Stacks
 rest:Option ReadBinder
def ReadBinder.ds:ReadBinder→List D
 |⟨p,s,none⟩=>.int .i64 p::(s.ds++[.nilp])
 |⟨p,s,some r⟩=>.int .i64 p::(s.ds++[.ptr r.ds])
theorem ReadBinder.ds_eq (c:ReadBinder):c.ds=[.int .i64 c.lam,nopD Stack.ds c.stacks.e0,nopD Stack.ds c.stacks.e1,nopD Stack.ds c.stacks.e2,nopD Stack.ds c.stacks.e3,nopD Stack.ds c.stacks.e4,nopD Stack.ds c.stacks.e5,nopD Stack.ds c.stacks.e6,nopD Stack.ds c.stacks.e7,nopD Stack.ds c.stacks.e8,nopD ReadBinder.ds c.rest] :=by
 obtain⟨p,s,r⟩:=c
 cases r <;> rw [ReadBinder.ds] <;> rfl
def ReadBinder.avs:ReadBinder→List AV
 |⟨p,s,none⟩=>.int .i64 p::(s.avs++[.nilp])
 |⟨p,s,some r⟩=>.int .i64 p::(s.avs++[.rop r.avs 0])
@[go_sem] theorem ReadBinder.avs_eq (c:ReadBinder):c.avs=[.int .i64 c.lam,nop Stack.avs c.stacks.e0,nop Stack.avs c.stacks.e1,nop Stack.avs c.stacks.e2,nop Stack.avs c.stacks.e3,nop Stack.avs c.stacks.e4,nop Stack.avs c.stacks.e5,nop Stack.avs c.stacks.e6,nop Stack.avs c.stacks.e7,nop Stack.avs c.stacks.e8,nop ReadBinder.avs c.rest] :=by
 obtain⟨p,s,r⟩:=c
 cases r <;> rw [ReadBinder.avs] <;> rfl
attribute [go_sem] ReadBinder.ds_eq
theorem ReadBinder.ds_len (c:ReadBinder):c.ds.length=11:=by rw [ReadBinder.ds_eq]; rfl
theorem ReadBinder.nopa:∀c:ReadBinder,L5 c.ds=c.avs
 |⟨p,s,none⟩=>by
  rw [ReadBinder.ds_eq,ReadBinder.avs_eq]; simp only [L5,Stack.nop_of]; rfl
 |⟨p,s,some r⟩=>by
  have e:ofD (nopD ReadBinder.ds (some r))=nop ReadBinder.avs (some r):=by simp only [nopD,nop,ofD,ReadBinder.nopa r]
  rw [ReadBinder.ds_eq,ReadBinder.avs_eq]
  simp only [L5,Stack.nop_of,e]; rfl
theorem ReadBinder.nopb:∀c:ReadBinder,unDs c.avs=some c.ds
 |⟨p,s,none⟩=>by
  rw [ReadBinder.ds_eq,ReadBinder.avs_eq]; simp only [unDs,Stack.nop_un]; rfl
 |⟨p,s,some r⟩=>by
  have e:unD (nop ReadBinder.avs (some r))=some (nopD ReadBinder.ds (some r)):=by simp only [nopD,nop,unD,ReadBinder.nopb r,Option.map_some]
  rw [ReadBinder.ds_eq,ReadBinder.avs_eq]
  simp only [unDs,Stack.nop_un,e]; rfl
theorem ReadBinder.nopc:∀c:ReadBinder,Cp c.avs=true
 |⟨p,s,none⟩=>by
  rw [ReadBinder.avs_eq]; simp only [Cp,Stack.nop_pu]; rfl
 |⟨p,s,some r⟩=>by
  have e:CC (nop ReadBinder.avs (some r))=true:=by simp only [nop,CC,ReadBinder.nopc r]
  rw [ReadBinder.avs_eq]
  simp only [Cp,Stack.nop_pu,e]; rfl
theorem ReadBinder.nopx:NopOf ReadBinder.ds ReadBinder.avs:=⟨ReadBinder.nopa,ReadBinder.nopb,ReadBinder.nopc⟩
@[go_sem] theorem ReadBinder.nop_of (o:Option ReadBinder):ofD (nopD ReadBinder.ds o)=nop ReadBinder.avs o:=ReadBinder.nopx.of o
@[go_sem] theorem ReadBinder.nop_un (o:Option ReadBinder):unD (nop ReadBinder.avs o)=some (nopD ReadBinder.ds o):=ReadBinder.nopx.un o
@[go_sem] theorem ReadBinder.nop_pu (o:Option ReadBinder):CC (nop ReadBinder.avs o)=true:=ReadBinder.nopx.pu o
@[go_sem] theorem ReadBinder.nop_cl (o:Option ReadBinder) {T B}:cl T B (nop ReadBinder.avs o)=some (nop ReadBinder.avs o):=ReadBinder.nopx.cl o
@[go_sem] theorem ReadBinder.nop_ta (o:Option ReadBinder) {T B}:toA T B (nop ReadBinder.avs o)=some (nop ReadBinder.avs o):=ReadBinder.nopx.ta o
@[go_sem] theorem ReadBinder.nop_pas (o:Option ReadBinder) {y} {σ0}:E2 y σ0 (nop ReadBinder.avs o) (nop ReadBinder.avs o)=True:=ReadBinder.nopx.pas o
@[go_sem] theorem ReadBinder.nop_bk (o:Option ReadBinder) {cv rt rb nt nb}:bak ⟨cv,rt,rb,nt,nb,true⟩ (nop ReadBinder.avs o)=nop ReadBinder.avs o:=ReadBinder.nopx.bk o rfl
@[go_sem] theorem ReadBinder.nop_kn (o:Option ReadBinder) {rt rb}:FR rt rb (nop ReadBinder.avs o)=true:=ReadBinder.nopx.kn o
@[go_sem] theorem ReadBinder.nop_re (o:Option ReadBinder) {rt rb}:ren rt rb (nop ReadBinder.avs o)=nop ReadBinder.avs o:=ReadBinder.nopx.re o
@[go_sem] theorem ReadBinder.nop_mp (o:Option ReadBinder):AV.mp? (nop ReadBinder.avs o)=false:=ReadBinder.nopx.mp o
@[go_sem] theorem ReadBinder.nop_on (o:Option ReadBinder):AV.one (nop ReadBinder.avs o)=true:=ReadBinder.nopx.on o
@[go_sem ↓] theorem ReadBinder.nop_ce (o:Option ReadBinder):cellsOf (nop ReadBinder.avs o)=some [nop ReadBinder.avs o] :=ReadBinder.nopx.ce o
end Go.Proofs.YthenkmapmnkelaaGreatDoor.Ab
