/-
  Marks and what is found of them: the helpers of this group. Printed by wip/ab/genhelp.py. No program is in sight.
-/
import Derived.Test.YtclmbjbbojdojaaGreatPlTV
import Derived.Test.YtclmbjbbojdojaaGreatModF
import Derived.Test.YtclmbjbbojdojaaGreatPlNet
import Derived.Test.YtclmbjbbojdojaaGreatAbZ
import Derived.Test.YtclmbjbbojdojaaGreatModO
import Derived.Test.YtclmbjbbojdojaaGreatPlVe
import Derived.Test.YtclmbjbbojdojaaGreatPlValidService
namespace Go.Proofs.YtclmbjbbojdojaaGreat.Ab
set_option linter.unusedVariables false
set_option linter.unusedSimpArgs false
open Go.RowKit
theorem Cs (l:List Int) (k:Nat) (h:l.length≤Big) (hk:k+cnts one l≤KB):D8 l (k:Int)=some (((k+cnts one l:Nat):Int),mks mkI one k l):=by
 unfold D8
 refine Ol (fun n l k i=>C3 n l k i) mkI one (fun _=>True) ?_ ?_ l k (fun _ _=>trivial) h hk
 ·intro n pre post x k hx hk hp
  have e:k+one x=k+1:=by rfl
  rw [e] at hk ⊢
  rw [C3,if_pos Fl]
  simp (maxSteps:=2000000) (disch:=omega) only [Fk,I0,AA,wk,Cr]
  rfl
 ·intro n l k; rw [C3,if_neg (by rw [Fm]; decide)]
theorem Ct (l:List Int) (k:Nat) (h:l.length≤Big) (hk:k+cnts one l≤KB):D9 (mks mkI one k l) (k:Int)=some ((k+cnts one l:Nat):Int):=by
 unfold D9
 refine Om (fun n l k i=>C4 n l k i) mkI one (fun _=>True) ?_ ?_ l k (fun _ _=>trivial) h hk
 ·intro n pre post x k hx hk hp
  have e:k+one x=k+1:=by rfl
  rw [e] at hk ⊢
  rw [C4,if_pos Fl]
  simp (maxSteps:=2000000) (disch:=omega) only [mkI,Fk,AA,wk,Cr,Sx,KS,eq_self,decide_true,Bool.not_true,Bool.false_eq_true,reduceIte]
 ·intro n l k; rw [C4,if_neg (by rw [Fm]; decide)]
def Address.cnt (x:Address):Nat:=1+1+1
def Address.mk1 (k:Nat) (x:Address):Address:=⟨mkI (k) x.machine,mkI (k+1) x.kind,mkI (k+1+1) x.index⟩
def Address.cntV (x:Address):Nat:=0
def Address.mkV (k:Nat) (x:Address):Address:=⟨x.machine,x.kind,x.index⟩
theorem Address.cnt_le (x:Address):x.cnt≤3:=by unfold Address.cnt; omega
theorem Cb (l:List Address) (k:Nat) (h:l.length≤Big) (hk:k+cnts Address.cnt l≤KB):Fg l (k:Int)=some (((k+cnts Address.cnt l:Nat):Int),mks Address.mk1 Address.cnt k l):=by
 unfold Fg
 refine Ol (fun n l k i=>CL n l k i) Address.mk1 Address.cnt (fun _=>True) ?_ ?_ l k (fun _ _=>trivial) h hk
 ·intro n pre post x k hx hk hp
  have e:k+Address.cnt x=k+1+1+1:=by unfold Address.cnt; omega
  rw [e] at hk ⊢
  rw [CL,if_pos Fl]
  simp (maxSteps:=2000000) (disch:=omega) only [Fk,I0,AA,wk,Cr,Cs]
  rfl
 ·intro n l k; rw [CL,if_neg (by rw [Fm]; decide)]
def ShardCell.cnt (x:ShardCell):Nat:=1+1+1+cnts one x.data+cnts Address.cnt x.aux
def ShardCell.mk1 (k:Nat) (x:ShardCell):ShardCell:=⟨mkI (k) x.kind,mkI (k+1) x.level,mkI (k+1+1) x.value,mks mkI one (k+1+1+1) x.data,mks Address.mk1 Address.cnt (k+1+1+1+cnts one x.data) x.aux⟩
def ShardCell.cntV (x:ShardCell):Nat:=cnts one x.data+cnts Address.cnt x.aux
def ShardCell.mkV (k:Nat) (x:ShardCell):ShardCell:=⟨x.kind,x.level,x.value,mks mkI one (k) x.data,mks Address.mk1 Address.cnt (k+cnts one x.data) x.aux⟩
theorem ShardCell.cnt_le (x:ShardCell):x.cnt≤3+3*x.sz:=by
 simp only [ShardCell.cnt,ShardCell.sz]
 have:=A9 (c:=one) (b:=1) (l:=x.data) (fun x=>GT)
 have:=A9 (c:=Address.cnt) (b:=3) (l:=x.aux) (fun x=>Address.cnt_le x)
 omega
theorem ShardCell.cntV_le (x:ShardCell):x.cntV≤3+3*x.sz:=by
 simp only [ShardCell.cntV,ShardCell.sz]
 have:=A9 (c:=one) (b:=1) (l:=x.data) (fun x=>GT)
 have:=A9 (c:=Address.cnt) (b:=3) (l:=x.aux) (fun x=>Address.cnt_le x)
 omega
theorem CQ (l:List ShardCell) (k:Nat) (h:szl ShardCell.sz l≤Big) (hk:k+cnts ShardCell.cnt l≤KB):Fh l (k:Int)=some (((k+cnts ShardCell.cnt l:Nat):Int),mks ShardCell.mk1 ShardCell.cnt k l):=by
 unfold Fh
 refine Ol (fun n l k i=>Bp n l k i) ShardCell.mk1 ShardCell.cnt (fun x=>x.sz≤Big) ?_ ?_ l k (fun x hx=>by have:=BD (s:=ShardCell.sz) hx; omega) (by have:=Aq ShardCell.sz l; omega) hk
 ·intro n pre post x k hx hk hp
  have e:k+ShardCell.cnt x=k+1+1+1+cnts one x.data+cnts Address.cnt x.aux:=by unfold ShardCell.cnt; omega
  rw [e] at hk ⊢
  simp only [ShardCell.sz] at hx
  rw [Bp,if_pos Fl]
  simp (maxSteps:=2000000) (disch:=omega) only [Fk,I0,AA,wk,Cr,Cs,Cb]
  rfl
 ·intro n l k; rw [Bp,if_neg (by rw [Fm]; decide)]
def ShardVar.cnt (x:ShardVar):Nat:=1+1+1+1+1
def ShardVar.mk1 (k:Nat) (x:ShardVar):ShardVar:=⟨Rr (k) x.used,Rr (k+1) x.full,⟨mkI (k+1+1) x.held.machine,mkI (k+1+1+1) x.held.kind,mkI (k+1+1+1+1) x.held.index⟩⟩
def ShardVar.cntV (x:ShardVar):Nat:=0
def ShardVar.mkV (k:Nat) (x:ShardVar):ShardVar:=⟨x.used,x.full,⟨x.held.machine,x.held.kind,x.held.index⟩⟩
theorem ShardVar.cnt_le (x:ShardVar):x.cnt≤5:=by unfold ShardVar.cnt; omega
theorem DN (l:List ShardVar) (k:Nat) (h:l.length≤Big) (hk:k+cnts ShardVar.cnt l≤KB):GJ l (k:Int)=some (((k+cnts ShardVar.cnt l:Nat):Int),mks ShardVar.mk1 ShardVar.cnt k l):=by
 unfold GJ
 refine Ol (fun n l k i=>CB n l k i) ShardVar.mk1 ShardVar.cnt (fun _=>True) ?_ ?_ l k (fun _ _=>trivial) h hk
 ·intro n pre post x k hx hk hp
  have e:k+ShardVar.cnt x=k+1+1+1+1+1:=by unfold ShardVar.cnt; omega
  rw [e] at hk ⊢
  rw [CB,if_pos Fl]
  simp (maxSteps:=2000000) (disch:=omega) only [Fk,I0,AA,wk,Cr,Cs,Cb,CQ]
  rfl
 ·intro n l k; rw [CB,if_neg (by rw [Fm]; decide)]
def ShardRedex.cnt (x:ShardRedex):Nat:=1+1+1+1+1+1
def ShardRedex.mk1 (k:Nat) (x:ShardRedex):ShardRedex:=⟨⟨mkI (k) x.a.machine,mkI (k+1) x.a.kind,mkI (k+1+1) x.a.index⟩,⟨mkI (k+1+1+1) x.b.machine,mkI (k+1+1+1+1) x.b.kind,mkI (k+1+1+1+1+1) x.b.index⟩⟩
def ShardRedex.cntV (x:ShardRedex):Nat:=0
def ShardRedex.mkV (k:Nat) (x:ShardRedex):ShardRedex:=⟨⟨x.a.machine,x.a.kind,x.a.index⟩,⟨x.b.machine,x.b.kind,x.b.index⟩⟩
theorem ShardRedex.cnt_le (x:ShardRedex):x.cnt≤6:=by unfold ShardRedex.cnt; omega
theorem DO (l:List ShardRedex) (k:Nat) (h:l.length≤Big) (hk:k+cnts ShardRedex.cnt l≤KB):E2 l (k:Int)=some (((k+cnts ShardRedex.cnt l:Nat):Int),mks ShardRedex.mk1 ShardRedex.cnt k l):=by
 unfold E2
 refine Ol (fun n l k i=>BY n l k i) ShardRedex.mk1 ShardRedex.cnt (fun _=>True) ?_ ?_ l k (fun _ _=>trivial) h hk
 ·intro n pre post x k hx hk hp
  have e:k+ShardRedex.cnt x=k+1+1+1+1+1+1:=by unfold ShardRedex.cnt; omega
  rw [e] at hk ⊢
  rw [BY,if_pos Fl]
  simp (maxSteps:=2000000) (disch:=omega) only [Fk,I0,AA,wk,Cr,Cs,Cb,CQ,DN]
  rfl
 ·intro n l k; rw [BY,if_neg (by rw [Fm]; decide)]
def Shard.cnt (x:Shard):Nat:=cnts ShardCell.cnt x.cells+cnts ShardVar.cnt x.vars+cnts ShardRedex.cnt x.redexes
def Shard.mk1 (k:Nat) (x:Shard):Shard:=⟨mks ShardCell.mk1 ShardCell.cnt (k) x.cells,mks ShardVar.mk1 ShardVar.cnt (k+cnts ShardCell.cnt x.cells) x.vars,mks ShardRedex.mk1 ShardRedex.cnt (k+cnts ShardCell.cnt x.cells+cnts ShardVar.cnt x.vars) x.redexes⟩
def Shard.cntV (x:Shard):Nat:=cnts ShardCell.cnt x.cells+cnts ShardVar.cnt x.vars+cnts ShardRedex.cnt x.redexes
def Shard.mkV (k:Nat) (x:Shard):Shard:=⟨mks ShardCell.mk1 ShardCell.cnt (k) x.cells,mks ShardVar.mk1 ShardVar.cnt (k+cnts ShardCell.cnt x.cells) x.vars,mks ShardRedex.mk1 ShardRedex.cnt (k+cnts ShardCell.cnt x.cells+cnts ShardVar.cnt x.vars) x.redexes⟩
theorem Shard.cnt_le (x:Shard):x.cnt≤6+6*x.sz:=by
 simp only [Shard.cnt,Shard.sz]
 have:=DX (c:=ShardCell.cnt) (s:=ShardCell.sz) (b:=3) (l:=x.cells) (fun x=>ShardCell.cnt_le x)
 have:=A9 (c:=ShardVar.cnt) (b:=5) (l:=x.vars) (fun x=>ShardVar.cnt_le x)
 have:=A9 (c:=ShardRedex.cnt) (b:=6) (l:=x.redexes) (fun x=>ShardRedex.cnt_le x)
 omega
theorem Shard.cntV_le (x:Shard):x.cntV≤6+6*x.sz:=by
 simp only [Shard.cntV,Shard.sz]
 have:=DX (c:=ShardCell.cnt) (s:=ShardCell.sz) (b:=3) (l:=x.cells) (fun x=>ShardCell.cnt_le x)
 have:=A9 (c:=ShardVar.cnt) (b:=5) (l:=x.vars) (fun x=>ShardVar.cnt_le x)
 have:=A9 (c:=ShardRedex.cnt) (b:=6) (l:=x.redexes) (fun x=>ShardRedex.cnt_le x)
 omega
theorem HT (l:List Shard) (k:Nat) (h:szl Shard.sz l≤Big) (hk:k+cnts Shard.cnt l≤KB):IN l (k:Int)=some (((k+cnts Shard.cnt l:Nat):Int),mks Shard.mk1 Shard.cnt k l):=by
 unfold IN
 refine Ol (fun n l k i=>DC n l k i) Shard.mk1 Shard.cnt (fun x=>x.sz≤Big) ?_ ?_ l k (fun x hx=>by have:=BD (s:=Shard.sz) hx; omega) (by have:=Aq Shard.sz l; omega) hk
 ·intro n pre post x k hx hk hp
  have e:k+Shard.cnt x=k+cnts ShardCell.cnt x.cells+cnts ShardVar.cnt x.vars+cnts ShardRedex.cnt x.redexes:=by unfold Shard.cnt; omega
  rw [e] at hk ⊢
  simp only [Shard.sz] at hx
  rw [DC,if_pos Fl]
  simp (maxSteps:=2000000) (disch:=omega) only [Fk,I0,AA,wk,Cr,Cs,Cb,CQ,DN,DO]
  rfl
 ·intro n l k; rw [DC,if_neg (by rw [Fm]; decide)]
def Grid.cnt (x:Grid):Nat:=cnts Shard.cnt x.shards+1+1+1
def Grid.mk1 (k:Nat) (x:Grid):Grid:=⟨mks Shard.mk1 Shard.cnt (k) x.shards,⟨mkI (k+cnts Shard.cnt x.shards) x.root.machine,mkI (k+cnts Shard.cnt x.shards+1) x.root.kind,mkI (k+cnts Shard.cnt x.shards+1+1) x.root.index⟩⟩
def Grid.cntV (x:Grid):Nat:=cnts Shard.cnt x.shards
def Grid.mkV (k:Nat) (x:Grid):Grid:=⟨mks Shard.mk1 Shard.cnt (k) x.shards,⟨x.root.machine,x.root.kind,x.root.index⟩⟩
theorem Grid.cnt_le (x:Grid):x.cnt≤6+6*x.sz:=by
 simp only [Grid.cnt,Grid.sz]
 have:=DX (c:=Shard.cnt) (s:=Shard.sz) (b:=6) (l:=x.shards) (fun x=>Shard.cnt_le x)
 omega
theorem Grid.cntV_le (x:Grid):x.cntV≤6+6*x.sz:=by
 simp only [Grid.cntV,Grid.sz]
 have:=DX (c:=Shard.cnt) (s:=Shard.sz) (b:=6) (l:=x.shards) (fun x=>Shard.cnt_le x)
 omega
def Parcel.cnt (x:Parcel):Nat:=1+1+1+1+cnts one x.cell.data+cnts Address.cnt x.cell.aux+1+1+1+1+1+1
def Parcel.mk1 (k:Nat) (x:Parcel):Parcel:=⟨mkI (k) x.kind,⟨mkI (k+1) x.cell.kind,mkI (k+1+1) x.cell.level,mkI (k+1+1+1) x.cell.value,mks mkI one (k+1+1+1+1) x.cell.data,mks Address.mk1 Address.cnt (k+1+1+1+1+cnts one x.cell.data) x.cell.aux⟩,⟨mkI (k+1+1+1+1+cnts one x.cell.data+cnts Address.cnt x.cell.aux) x.a.machine,mkI (k+1+1+1+1+cnts one x.cell.data+cnts Address.cnt x.cell.aux+1) x.a.kind,mkI (k+1+1+1+1+cnts one x.cell.data+cnts Address.cnt x.cell.aux+1+1) x.a.index⟩,⟨mkI (k+1+1+1+1+cnts one x.cell.data+cnts Address.cnt x.cell.aux+1+1+1) x.b.machine,mkI (k+1+1+1+1+cnts one x.cell.data+cnts Address.cnt x.cell.aux+1+1+1+1) x.b.kind,mkI (k+1+1+1+1+cnts one x.cell.data+cnts Address.cnt x.cell.aux+1+1+1+1+1) x.b.index⟩⟩
def Parcel.cntV (x:Parcel):Nat:=cnts one x.cell.data+cnts Address.cnt x.cell.aux
def Parcel.mkV (k:Nat) (x:Parcel):Parcel:=⟨x.kind,⟨x.cell.kind,x.cell.level,x.cell.value,mks mkI one (k) x.cell.data,mks Address.mk1 Address.cnt (k+cnts one x.cell.data) x.cell.aux⟩,⟨x.a.machine,x.a.kind,x.a.index⟩,⟨x.b.machine,x.b.kind,x.b.index⟩⟩
theorem Parcel.cnt_le (x:Parcel):x.cnt≤10+10*x.sz:=by
 simp only [Parcel.cnt,Parcel.sz,ShardCell.sz]
 have:=A9 (c:=one) (b:=1) (l:=x.cell.data) (fun x=>GT)
 have:=A9 (c:=Address.cnt) (b:=3) (l:=x.cell.aux) (fun x=>Address.cnt_le x)
 omega
theorem Parcel.cntV_le (x:Parcel):x.cntV≤10+10*x.sz:=by
 simp only [Parcel.cntV,Parcel.sz,ShardCell.sz]
 have:=A9 (c:=one) (b:=1) (l:=x.cell.data) (fun x=>GT)
 have:=A9 (c:=Address.cnt) (b:=3) (l:=x.cell.aux) (fun x=>Address.cnt_le x)
 omega
theorem IX (l:List Parcel) (k:Nat) (h:szl Parcel.sz l≤Big) (hk:k+cnts Parcel.cnt l≤KB):HO l (k:Int)=some (((k+cnts Parcel.cnt l:Nat):Int),mks Parcel.mk1 Parcel.cnt k l):=by
 unfold HO
 refine Ol (fun n l k i=>Cn n l k i) Parcel.mk1 Parcel.cnt (fun x=>x.sz≤Big) ?_ ?_ l k (fun x hx=>by have:=BD (s:=Parcel.sz) hx; omega) (by have:=Aq Parcel.sz l; omega) hk
 ·intro n pre post x k hx hk hp
  have e:k+Parcel.cnt x=k+1+1+1+1+cnts one x.cell.data+cnts Address.cnt x.cell.aux+1+1+1+1+1+1:=by unfold Parcel.cnt; omega
  rw [e] at hk ⊢
  simp only [Parcel.sz,ShardCell.sz] at hx
  rw [Cn,if_pos Fl]
  simp (maxSteps:=2000000) (disch:=omega) only [Fk,I0,AA,wk,Cr,Cs,Cb,CQ,DN,DO,HT]
  rfl
 ·intro n l k; rw [Cn,if_neg (by rw [Fm]; decide)]
theorem JU (l:List (List Parcel)) (k:Nat) (h:szl (szl Parcel.sz) l≤Big) (hk:k+cnts (cnts Parcel.cnt) l≤KB):Gq l (k:Int)=some (((k+cnts (cnts Parcel.cnt) l:Nat):Int),mks (mks Parcel.mk1 Parcel.cnt) (cnts Parcel.cnt) k l):=by
 unfold Gq
 refine Ol (fun n l k i=>CM n l k i) (mks Parcel.mk1 Parcel.cnt) (cnts Parcel.cnt) (fun x=>(szl Parcel.sz) x≤Big) ?_ ?_ l k (fun x hx=>by have:=BD (s:=(szl Parcel.sz)) hx; omega) (by have:=Aq (szl Parcel.sz) l; omega) hk
 ·intro n pre post x k hx hk hp
  have e:k+(cnts Parcel.cnt) x=k+(cnts Parcel.cnt) x:=by rfl
  rw [e] at hk ⊢
  rw [CM,if_pos Fl]
  simp (maxSteps:=2000000) (disch:=omega) only [Fk,I0,AA,wk,Cr,Cs,Cb,CQ,DN,DO,HT,IX]
 ·intro n l k; rw [CM,if_neg (by rw [Fm]; decide)]
theorem NV (l:List (List Int)) (k:Nat) (h:szl List.length l≤Big) (hk:k+cnts (cnts one) l≤KB):HP l (k:Int)=some (((k+cnts (cnts one) l:Nat):Int),mks (mks mkI one) (cnts one) k l):=by
 unfold HP
 refine Ol (fun n l k i=>Co n l k i) (mks mkI one) (cnts one) (fun x=>List.length x≤Big) ?_ ?_ l k (fun x hx=>by have:=BD (s:=List.length) hx; omega) (by have:=Aq List.length l; omega) hk
 ·intro n pre post x k hx hk hp
  have e:k+(cnts one) x=k+(cnts one) x:=by rfl
  rw [e] at hk ⊢
  rw [Co,if_pos Fl]
  simp (maxSteps:=2000000) (disch:=omega) only [Fk,I0,AA,wk,Cr,Cs,Cb,CQ,DN,DO,HT,IX,JU]
 ·intro n l k; rw [Co,if_neg (by rw [Fm]; decide)]
def Cluster.cnt (x:Cluster):Nat:=cnts Shard.cnt x.grid.shards+1+1+1+cnts (cnts Parcel.cnt) x.channels+cnts (cnts one) x.counts+cnts one x.sent+cnts one x.got
def Cluster.mk1 (k:Nat) (x:Cluster):Cluster:=⟨⟨mks Shard.mk1 Shard.cnt (k) x.grid.shards,⟨mkI (k+cnts Shard.cnt x.grid.shards) x.grid.root.machine,mkI (k+cnts Shard.cnt x.grid.shards+1) x.grid.root.kind,mkI (k+cnts Shard.cnt x.grid.shards+1+1) x.grid.root.index⟩⟩,mks (mks Parcel.mk1 Parcel.cnt) (cnts Parcel.cnt) (k+cnts Shard.cnt x.grid.shards+1+1+1) x.channels,mks (mks mkI one) (cnts one) (k+cnts Shard.cnt x.grid.shards+1+1+1+cnts (cnts Parcel.cnt) x.channels) x.counts,mks mkI one (k+cnts Shard.cnt x.grid.shards+1+1+1+cnts (cnts Parcel.cnt) x.channels+cnts (cnts one) x.counts) x.sent,mks mkI one (k+cnts Shard.cnt x.grid.shards+1+1+1+cnts (cnts Parcel.cnt) x.channels+cnts (cnts one) x.counts+cnts one x.sent) x.got⟩
def Cluster.cntV (x:Cluster):Nat:=cnts Shard.cnt x.grid.shards+cnts (cnts Parcel.cnt) x.channels+cnts (cnts one) x.counts+cnts one x.sent+cnts one x.got
def Cluster.mkV (k:Nat) (x:Cluster):Cluster:=⟨⟨mks Shard.mk1 Shard.cnt (k) x.grid.shards,⟨x.grid.root.machine,x.grid.root.kind,x.grid.root.index⟩⟩,mks (mks Parcel.mk1 Parcel.cnt) (cnts Parcel.cnt) (k+cnts Shard.cnt x.grid.shards) x.channels,mks (mks mkI one) (cnts one) (k+cnts Shard.cnt x.grid.shards+cnts (cnts Parcel.cnt) x.channels) x.counts,mks mkI one (k+cnts Shard.cnt x.grid.shards+cnts (cnts Parcel.cnt) x.channels+cnts (cnts one) x.counts) x.sent,mks mkI one (k+cnts Shard.cnt x.grid.shards+cnts (cnts Parcel.cnt) x.channels+cnts (cnts one) x.counts+cnts one x.sent) x.got⟩
theorem Cluster.cnt_le (x:Cluster):x.cnt≤10+10*x.sz:=by
 simp only [Cluster.cnt,Cluster.sz,Grid.sz]
 have:=DX (c:=Shard.cnt) (s:=Shard.sz) (b:=6) (l:=x.grid.shards) (fun x=>Shard.cnt_le x)
 have:=DX (c:=(cnts Parcel.cnt)) (s:=(szl Parcel.sz)) (b:=10) (l:=x.channels) (fun x=>by have:=DX (c:=Parcel.cnt) (s:=Parcel.sz) (b:=10) (l:=x) (fun x=>Parcel.cnt_le x); omega)
 have:=DX (c:=(cnts one)) (s:=List.length) (b:=1) (l:=x.counts) (fun x=>by have:=A9 (c:=one) (b:=1) (l:=x) (fun x=>GT); omega)
 have:=A9 (c:=one) (b:=1) (l:=x.sent) (fun x=>GT)
 have:=A9 (c:=one) (b:=1) (l:=x.got) (fun x=>GT)
 omega
theorem Cluster.cntV_le (x:Cluster):x.cntV≤10+10*x.sz:=by
 simp only [Cluster.cntV,Cluster.sz,Grid.sz]
 have:=DX (c:=Shard.cnt) (s:=Shard.sz) (b:=6) (l:=x.grid.shards) (fun x=>Shard.cnt_le x)
 have:=DX (c:=(cnts Parcel.cnt)) (s:=(szl Parcel.sz)) (b:=10) (l:=x.channels) (fun x=>by have:=DX (c:=Parcel.cnt) (s:=Parcel.sz) (b:=10) (l:=x) (fun x=>Parcel.cnt_le x); omega)
 have:=DX (c:=(cnts one)) (s:=List.length) (b:=1) (l:=x.counts) (fun x=>by have:=A9 (c:=one) (b:=1) (l:=x) (fun x=>GT); omega)
 have:=A9 (c:=one) (b:=1) (l:=x.sent) (fun x=>GT)
 have:=A9 (c:=one) (b:=1) (l:=x.got) (fun x=>GT)
 omega
theorem Xh (l:List Bool) (k:Nat) (h:l.length≤Big) (hk:k+cnts one l≤KB):JB l (k:Int)=some (((k+cnts one l:Nat):Int),mks Rr one k l):=by
 unfold JB
 refine Ol (fun n l k i=>Dj n l k i) Rr one (fun _=>True) ?_ ?_ l k (fun _ _=>trivial) h hk
 ·intro n pre post x k hx hk hp
  have e:k+one x=k+1:=by rfl
  rw [e] at hk ⊢
  rw [Dj,if_pos Fl]
  simp (maxSteps:=2000000) (disch:=omega) only [Fk,I0,AA,wk,Cr,Cs,Cb,CQ,DN,DO,HT,IX,JU,NV]
  rfl
 ·intro n l k; rw [Dj,if_neg (by rw [Fm]; decide)]
theorem Cc (l:List Address) (k:Nat) (h:l.length≤Big) (hk:k+cnts Address.cnt l≤KB):Fi (mks Address.mk1 Address.cnt k l) (k:Int)=some ((k+cnts Address.cnt l:Nat):Int):=by
 unfold Fi
 refine Om (fun n l k i=>CN n l k i) Address.mk1 Address.cnt (fun _=>True) ?_ ?_ l k (fun _ _=>trivial) h hk
 ·intro n pre post x k hx hk hp
  have e:k+Address.cnt x=k+1+1+1:=by unfold Address.cnt; omega
  rw [e] at hk ⊢
  rw [CN,if_pos Fl]
  simp (maxSteps:=2000000) (disch:=omega) only [Address.mk1,mkI,Fk,AA,wk,Cr,Sx,KS,eq_self,decide_true,Bool.not_true,Bool.false_eq_true,reduceIte,Ct]
 ·intro n l k; rw [CN,if_neg (by rw [Fm]; decide)]
theorem CR (l:List ShardCell) (k:Nat) (h:szl ShardCell.sz l≤Big) (hk:k+cnts ShardCell.cnt l≤KB):Fj (mks ShardCell.mk1 ShardCell.cnt k l) (k:Int)=some ((k+cnts ShardCell.cnt l:Nat):Int):=by
 unfold Fj
 refine Om (fun n l k i=>Bq n l k i) ShardCell.mk1 ShardCell.cnt (fun x=>x.sz≤Big) ?_ ?_ l k (fun x hx=>by have:=BD (s:=ShardCell.sz) hx; omega) (by have:=Aq ShardCell.sz l; omega) hk
 ·intro n pre post x k hx hk hp
  have e:k+ShardCell.cnt x=k+1+1+1+cnts one x.data+cnts Address.cnt x.aux:=by unfold ShardCell.cnt; omega
  rw [e] at hk ⊢
  simp only [ShardCell.sz] at hx
  rw [Bq,if_pos Fl]
  simp (maxSteps:=2000000) (disch:=omega) only [ShardCell.mk1,mkI,Fk,AA,wk,Cr,Sx,KS,eq_self,decide_true,Bool.not_true,Bool.false_eq_true,reduceIte,Ct,Cc]
 ·intro n l k; rw [Bq,if_neg (by rw [Fm]; decide)]
theorem DP (l:List ShardVar) (k:Nat) (h:l.length≤Big) (hk:k+cnts ShardVar.cnt l≤KB):GK (mks ShardVar.mk1 ShardVar.cnt k l) (k:Int)=some ((k+cnts ShardVar.cnt l:Nat):Int):=by
 unfold GK
 refine Om (fun n l k i=>CC n l k i) ShardVar.mk1 ShardVar.cnt (fun _=>True) ?_ ?_ l k (fun _ _=>trivial) h hk
 ·intro n pre post x k hx hk hp
  have e:k+ShardVar.cnt x=k+1+1+1+1+1:=by unfold ShardVar.cnt; omega
  rw [e] at hk ⊢
  rw [CC,if_pos Fl]
  simp (maxSteps:=2000000) (disch:=omega) only [ShardVar.mk1,mkI,Fk,AA,wk,Cr,Sx,KS,eq_self,decide_true,Bool.not_true,Bool.false_eq_true,reduceIte,Ct,Cc,CR]
 ·intro n l k; rw [CC,if_neg (by rw [Fm]; decide)]
theorem DQ (l:List ShardRedex) (k:Nat) (h:l.length≤Big) (hk:k+cnts ShardRedex.cnt l≤KB):E3 (mks ShardRedex.mk1 ShardRedex.cnt k l) (k:Int)=some ((k+cnts ShardRedex.cnt l:Nat):Int):=by
 unfold E3
 refine Om (fun n l k i=>BZ n l k i) ShardRedex.mk1 ShardRedex.cnt (fun _=>True) ?_ ?_ l k (fun _ _=>trivial) h hk
 ·intro n pre post x k hx hk hp
  have e:k+ShardRedex.cnt x=k+1+1+1+1+1+1:=by unfold ShardRedex.cnt; omega
  rw [e] at hk ⊢
  rw [BZ,if_pos Fl]
  simp (maxSteps:=2000000) (disch:=omega) only [ShardRedex.mk1,mkI,Fk,AA,wk,Cr,Sx,KS,eq_self,decide_true,Bool.not_true,Bool.false_eq_true,reduceIte,Ct,Cc,CR,DP]
 ·intro n l k; rw [BZ,if_neg (by rw [Fm]; decide)]
theorem HU (l:List Shard) (k:Nat) (h:szl Shard.sz l≤Big) (hk:k+cnts Shard.cnt l≤KB):IP (mks Shard.mk1 Shard.cnt k l) (k:Int)=some ((k+cnts Shard.cnt l:Nat):Int):=by
 unfold IP
 refine Om (fun n l k i=>DD n l k i) Shard.mk1 Shard.cnt (fun x=>x.sz≤Big) ?_ ?_ l k (fun x hx=>by have:=BD (s:=Shard.sz) hx; omega) (by have:=Aq Shard.sz l; omega) hk
 ·intro n pre post x k hx hk hp
  have e:k+Shard.cnt x=k+cnts ShardCell.cnt x.cells+cnts ShardVar.cnt x.vars+cnts ShardRedex.cnt x.redexes:=by unfold Shard.cnt; omega
  rw [e] at hk ⊢
  simp only [Shard.sz] at hx
  rw [DD,if_pos Fl]
  simp (maxSteps:=2000000) (disch:=omega) only [Shard.mk1,mkI,Fk,AA,wk,Cr,Sx,KS,eq_self,decide_true,Bool.not_true,Bool.false_eq_true,reduceIte,Ct,Cc,CR,DP,DQ]
 ·intro n l k; rw [DD,if_neg (by rw [Fm]; decide)]
theorem IY (l:List Parcel) (k:Nat) (h:szl Parcel.sz l≤Big) (hk:k+cnts Parcel.cnt l≤KB):HQ (mks Parcel.mk1 Parcel.cnt k l) (k:Int)=some ((k+cnts Parcel.cnt l:Nat):Int):=by
 unfold HQ
 refine Om (fun n l k i=>Cp n l k i) Parcel.mk1 Parcel.cnt (fun x=>x.sz≤Big) ?_ ?_ l k (fun x hx=>by have:=BD (s:=Parcel.sz) hx; omega) (by have:=Aq Parcel.sz l; omega) hk
 ·intro n pre post x k hx hk hp
  have e:k+Parcel.cnt x=k+1+1+1+1+cnts one x.cell.data+cnts Address.cnt x.cell.aux+1+1+1+1+1+1:=by unfold Parcel.cnt; omega
  rw [e] at hk ⊢
  simp only [Parcel.sz,ShardCell.sz] at hx
  rw [Cp,if_pos Fl]
  simp (maxSteps:=2000000) (disch:=omega) only [Parcel.mk1,mkI,Fk,AA,wk,Cr,Sx,KS,eq_self,decide_true,Bool.not_true,Bool.false_eq_true,reduceIte,Ct,Cc,CR,DP,DQ,HU]
 ·intro n l k; rw [Cp,if_neg (by rw [Fm]; decide)]
theorem JV (l:List (List Parcel)) (k:Nat) (h:szl (szl Parcel.sz) l≤Big) (hk:k+cnts (cnts Parcel.cnt) l≤KB):Gr (mks (mks Parcel.mk1 Parcel.cnt) (cnts Parcel.cnt) k l) (k:Int)=some ((k+cnts (cnts Parcel.cnt) l:Nat):Int):=by
 unfold Gr
 refine Om (fun n l k i=>CO n l k i) (mks Parcel.mk1 Parcel.cnt) (cnts Parcel.cnt) (fun x=>(szl Parcel.sz) x≤Big) ?_ ?_ l k (fun x hx=>by have:=BD (s:=(szl Parcel.sz)) hx; omega) (by have:=Aq (szl Parcel.sz) l; omega) hk
 ·intro n pre post x k hx hk hp
  have e:k+(cnts Parcel.cnt) x=k+(cnts Parcel.cnt) x:=by rfl
  rw [e] at hk ⊢
  rw [CO,if_pos Fl]
  simp (maxSteps:=2000000) (disch:=omega) only [mkI,Fk,AA,wk,Cr,Sx,KS,eq_self,decide_true,Bool.not_true,Bool.false_eq_true,reduceIte,Ct,Cc,CR,DP,DQ,HU,IY]
 ·intro n l k; rw [CO,if_neg (by rw [Fm]; decide)]
theorem NW (l:List (List Int)) (k:Nat) (h:szl List.length l≤Big) (hk:k+cnts (cnts one) l≤KB):HR (mks (mks mkI one) (cnts one) k l) (k:Int)=some ((k+cnts (cnts one) l:Nat):Int):=by
 unfold HR
 refine Om (fun n l k i=>Cq n l k i) (mks mkI one) (cnts one) (fun x=>List.length x≤Big) ?_ ?_ l k (fun x hx=>by have:=BD (s:=List.length) hx; omega) (by have:=Aq List.length l; omega) hk
 ·intro n pre post x k hx hk hp
  have e:k+(cnts one) x=k+(cnts one) x:=by rfl
  rw [e] at hk ⊢
  rw [Cq,if_pos Fl]
  simp (maxSteps:=2000000) (disch:=omega) only [mkI,Fk,AA,wk,Cr,Sx,KS,eq_self,decide_true,Bool.not_true,Bool.false_eq_true,reduceIte,Ct,Cc,CR,DP,DQ,HU,IY,JV]
 ·intro n l k; rw [Cq,if_neg (by rw [Fm]; decide)]
theorem Xi (l:List Bool) (k:Nat) (h:l.length≤Big) (hk:k+cnts one l≤KB):JC (mks Rr one k l) (k:Int)=some ((k+cnts one l:Nat):Int):=by
 unfold JC
 refine Om (fun n l k i=>Dk n l k i) Rr one (fun _=>True) ?_ ?_ l k (fun _ _=>trivial) h hk
 ·intro n pre post x k hx hk hp
  have e:k+one x=k+1:=by rfl
  rw [e] at hk ⊢
  rw [Dk,if_pos Fl]
  simp (maxSteps:=2000000) (disch:=omega) only [mkI,Fk,AA,wk,Cr,Sx,KS,eq_self,decide_true,Bool.not_true,Bool.false_eq_true,reduceIte,Ct,Cc,CR,DP,DQ,HU,IY,JV,NW]
 ·intro n l k; rw [Dk,if_neg (by rw [Fm]; decide)]
structure Detector.Ok (x:Detector):Prop where
 cluster:Cluster.Ok x.cluster
 holder:(Lit.int IntKind.i64 x.holder).wf =true
 count:(Lit.int IntKind.i64 x.count).wf =true
 stained:(x.stained.length≤9223372036854775807∧∀e ∈ x.stained,True)
 rounds:(Lit.int IntKind.i64 x.rounds).wf =true
theorem Detector.ok_of (x:Detector) (h:Et (Detector.ds x)):x.Ok:=by
 rw [Detector.ds_eq] at h
 simp only [Et,D.ok,List.length_map] at h
 obtain⟨h1,h2,h3,h4,h5,h6,h7,h8,h9,h10,h11,h12,h13,h14,-⟩:=h
 exact⟨Cluster.ok_of _ (by rw [Cluster.ds_eq]; simp only [Et,D.ok,List.length_map]; exact⟨h1,h2,h3,h4,h5,h6,h7,h8,trivial⟩),h9,h10,⟨h12.1,fun e he=>trivial⟩,h13⟩
theorem Detector.eq_iff (x y:Detector):x=y↔x.cluster=y.cluster∧x.holder=y.holder∧x.count=y.count∧x.dark=y.dark∧x.stained=y.stained∧x.rounds=y.rounds∧x.announced=y.announced:=by
 cases x; cases y; simp only [Detector.mk.injEq]
def Detector.sz (x:Detector):Nat:=x.cluster.sz+(x.stained.length+0)
theorem Vi (x:Detector) (h:x.Ok) (left:Nat) (h1:left≤1048576):H7 x left=some (szr x.sz left):=by
 unfold H7 Detector.sz
 exact F8 (XV _ h.cluster _ (by omega)) fun _=>F8 (aS _ h.stained.1 h.stained.2 _ (by omega)) fun _=>LA
theorem Vj (x:Detector) (h:x.sz≤Big):EA x=some x:=by
 unfold EA
 rw [XW _ (by have:=h; simp only [Detector.sz] at this; omega),AA]
 rw [aT _ (by have:=h; simp only [Detector.sz] at this; omega),AA]
 first|done|rfl
theorem Ln (x y:Detector) (h:x.sz≤Big):Bu (DR x y) (x=y):=by
 unfold DR
 exact Bu.iff (Af (S0 _ _ (by have:=h; simp only [Detector.sz] at this; omega)) fun _=>C2 IS fun _=>C2 IS fun _=>C2 beq_iff_eq fun _=>Af (Vc _ _ (by have:=h; simp only [Detector.sz] at this; omega)) fun _=>C2 IS fun _=>C2 beq_iff_eq fun _=>F9) (by rw [Detector.eq_iff]; simp only [and_true])
def Detector.cnt (x:Detector):Nat:=cnts Shard.cnt x.cluster.grid.shards+1+1+1+cnts (cnts Parcel.cnt) x.cluster.channels+cnts (cnts one) x.cluster.counts+cnts one x.cluster.sent+cnts one x.cluster.got+1+1+1+cnts one x.stained+1+1
def Detector.mk1 (k:Nat) (x:Detector):Detector:=⟨⟨⟨mks Shard.mk1 Shard.cnt (k) x.cluster.grid.shards,⟨mkI (k+cnts Shard.cnt x.cluster.grid.shards) x.cluster.grid.root.machine,mkI (k+cnts Shard.cnt x.cluster.grid.shards+1) x.cluster.grid.root.kind,mkI (k+cnts Shard.cnt x.cluster.grid.shards+1+1) x.cluster.grid.root.index⟩⟩,mks (mks Parcel.mk1 Parcel.cnt) (cnts Parcel.cnt) (k+cnts Shard.cnt x.cluster.grid.shards+1+1+1) x.cluster.channels,mks (mks mkI one) (cnts one) (k+cnts Shard.cnt x.cluster.grid.shards+1+1+1+cnts (cnts Parcel.cnt) x.cluster.channels) x.cluster.counts,mks mkI one (k+cnts Shard.cnt x.cluster.grid.shards+1+1+1+cnts (cnts Parcel.cnt) x.cluster.channels+cnts (cnts one) x.cluster.counts) x.cluster.sent,mks mkI one (k+cnts Shard.cnt x.cluster.grid.shards+1+1+1+cnts (cnts Parcel.cnt) x.cluster.channels+cnts (cnts one) x.cluster.counts+cnts one x.cluster.sent) x.cluster.got⟩,mkI (k+cnts Shard.cnt x.cluster.grid.shards+1+1+1+cnts (cnts Parcel.cnt) x.cluster.channels+cnts (cnts one) x.cluster.counts+cnts one x.cluster.sent+cnts one x.cluster.got) x.holder,mkI (k+cnts Shard.cnt x.cluster.grid.shards+1+1+1+cnts (cnts Parcel.cnt) x.cluster.channels+cnts (cnts one) x.cluster.counts+cnts one x.cluster.sent+cnts one x.cluster.got+1) x.count,Rr (k+cnts Shard.cnt x.cluster.grid.shards+1+1+1+cnts (cnts Parcel.cnt) x.cluster.channels+cnts (cnts one) x.cluster.counts+cnts one x.cluster.sent+cnts one x.cluster.got+1+1) x.dark,mks Rr one (k+cnts Shard.cnt x.cluster.grid.shards+1+1+1+cnts (cnts Parcel.cnt) x.cluster.channels+cnts (cnts one) x.cluster.counts+cnts one x.cluster.sent+cnts one x.cluster.got+1+1+1) x.stained,mkI (k+cnts Shard.cnt x.cluster.grid.shards+1+1+1+cnts (cnts Parcel.cnt) x.cluster.channels+cnts (cnts one) x.cluster.counts+cnts one x.cluster.sent+cnts one x.cluster.got+1+1+1+cnts one x.stained) x.rounds,Rr (k+cnts Shard.cnt x.cluster.grid.shards+1+1+1+cnts (cnts Parcel.cnt) x.cluster.channels+cnts (cnts one) x.cluster.counts+cnts one x.cluster.sent+cnts one x.cluster.got+1+1+1+cnts one x.stained+1) x.announced⟩
def Detector.cntV (x:Detector):Nat:=cnts Shard.cnt x.cluster.grid.shards+cnts (cnts Parcel.cnt) x.cluster.channels+cnts (cnts one) x.cluster.counts+cnts one x.cluster.sent+cnts one x.cluster.got+cnts one x.stained
def Detector.mkV (k:Nat) (x:Detector):Detector:=⟨⟨⟨mks Shard.mk1 Shard.cnt (k) x.cluster.grid.shards,⟨x.cluster.grid.root.machine,x.cluster.grid.root.kind,x.cluster.grid.root.index⟩⟩,mks (mks Parcel.mk1 Parcel.cnt) (cnts Parcel.cnt) (k+cnts Shard.cnt x.cluster.grid.shards) x.cluster.channels,mks (mks mkI one) (cnts one) (k+cnts Shard.cnt x.cluster.grid.shards+cnts (cnts Parcel.cnt) x.cluster.channels) x.cluster.counts,mks mkI one (k+cnts Shard.cnt x.cluster.grid.shards+cnts (cnts Parcel.cnt) x.cluster.channels+cnts (cnts one) x.cluster.counts) x.cluster.sent,mks mkI one (k+cnts Shard.cnt x.cluster.grid.shards+cnts (cnts Parcel.cnt) x.cluster.channels+cnts (cnts one) x.cluster.counts+cnts one x.cluster.sent) x.cluster.got⟩,x.holder,x.count,x.dark,mks Rr one (k+cnts Shard.cnt x.cluster.grid.shards+cnts (cnts Parcel.cnt) x.cluster.channels+cnts (cnts one) x.cluster.counts+cnts one x.cluster.sent+cnts one x.cluster.got) x.stained,x.rounds,x.announced⟩
theorem Detector.cnt_le (x:Detector):x.cnt≤10+10*x.sz:=by
 simp only [Detector.cnt,Detector.sz,Cluster.sz,Grid.sz]
 have:=DX (c:=Shard.cnt) (s:=Shard.sz) (b:=6) (l:=x.cluster.grid.shards) (fun x=>Shard.cnt_le x)
 have:=DX (c:=(cnts Parcel.cnt)) (s:=(szl Parcel.sz)) (b:=10) (l:=x.cluster.channels) (fun x=>by have:=DX (c:=Parcel.cnt) (s:=Parcel.sz) (b:=10) (l:=x) (fun x=>Parcel.cnt_le x); omega)
 have:=DX (c:=(cnts one)) (s:=List.length) (b:=1) (l:=x.cluster.counts) (fun x=>by have:=A9 (c:=one) (b:=1) (l:=x) (fun x=>GT); omega)
 have:=A9 (c:=one) (b:=1) (l:=x.cluster.sent) (fun x=>GT)
 have:=A9 (c:=one) (b:=1) (l:=x.cluster.got) (fun x=>GT)
 have:=A9 (c:=one) (b:=1) (l:=x.stained) (fun x=>GT)
 omega
theorem Detector.cntV_le (x:Detector):x.cntV≤10+10*x.sz:=by
 simp only [Detector.cntV,Detector.sz,Cluster.sz,Grid.sz]
 have:=DX (c:=Shard.cnt) (s:=Shard.sz) (b:=6) (l:=x.cluster.grid.shards) (fun x=>Shard.cnt_le x)
 have:=DX (c:=(cnts Parcel.cnt)) (s:=(szl Parcel.sz)) (b:=10) (l:=x.cluster.channels) (fun x=>by have:=DX (c:=Parcel.cnt) (s:=Parcel.sz) (b:=10) (l:=x) (fun x=>Parcel.cnt_le x); omega)
 have:=DX (c:=(cnts one)) (s:=List.length) (b:=1) (l:=x.cluster.counts) (fun x=>by have:=A9 (c:=one) (b:=1) (l:=x) (fun x=>GT); omega)
 have:=A9 (c:=one) (b:=1) (l:=x.cluster.sent) (fun x=>GT)
 have:=A9 (c:=one) (b:=1) (l:=x.cluster.got) (fun x=>GT)
 have:=A9 (c:=one) (b:=1) (l:=x.stained) (fun x=>GT)
 omega
theorem MX (x:Detector) (k:Nat) (h:x.sz≤Big) (hk:k+x.cntV≤KB):Dd x (k:Int)=some (((k+x.cntV:Nat):Int),mks Shard.mk1 Shard.cnt (k) x.cluster.grid.shards,mks (mks Parcel.mk1 Parcel.cnt) (cnts Parcel.cnt) (k+cnts Shard.cnt x.cluster.grid.shards) x.cluster.channels,mks (mks mkI one) (cnts one) (k+cnts Shard.cnt x.cluster.grid.shards+cnts (cnts Parcel.cnt) x.cluster.channels) x.cluster.counts,mks mkI one (k+cnts Shard.cnt x.cluster.grid.shards+cnts (cnts Parcel.cnt) x.cluster.channels+cnts (cnts one) x.cluster.counts) x.cluster.sent,mks mkI one (k+cnts Shard.cnt x.cluster.grid.shards+cnts (cnts Parcel.cnt) x.cluster.channels+cnts (cnts one) x.cluster.counts+cnts one x.cluster.sent) x.cluster.got,mks Rr one (k+cnts Shard.cnt x.cluster.grid.shards+cnts (cnts Parcel.cnt) x.cluster.channels+cnts (cnts one) x.cluster.counts+cnts one x.cluster.sent+cnts one x.cluster.got) x.stained):=by
 have e:k+x.cntV=k+cnts Shard.cnt x.cluster.grid.shards+cnts (cnts Parcel.cnt) x.cluster.channels+cnts (cnts one) x.cluster.counts+cnts one x.cluster.sent+cnts one x.cluster.got+cnts one x.stained:=by unfold Detector.cntV; omega
 rw [e] at hk ⊢
 simp only [Detector.sz,Cluster.sz,Grid.sz] at h
 unfold Dd
 try unfold Iy
 try unfold MH
 simp (maxSteps:=2000000) (disch:=omega) only [AA,wk,Cs,Cb,CQ,DN,DO,HT,IX,JU,NV,Xh]
theorem S4 (x:Detector) (k:Nat) (h:x.sz≤Big) (hk:k+x.cntV≤KB):ER (Detector.mkV k x) (k:Int)=some ((k+x.cntV:Nat):Int):=by
 have e:k+x.cntV=k+cnts Shard.cnt x.cluster.grid.shards+cnts (cnts Parcel.cnt) x.cluster.channels+cnts (cnts one) x.cluster.counts+cnts one x.cluster.sent+cnts one x.cluster.got+cnts one x.stained:=by unfold Detector.cntV; omega
 rw [e] at hk ⊢
 simp only [Detector.sz,Cluster.sz,Grid.sz] at h
 unfold ER
 try unfold Iz
 try unfold MI
 simp (maxSteps:=2000000) (disch:=omega) only [Detector.mkV,AA,wk,Sx,KS,eq_self,decide_true,Bool.not_true,Bool.false_eq_true,reduceIte,Ct,Cc,CR,DP,DQ,HU,IY,JV,NW,Xi]
set_option maxHeartbeats 1000000
theorem Tj {α:Type} {l:List α} {i:Int} {y:α}:A4 l i y=some (l.set i.toNat y):=rfl
theorem Wz {α β:Type} (l:List α) (f:α→Option α) (L:Nat→List α→Int→Option β) (K:List α→Option β)
  (hL:∀n a i,L (n+1) a i=if (decide (i<(l.length:Int)))=true then ((at? l i).bind fun x=>(f x).bind fun y=>(Es a [y]).bind fun b=>L n b (IntKind.i64.wrap (i+1))) else K a)
  (hf:∀x ∈ l,f x=some x) (hl:l.length≤Big):∀ (post pre:List α) (n:Nat),l=pre++post→post.length<n→L n pre (pre.length:Int)=K l
 | [],pre,n,h,hn=>by
  obtain⟨n,rfl⟩:∃k,n=k+1:=⟨n - 1,by omega⟩
  rw [hL,DF h,if_neg (by simp),h,List.append_nil]
 |x::post,pre,n,h,hn=>by
  rw [List.length_cons] at hn
  obtain⟨n,rfl⟩:∃k,n=k+1:=⟨n - 1,by omega⟩
  have hlen:pre.length+(post.length+1)≤Big:=by rw [h] at hl; grind
  rw [hL,if_pos (CD h),Ak h,AA,hf x (by rw [h]; simp),AA,EF (by grind),AA,AT h hl]
  exact Wz l f L K hL hf hl post (pre++[x]) n (Ba h) (by omega)
theorem gf {α β:Type} (z:α) (l:List α) (f:α→Option α) (L:Nat→List α→Int→Option β) (K:List α→Option β)
  (hL:∀n a i,L (n+1) a i=if (decide (i<(l.length:Int)))=true then ((at? l i).bind fun x=>(f x).bind fun y=>(at? a i).bind fun _=>(A4 a i y).bind fun b=>L n b (IntKind.i64.wrap (i+1))) else K a)
  (hf:∀x ∈ l,f x=some x) (hl:l.length≤Big):∀ (post pre:List α) (n:Nat),l=pre++post→post.length<n→L n (pre++List.replicate post.length z) (pre.length:Int)=K l
 | [],pre,n,h,hn=>by
  obtain⟨n,rfl⟩:∃k,n=k+1:=⟨n - 1,by omega⟩
  rw [hL,DF h,if_neg (by simp),h,List.length_nil,List.replicate_zero]
 | x::post,pre,n,h,hn=>by
  rw [List.length_cons] at hn
  obtain⟨n,rfl⟩:∃k,n=k+1:=⟨n - 1,by omega⟩
  have e:pre++List.replicate (post.length+1) z=pre++z::List.replicate post.length z:=by rw [List.replicate_succ]
  rw [List.length_cons,e,hL,if_pos (CD h),Ak h,AA,hf x (by rw [h]; simp),AA,Ak (l:=pre++z::List.replicate post.length z) rfl,AA,Tj,AA,AT h hl]
  rw [show (pre++z::List.replicate post.length z).set (pre.length:Int).toNat x=(pre++[x])++List.replicate post.length z by
   rw [Int.toNat_natCast,List.set_append_right _ _ (Nat.le_refl _),Nat.sub_self,List.set_cons_zero,List.append_assoc,List.singleton_append]]
  exact gf z l f L K hL hf hl post (pre++[x]) n (Ba h) (by omega)
theorem Qo {α:Type} {l:List α} (h:l.length≤Big):Es [] l=some l:=by
 rw [EF (by grind),List.nil_append]
theorem Jw {α:Type} {l:List α} (h:l.length≤Big):((Es [] l).bind fun v=>some v)=some l:=by
 rw [Qo h,AA]
theorem JM {n:Nat} (h:n≤Big):n<fuel:=by rw [Ax]; grind
theorem cM {c:ShardCell} (h:c.sz≤Big):F0 c=some c:=by
 unfold ShardCell.sz at h
 unfold F0
 rw [Lj (by omega),AA,Qo (by omega),AA]
theorem gg {s:Shard} (h:s.sz≤Big):GP s=some s:=by
 unfold Shard.sz at h
 have hl:=Aq ShardCell.sz s.cells
 unfold GP
 rw [Qo (by omega),AA,Qo (by omega),AA]
 have:=Wz s.cells F0 (fun n a i=>DJ n s s.vars s.redexes a i) (fun a=>some ⟨a,s.vars,s.redexes⟩) (fun n a i=>by rw [DJ]) (fun c hc=>cM (by grind [BD])) (by omega) s.cells [] fuel rfl (JM (by omega))
 omega
theorem jm {g:Grid} (h:g.sz≤Big):IB g=some g:=by
 unfold Grid.sz at h
 have hl:=Aq Shard.sz g.shards
 unfold IB
 have:=Wz g.shards GP (fun n a i=>Dx n g a i) (fun a=>some ⟨a,g.root⟩) (fun n a i=>by rw [Dx]) (fun c hc=>gg (by grind [BD])) (by omega) g.shards [] fuel rfl (JM (by omega))
 omega
theorem eI {s:Shard} (h:s.sz≤Big):Hs s=some s:=by
 unfold Shard.sz at h
 have hl:=Aq ShardCell.sz s.cells
 unfold Hs
 rw [show EC s.vars=some s.vars from Jw (by omega),AA,show DW s.redexes=some s.redexes from Jw (by omega),AA]
 have:=Wz s.cells (fun c=>(CA c.data).bind fun d=>(Br c.aux).bind fun a=>some ⟨c.kind,c.level,c.value,d,a⟩) (fun n a i=>EW n s s.vars s.redexes a i) (fun a=>some ⟨a,s.vars,s.redexes⟩) (fun n a i=>by rw [EW]; simp only [Option.bind_assoc,Option.bind_some]) (fun c hc=>by
  have:=BD (s:=ShardCell.sz) hc
  have e:c.sz=c.data.length+(c.aux.length+0):=rfl
  rw [Is (by omega),AA,show Br c.aux=some c.aux from Jw (by omega),AA]) (by omega) s.cells [] fuel rfl (JM (by omega))
 simpa using this
theorem gh {g:Grid} (h:g.sz≤Big):KJ g=some g:=by
 unfold Grid.sz at h
 have hl:=Aq Shard.sz g.shards
 unfold KJ
 have:=Wz g.shards Hs (fun n a i=>FF n g a i) (fun a=>some ⟨a,g.root⟩) (fun n a i=>by rw [FF]) (fun c hc=>eI (by grind [BD])) (by omega) g.shards [] fuel rfl (JM (by omega))
 omega
theorem kP (C:List (List Parcel)) (hC:C.length≤Big) (i:Nat) (x:List Parcel) (hi:at? C (i:Int)=some x) (hx:szl Parcel.sz x≤Big) (acc:List (List Parcel)) (hacc:acc.length+1≤Big) (Z:List (List Parcel)) (N:Nat)
  (hZ:∀m,N≤m→A8 m C (acc++[x]) (IntKind.i64.wrap ((i:Int)+1))=some Z):∀ (post pre:List Parcel) (m:Nat),x=pre++post→N+post.length<m→BX m C acc (i:Int) pre (pre.length:Int)=some Z
 | [],pre,m,h,hm=>by
  obtain⟨m,rfl⟩:∃k,m=k+1:=⟨m - 1,by omega⟩
  rw [BX,hi,AA,DF h,if_neg (by simp),EF (by omega),AA]
  rw [h,List.append_nil] at hZ
  grind
 |p::post,pre,m,h,hm=>by
  rw [List.length_cons] at hm
  obtain⟨m,rfl⟩:∃k,m=k+1:=⟨m - 1,by omega⟩
  have hl:=Aq Parcel.sz x
  have hp:=BD (s:=Parcel.sz) (show p ∈ x by rw [h]; simp)
  have hlen:pre.length+(post.length+1)≤Big:=by rw [h] at hl hx; grind
  rw [BX,hi,AA,if_pos (CD h),AA,Ak h,AA,cM (by have e:p.sz=p.cell.sz+0:=rfl; omega),AA,EF (by grind),AA,AT h (by omega)]
  exact kP C hC i x hi hx acc hacc Z N hZ post (pre++[p]) m (Ba h) (by omega)
theorem kQ (C:List (List Parcel)) (hC:szl (szl Parcel.sz) C≤Big):∀ (post pre:List (List Parcel)) (m:Nat),C=pre++post→2*szl List.length post<m→A8 m C pre (pre.length:Int)=some C
 | [],pre,m,h,hm=>by
  obtain⟨m,rfl⟩:∃k,m=k+1:=⟨m - 1,by omega⟩
  rw [A8,DF h,if_neg (by simp),h,List.append_nil]
 |x::post,pre,m,h,hm=>by
  rw [szl] at hm
  obtain⟨m,rfl⟩:∃k,m=k+1:=⟨m - 1,by omega⟩
  have hl:=Aq (szl Parcel.sz) C
  have hx:=BD (s:=szl Parcel.sz) (show x ∈ C by rw [h]; simp)
  have hlen:pre.length+1≤Big:=by rw [h] at hl hC; simp only [List.length_append,List.length_cons] at hl; omega
  rw [A8,if_pos (CD h)]
  refine kP C (by omega) pre.length x (Ak h) (by omega) pre hlen C (2*szl List.length post+1) (fun k hk=>?_) x [] m rfl (by omega)
  rw [AT h (by omega)]
  exact kQ C hC post (pre++[x]) k (Ba h) (by omega)
theorem gi {α:Type} {s t:α→Nat} (h:∀x,s x≤t x):∀l:List α,szl s l≤szl t l
 | [] =>Nat.le_refl _
 |x::l=>by rw [szl,szl]; have:=h x; have:=gi h l; omega
theorem ZV {C:List (List Parcel)} (h:szl (szl Parcel.sz) C≤Big):Fe C=some C:=by
 unfold Fe
 have h1:=gi (s:=List.length) (t:=szl Parcel.sz) (fun x=>Aq _ x) C
 have:=kQ C h C [] fuel rfl (by rw [Ax]; unfold Big at h; omega)
 simpa using this
theorem kR (l:List Parcel) (h:szl Parcel.sz l≤Big):∀ (post pre:List Parcel) (n:Nat),l=pre++post→post.length<n→Cm n l (List.map MParcel.ow pre++List.map MParcel.sh post) (pre.length:Int)=some l
 | [],pre,n,hl,hn=>by
  obtain⟨n,rfl⟩:∃k,n=k+1:=⟨n - 1,by omega⟩
  rw [Cm,DF hl,if_neg (by simp),List.map_nil,List.append_nil]
  have:MParcel.ow? (pre.map MParcel.ow)=some pre:=by
   clear hl hn
   induction pre with
   |nil=>rfl
   |cons p pre ih=>rw [List.map_cons,MParcel.ow?,ih]; rfl
  rw [this,AA,hl,List.append_nil]
 | p::post,pre,n,hl,hn=>by
  rw [List.length_cons] at hn
  obtain⟨n,rfl⟩:∃k,n=k+1:=⟨n - 1,by omega⟩
  have hp:=BD (s:=Parcel.sz) (show p ∈ l by rw [hl]; simp)
  have e0:p.sz=p.cell.data.length+(p.cell.aux.length+0)+0:=rfl
  have hll:=Aq Parcel.sz l
  have e:List.map MParcel.ow pre++List.map MParcel.sh (p::post)=List.map MParcel.ow pre++ .sh p::List.map MParcel.sh post:=rfl
  have hat:at? (List.map MParcel.ow pre++ .sh p::List.map MParcel.sh post) (pre.length:Int)=some (.sh p):=by
   have:=Ak (l:=List.map MParcel.ow pre++ .sh p::List.map MParcel.sh post) rfl
   rwa [List.length_map] at this
  rw [Cm,if_pos (CD hl),e]
  simp only [hat,AA,MParcel.sh?]
  rw [Is (by omega),AA,show Br p.cell.aux=some p.cell.aux from Jw (by omega),AA,Tj,AA,AT hl (by omega)]
  rw [show (List.map MParcel.ow pre++MParcel.sh p::List.map MParcel.sh post).set (pre.length:Int).toNat (MParcel.ow ⟨p.kind,⟨p.cell.kind,p.cell.level,p.cell.value,p.cell.data,p.cell.aux⟩,p.a,p.b⟩)=List.map MParcel.ow (pre++[p])++List.map MParcel.sh post by
   rw [Int.toNat_natCast,List.set_append_right _ _ (by rw [List.length_map]; omega),List.length_map,Nat.sub_self,List.set_cons_zero,List.map_append,List.append_assoc]; rfl]
  exact kR l h post (pre++[p]) n (Ba hl) (by omega)
theorem ZW {l:List Parcel} (h:szl Parcel.sz l≤Big):GQ l=some l:=by
 unfold GQ
 have hll:=Aq Parcel.sz l
 rw [show E0 l=some l from Jw (by omega),AA]
 exact kR l h l [] fuel rfl (JM (by omega))
theorem Xj {C:List (List Parcel)} (h:szl (szl Parcel.sz) C≤Big):Gj C=some C:=by
 unfold Gj
 have hl:=Aq (szl Parcel.sz) C
 rw [NO (by omega),AA]
 have:=gf ([] :List Parcel) C GQ (fun n a i=>Cy n C a i) (fun a=>some a) (fun n a i=>by rw [Cy]) (fun x hx=>ZW (by grind [BD])) (by omega) C [] fuel rfl (JM (by omega))
 grind
theorem gj {C:List (List Int)} (h:szl List.length C≤Big):HK C=some C:=by
 unfold HK
 have hl:=Aq List.length C
 have:=Wz C HH (fun n a i=>DK n C a i) (fun a=>some a) (fun n a i=>by rw [DK]) (fun x hx=>Lj (by have:=BD (s:=List.length) hx; omega)) (by omega) C [] fuel rfl (JM (by omega))
 simpa using this
theorem aq {C:List (List Int)} (h:szl List.length C≤Big):IC C=some C:=by
 unfold IC
 have hl:=Aq List.length C
 rw [NO (by omega),AA]
 have:=gf ([] :List Int) C CA (fun n a i=>Dy n C a i) (fun a=>some a) (fun n a i=>by rw [Dy]) (fun x hx=>Is (by grind [BD])) (by omega) C [] fuel rfl (JM (by omega))
 grind
theorem mc {c:Cluster} (h:c.sz≤Big):NI c=some c:=by
 unfold Cluster.sz at h
 unfold NI
 rw [jm (by omega),AA,ZV (by omega),AA,gj (by omega),AA,Lj (by omega),AA,Lj (by omega),AA]
theorem ZX {c:Cluster} (h:c.sz≤Big):HG c=some c:=by
 unfold Cluster.sz at h
 unfold HG
 rw [gh (by omega),AA,Xj (by omega),AA,aq (by omega),AA,Is (by omega),AA,Is (by omega),AA]
def OJ:List Int→Int
 | [] =>0
 |x::l=>x+OJ l
theorem gk (l:List Int) (hl:l.length≤8) (hb:∀x ∈ l,0≤x∧x≤1000000000):∀ (post pre:List Int) (n:Nat) (acc:Int),l=pre++post→0≤acc∧acc≤1000000000*(pre.length:Int)→post.length<n→I9 n l acc (pre.length:Int)=some (acc+OJ post)
 | [],pre,n,acc,h,ha,hn=>by
  obtain⟨n,rfl⟩:∃k,n=k+1:=⟨n - 1,by omega⟩
  rw [I9,DF h,if_neg (by simp),OJ,Int.add_zero]
 |x::post,pre,n,acc,h,ha,hn=>by
  rw [List.length_cons] at hn
  obtain⟨n,rfl⟩:∃k,n=k+1:=⟨n - 1,by omega⟩
  have hlt:pre.length<l.length:=by rw [h]; simp
  have hx:=hb x (by rw [h]; simp)
  rw [I9,if_pos (CD h),Ak h,AA,w64 (n:=acc+x) (by omega) (by omega),AT h (by grind),gk l hl hb post (pre++[x]) n (acc+x) (Ba h) (by rw [List.length_append,List.length_singleton]; omega) (by omega),OJ,Int.add_assoc]
theorem cO {l:List Int} (hl:l.length≤8) (hb:l.all JL=true):Yy l=some (OJ l):=by
 have h2:∀x ∈ l,0≤x∧x≤1000000000:=fun x hx=>by
  grind [JL]
 have:=gk l hl h2 l [] fuel 0 rfl (by simp) (by rw [Ax]; omega)
 rw [Int.zero_add] at this
 exact this
theorem Xk:∀ {l:List Int},(∀x ∈ l,0≤x∧x≤1000000000)→0≤OJ l∧OJ l≤1000000000*(l.length:Int)
 | [],_=>by simp [OJ]
 |x::l,h=>by
  have h1:=Xk (fun y hy=>h y (List.mem_cons_of_mem _ hy))
  grind [List.mem_cons_self,OJ]
def trN:List (List Parcel)→Nat
 | [] =>0
 |x::l=>(x.length - mkN x)+trN l
theorem kS (c:Cluster) (hc:c.Small):∀ (post pre:List (List Parcel)) (n acc:Nat),c.channels=pre++post→acc≤4194304*pre.length→post.length<n→C5 n c (acc:Int) (pre.length:Int)=some ((acc+trN post:Nat):Int)
 | [],pre,n,acc,h,ha,hn=>by
  obtain⟨n,rfl⟩:∃k,n=k+1:=⟨n - 1,by omega⟩
  rw [C5,DF h,if_neg (by simp),trN,Nat.add_zero]
 | x::post,pre,n,acc,h,ha,hn=>by
  rw [List.length_cons] at hn
  obtain⟨n,rfl⟩:∃k,n=k+1:=⟨n - 1,by omega⟩
  have hl:=hc.chl
  have hlt:pre.length<c.channels.length:=by rw [h]; simp
  have hx:=(hc.ch x (by rw [h]; simp)).1
  have hm:=aU x
  have hb:4194304*pre.length≤4194304*4194304:=Nat.mul_le_mul (Nat.le_refl _) (by omega)
  rw [C5,if_pos (CD h),Ak h,AA,AA,sMk x hx,AA,w64 (n:=((x.length:Nat):Int) - ((mkN x:Nat):Int)) (by omega) (by omega),w64 (n:=(acc:Int)+_) (by omega) (by omega),AT h (by grind),
   show (acc:Int)+(((x.length:Nat):Int) - ((mkN x:Nat):Int))=((acc+(x.length - mkN x):Nat):Int) by omega,
   kS c hc post (pre++[x]) n _ (Ba h) (by rw [List.length_append,List.length_singleton]; omega) (by omega),trN,Nat.add_assoc]
theorem kU (c:Cluster) (hc:c.Small):∀ (post pre:List (List Parcel)) (n acc:Nat),c.channels=pre++post→acc≤4194304*pre.length→post.length<n→BF n c (acc:Int) (pre.length:Int)=some ((acc+trN post:Nat):Int)
 | [],pre,n,acc,h,ha,hn=>by
  obtain⟨n,rfl⟩:∃k,n=k+1:=⟨n - 1,by omega⟩
  rw [BF,DF h,if_neg (by simp),trN,Nat.add_zero]
 | x::post,pre,n,acc,h,ha,hn=>by
  rw [List.length_cons] at hn
  obtain⟨n,rfl⟩:∃k,n=k+1:=⟨n - 1,by omega⟩
  have hl:=hc.chl
  have hlt:pre.length<c.channels.length:=by rw [h]; simp
  have hx:=(hc.ch x (by rw [h]; simp)).1
  have hm:=aU x
  have hb:4194304*pre.length≤4194304*4194304:=Nat.mul_le_mul (Nat.le_refl _) (by omega)
  rw [BF,if_pos (CD h),Ak h,AA,iMk x hx,AA,w64 (n:=((x.length:Nat):Int) - ((mkN x:Nat):Int)) (by omega) (by omega),w64 (n:=(acc:Int)+_) (by omega) (by omega),AT h (by grind),
   show (acc:Int)+(((x.length:Nat):Int) - ((mkN x:Nat):Int))=((acc+(x.length - mkN x):Nat):Int) by omega,
   kU c hc post (pre++[x]) n _ (Ba h) (by rw [List.length_append,List.length_singleton]; omega) (by omega),trN,Nat.add_assoc]
theorem me (c:Cluster) (hc:c.Small):Jf c=some ((trN c.channels:Nat):Int):=by
 have:=kS c hc c.channels [] fuel 0 rfl (by simp) (by have:=hc.chl; rw [Ax]; omega)
 rw [Nat.zero_add] at this
 exact this
theorem mf (c:Cluster) (hc:c.Small):FQ c=some ((trN c.channels:Nat):Int):=by
 have:=kU c hc c.channels [] fuel 0 rfl (by simp) (by have:=hc.chl; rw [Ax]; omega)
 rw [Nat.zero_add] at this
 exact this
def honB (c:Cluster):Bool:=bareB c&&decide (OJ c.sent - OJ c.got=((trN c.channels:Nat):Int))
theorem p4 (c:Cluster) (hc:c.Small) (v:Int):Bj fuel c v 0=some (bareB c&&decide (v=((trN c.channels:Nat):Int))):=by
 have h1:=hc.chl
 have:=Uz c.channels (fun x=>decide (mkN x=0)) (fun _=>1) (fun n i=>Bj n c v i) (some false) (some (decide (v=((trN c.channels:Nat):Int)))) 1 ?_ ?_ c.channels [] rfl fuel (by rw [Bc,Ax]; omega)
 ·rw [show ((List.length ([] :List (List Parcel)):Nat):Int)=0 from rfl] at this
  rw [this]
  unfold bareB
  cases c.channels.all fun x=>decide (mkN x=0) <;> rfl
 ·intro pre x post k B R h hR hm
  obtain⟨k,rfl⟩:∃j,k=j+1:=⟨k - 1,by omega⟩
  have hlt:pre.length<c.channels.length:=by rw [h]; simp
  show Bj (k+1) c v _=_
  rw [Bj,decide_eq_true (by omega),if_pos rfl,Ak h,AA,sMk x (hc.ch x (by rw [h]; simp)).1,AA,AT h (by grind),hR k (by omega)]
  grind
 ·intro k hk
  obtain⟨k,rfl⟩:∃j,k=j+1:=⟨k - 1,by omega⟩
  show Bj (k+1) c v _=_
  rw [Bj,decide_eq_false (by omega),if_neg Bool.false_ne_true,me c hc,AA]
theorem kV (c:Cluster) (hl:c.sent.length≤8) (h1:∀x ∈ c.sent,0≤x∧x≤1000000000) (h2:∀x ∈ c.got,0≤x∧x≤1000000000):∀ (ps qs pre pre':List Int) (n:Nat) (acc:Int),c.sent=pre++ps→c.got=pre'++qs→pre.length=pre'.length→ps.length=qs.length→ -(1000000000*(pre.length:Int))≤acc∧acc≤1000000000*(pre.length:Int)→ps.length<n→Db n c acc (pre.length:Int)=Bj fuel c (acc+OJ ps - OJ qs) 0
 | [],[],pre,pre',n,acc,hs,hg,hp,hq,ha,hn=>by
  obtain⟨n,rfl⟩:∃k,n=k+1:=⟨n - 1,by omega⟩
  rw [Db,DF hs,if_neg (by simp),OJ,Int.add_zero,Int.sub_zero]
 | x::ps,y::qs,pre,pre',n,acc,hs,hg,hp,hq,ha,hn=>by
  rw [List.length_cons] at hn
  rw [List.length_cons,List.length_cons] at hq
  obtain⟨n,rfl⟩:∃k,n=k+1:=⟨n - 1,by omega⟩
  have hlt:pre.length<c.sent.length:=by rw [hs]; simp
  have hx:=h1 x (by rw [hs]; simp)
  have hy:=h2 y (by rw [hg]; simp)
  have hd:Hp c (pre.length:Int)=some (x - y):=by
   unfold Hp
   rw [Ak hs,AA,hp,Ak hg,AA,w64 (by omega) (by omega)]
  rw [Db,if_pos (CD hs),hd,AA,w64 (n:=acc+(x - y)) (by omega) (by omega),AT hs (by grind),
   kV c hl h1 h2 ps qs (pre++[x]) (pre'++[y]) n _ (Ba hs) (Ba hg) (by grind) (by omega) (by rw [List.length_append,List.length_singleton]; omega) (by omega),OJ,OJ]
  grind
 | [],_::_,_,_,_,_,_,_,_,hq,_,_=>by grind
 |_::_,[],_,_,_,_,_,_,_,hq,_,_=>by grind
theorem OF {c:Cluster} (h:clB c=true):c.sent.length=c.grid.shards.length∧c.got.length=c.grid.shards.length∧c.sent.all JL=true∧c.got.all JL=true:=by
 grind [clB,Jh]
theorem OG {l:List Int} (h:l.all JL=true):∀x ∈ l,0≤x∧x≤1000000000:=fun x hx=>by
 grind [JL]
theorem jn (c:Cluster) (hc:c.Small) (h:clB c=true):I7 c=some (honB c):=by
 obtain⟨h1,h2,h3,h4⟩:=OF h
 obtain⟨-,k4,-⟩:=Li h
 have:=kV c (by omega) (OG h3) (OG h4) c.sent c.got [] [] fuel 0 rfl rfl rfl (by omega) (by simp) (by rw [Ax]; omega)
 unfold I7
 rw [show ((List.length ([] :List Int):Nat):Int)=0 from rfl,Int.zero_add] at this
 rw [this,p4 c hc]; rfl
theorem jo (c:Cluster) (hc:c.Small) (h:clB c=true):EO c=some (honB c):=by
 obtain⟨h1,h2,h3,h4⟩:=OF h
 obtain⟨-,k4,-⟩:=Li h
 have b1:=Xk (OG h3)
 have b2:=Xk (OG h4)
 unfold EO honB
 rw [jX c hc,AA,cO (by omega) h3,AA,cO (by omega) h4,AA,mf c hc,AA,w64 (by omega) (by omega)]
 cases bareB c <;> rfl
theorem ZY (m x:Int):Gg m [x] =some (decide (0≤x∧x≤m)):=by
 unfold Gg
 rw [Hx Ap BC (fun n l i f=>by rw [Ap]) (fun l f=>rfl) [x] _ (fun x=>decide (0≤x∧x≤m)) (by unfold Big; simp) (fun w _=>?_),AA,Bool.not_not]
 ·simp
 ·unfold KI
  by_cases h0:w<0
  ·rw [decide_eq_true h0,if_pos rfl,decide_eq_false (by omega)]; rfl
  ·rw [decide_eq_false h0,if_neg (by simp)]
   by_cases h1:m<w
   ·rw [decide_eq_true h1,decide_eq_false (by omega)]; rfl
   ·rw [decide_eq_false h1,decide_eq_true (by omega)]; rfl
def detB (d:Detector):Bool:=clB d.cluster&&(honB d.cluster&&(decide (0≤d.holder∧d.holder≤(d.cluster.grid.shards.length:Int) - 1)&&(decide (-4000000000≤d.count∧d.count≤4000000000)&&(decide (d.stained.length=d.cluster.grid.shards.length)&&JL d.rounds))))
theorem p5 (x:Int):FZ x=some (decide (-4000000000≤x∧x≤4000000000)):=by
 unfold FZ
 by_cases h:(-4000000000)≤x
 ·rw [decide_eq_true h,if_pos rfl]; congr 1; rw [decide_eq_decide]; omega
 ·rw [decide_eq_false h,if_neg Bool.false_ne_true,decide_eq_false (by omega)]
theorem jp (d:Detector) (hd:d.cluster.Fits):QZ d=some (detB d):=by
 unfold QZ detB
 rw [gd _ hd,AA]
 cases h:clB d.cluster with
 |false=>rfl
 |true=>
  obtain⟨h1,h2,h3,h4⟩:=OF h
  obtain⟨k1,k4,-⟩:=Li h
  rw [Bool.not_true,if_neg Bool.false_ne_true,Bool.true_and,jn _ hd.s h,AA]
  unfold KG JL
  rw [h1,w64 (by omega) (by omega),Ee,AA,Ee,AA,Ee,AA]
  have e:decide (((d.stained.length:Nat):Int)=((d.cluster.grid.shards.length:Nat):Int))=decide (d.stained.length=d.cluster.grid.shards.length):=by rw [decide_eq_decide]; omega
  rw [e]
  cases honB d.cluster <;> cases decide (0≤d.holder∧d.holder≤(d.cluster.grid.shards.length:Int) - 1) <;> cases decide (-4000000000≤d.count∧d.count≤4000000000) <;> cases decide (d.stained.length=d.cluster.grid.shards.length) <;> rfl
theorem jq (d:Detector) (hd:d.cluster.Fits):GC d=some (detB d):=by
 unfold GC detB
 rw [ZI _ hd,AA]
 cases h:clB d.cluster with
 |false=>rfl
 |true=>
  obtain⟨k1,k4,-⟩:=Li h
  rw [Bool.not_true,if_neg Bool.false_ne_true,Bool.true_and,jo _ hd.s h,AA]
  unfold EP JL B0
  rw [AA,w64 (by omega) (by omega),ZY,AA,p5,AA,ZY,AA]
  have e:decide (((d.stained.length:Nat):Int)=((d.cluster.grid.shards.length:Nat):Int))=decide (d.stained.length=d.cluster.grid.shards.length):=by rw [decide_eq_decide]; omega
  rw [e]
  cases honB d.cluster <;> cases decide (0≤d.holder∧d.holder≤(d.cluster.grid.shards.length:Int) - 1) <;> cases decide (-4000000000≤d.count∧d.count≤4000000000) <;> cases decide (d.stained.length=d.cluster.grid.shards.length) <;> rfl
structure DInv (c:Cluster) (k:Nat) (d:Detector):Prop where
 e:d.cluster=c
 k1:1≤k
 k4:k≤4
 g:c.grid.shards.length=k
 s:c.sent.length=k
 t:c.got.length=k
 sb:∀x ∈ c.sent,0≤x∧x≤1000000000
 tb:∀x ∈ c.got,0≤x∧x≤1000000000
 h:0≤d.holder∧d.holder≤(k:Int) - 1
 n: -4000000000≤d.count∧d.count≤4000000000
 l:d.stained.length=k
 r:0≤d.rounds∧d.rounds≤1000000000
theorem Qp {α:Type} {l:List α} {i:Int} (h0:0≤i) (h:i<(l.length:Int)):∃x,at? l i=some x∧x ∈ l:=by
 simp_all [at?]
theorem NX (d:Detector):FY d=some (decide (1000000000<d.rounds)|| !decide (-4000000000≤d.count∧d.count≤4000000000)):=by
 grind [FY,Ee]
theorem eJ {c:Cluster} {k:Nat} {d:Detector} (I:DInv c k d):∃m d1 v e d2,La d=some (m,d1)∧GD d=some (v,e,d2)∧
  ((FY d1=some true∧e=4)∨(FY d1=some false∧e=0∧d2=d1∧DInv c k d1)):=by
 obtain⟨he,k1,k4,hg,hs,ht,sb,tb,hh,hn,hl,hr⟩:=I
 obtain⟨cl,ho,co,dk,sta,ro,an⟩:=d
 simp only at he hh hn hl hr
 subst he
 obtain⟨x,hx,mx⟩:=Qp (l:=cl.sent) hh.1 (by omega)
 obtain⟨y,hy,my⟩:=Qp (l:=cl.got) hh.1 (by omega)
 obtain⟨z,hz,-⟩:=Qp (l:=sta) hh.1 (by omega)
 obtain⟨z0,hz0,-⟩:=Qp (l:=sta) (i:=0) (by omega) (by omega)
 have bx:=sb x mx
 have by':=tb y my
 have hd:Hp cl ho=some (x - y):=by
  unfold Hp
  rw [hx,AA,hy,AA,w64 (by omega) (by omega)]
 have w1:IntKind.i64.wrap (co+(x - y))=co+(x - y):=w64 (by omega) (by omega)
 have w2:IntKind.i64.wrap (IntKind.i64.wrap (co+x) - y)=co+(x - y):=by
  rw [w64 (n:=co+x) (by omega) (by omega),w64 (by omega) (by omega)]; omega
 unfold La GD
 simp only [hd,hx,hy,AA,w1,w2]
 by_cases h0:0<ho
 ·have wh:IntKind.i64.wrap (ho - 1)=ho - 1:=w64 (by omega) (by omega)
  rw [decide_eq_true h0]
  simp only [if_pos,hz,AA]
  have go:∀b:Bool,∃m d1 v e d2,G0 ⟨cl,ho,co,dk,sta,ro,an⟩ (x - y) b=some (m,d1)∧DI ⟨cl,ho,co,dk,sta,ro,an⟩ x y b=some (v,e,d2)∧
    ((FY d1=some true∧e=4)∨(FY d1=some false∧e=0∧d2=d1∧DInv cl k d1)):=by
   intro b
   unfold G0 DI
   simp only [hz,AA,Tj,w1,w2,wh,p5]
   by_cases hc: -4000000000≤co+(x - y)∧co+(x - y)≤4000000000
   ·rw [decide_eq_true hc]
    refine⟨_,_,_,_,_,rfl,rfl,Or.inr ⟨?_,rfl,rfl,⟨rfl,k1,k4,hg,hs,ht,sb,tb,⟨by grind,by grind⟩,hc,by rw [List.length_set]; exact hl,hr⟩⟩⟩
    rw [NX]
    grind
   ·rw [decide_eq_false hc]
    refine⟨_,_,_,_,_,rfl,rfl,Or.inl ⟨?_,rfl⟩⟩
    rw [NX]
    show some (decide (1000000000<ro)|| !decide (-4000000000≤co+(x - y)∧co+(x - y)≤4000000000))=_
    rw [decide_eq_false hc,Bool.not_false,Bool.or_true]
  cases dk with
  |true=>simp_all
  |false=>exact go z
 ·obtain rfl:ho=0:=by omega
  rw [decide_eq_false h0]
  simp only [Bool.false_eq_true,if_false,hz0,AA]
  have go:∀b:Bool,∃m d1 v e d2,Fw ⟨cl,0,co,dk,sta,ro,an⟩ b=some (m,d1)∧Ce ⟨cl,0,co,dk,sta,ro,an⟩ b=some (v,e,d2)∧
    ((FY d1=some true∧e=4)∨(FY d1=some false∧e=0∧d2=d1∧DInv cl k d1)):=by
   intro b
   unfold Fw Ce B0
   cases b with
   |true=>
    refine⟨_,_,_,_,_,rfl,rfl,Or.inr ⟨?_,rfl,rfl,⟨rfl,k1,k4,hg,hs,ht,sb,tb,hh,hn,hl,hr⟩⟩⟩
    rw [NX]
    grind
   | false=>
    have wr:IntKind.i64.wrap (ro+1)=ro+1:=w64 (by omega) (by omega)
    have wk:IntKind.i64.wrap ((k:Int) - 1)=(k:Int) - 1:=w64 (by omega) (by omega)
    simp only [Bool.false_eq_true,if_false,hz0,AA,Tj,wr,List.length_set,hl,hg,wk]
    by_cases hm:ro=1000000000
    ·rw [decide_eq_true hm]
     grind [NX]
    ·rw [decide_eq_false hm]
     refine⟨_,_,_,_,_,rfl,rfl,Or.inr ⟨?_,rfl,rfl,⟨rfl,k1,k4,hg,hs,ht,sb,tb,⟨by grind,Int.le_refl _⟩,⟨by grind,by grind⟩,by rw [List.length_set]; exact hl,⟨by grind,by grind⟩⟩⟩⟩
     rw [NX]
     grind [decide_eq_false]
  cases dk with
  |true=>simp_all
  |false=>
   cases z0 with
   |true=>simp_all
   |false=>exact go _
def cP:Detector:=⟨⟨⟨[],⟨0,0,0⟩⟩,[],[],[],[]⟩,0,0,false,[],0,false⟩
theorem ar {c:Cluster} {k a:Nat} (ha:a≤4000):∀ (j p n:Nat) (d:Detector),DInv c k d→p+j=a→j<n→
  ∃r,Cj n (a:Int) d.cluster.grid.shards d.cluster.grid.root.machine d.cluster.grid.root.kind d.cluster.grid.root.index d.cluster.channels d.cluster.counts d.cluster.sent d.cluster.got d.holder d.count d.dark d.stained d.rounds d.announced (p:Int)=some r∧
   Ck n (a:Int) d.cluster.grid.shards d.cluster.grid.root.machine d.cluster.grid.root.kind d.cluster.grid.root.index d.cluster.channels d.cluster.counts d.cluster.sent d.cluster.got d.holder d.count d.dark d.stained d.rounds d.announced (p:Int)=some r∧
   (r.1 =cP∨DInv c k r.1):=by
 intro j
 induction j with
 | zero=>
  intro p n d I hp hn
  obtain⟨n,rfl⟩:∃k,n=k+1:=⟨n - 1,by omega⟩
  rw [Cj,Ck]
  cases han:d.announced with
  |true=>
   refine⟨_,rfl,rfl,Or.inr ?_⟩
   rw [← han]; exact I
  |false=>
   rw [decide_eq_true (by omega)]
   exact⟨_,rfl,rfl,Or.inl rfl⟩
 | succ j ih=>
  intro p n d I hp hn
  obtain⟨n,rfl⟩:∃k,n=k+1:=⟨n - 1,by omega⟩
  rw [Cj,Ck]
  cases han:d.announced with
  |true=>
   refine⟨_,rfl,rfl,Or.inr ?_⟩
   rw [← han]; exact I
  | false=>
   rw [decide_eq_false (show ¬ ((p:Int)=(a:Int)) by omega),Bool.not_false,if_pos rfl,if_pos rfl,if_neg Bool.false_ne_true,if_neg Bool.false_ne_true]
   rw [show (⟨⟨⟨d.cluster.grid.shards,⟨d.cluster.grid.root.machine,d.cluster.grid.root.kind,d.cluster.grid.root.index⟩⟩,d.cluster.channels,d.cluster.counts,d.cluster.sent,d.cluster.got⟩,d.holder,d.count,d.dark,d.stained,d.rounds,false⟩:Detector)=d by rw [← han]]
   have hcan:∃b,NJ d=some b∧EQ d=some b:=by
    obtain⟨x,hx,-⟩:=Qp (l:=d.cluster.grid.shards) I.h.1 (by have:=I.h.2; rw [I.e,I.g]; omega)
    unfold NJ EQ
    rw [hx]
    cases d.announced <;> exact⟨_,rfl,rfl⟩
   obtain⟨b,hb1,hb2⟩:=hcan
   rw [hb1,hb2,AA,AA]
   cases b with
   |false=>exact⟨_,rfl,rfl,Or.inl rfl⟩
   | true=>
    obtain⟨m,d1,v,e,d2,h1,h2,h3⟩:=eJ I
    rw [Bool.not_true,if_neg Bool.false_ne_true,if_neg Bool.false_ne_true,h1,h2,AA,AA]
    rcases h3 with ⟨h3,rfl⟩|⟨h3,rfl,rfl,I1⟩
    ·rw [h3,AA]
     exact⟨_,rfl,rfl,Or.inl rfl⟩
    ·rw [h3,AA,if_neg Bool.false_ne_true]
     have hw:IntKind.i64.wrap ((p:Int)+1)=((p+1:Nat):Int):=by rw [w64 (by omega) (by omega)]; omega
     rw [hw]
     exact ih (p+1) n d2 I1 (by omega) (by omega)
theorem R0 (a0:Detector) (a1:Int) (h0:a0.sz≤1048576):∃r,HF a0 a1=some r∧GN a0 a1=some r∧r.1.sz ≤Big:=by
 have hz:a0.sz=a0.cluster.sz+(a0.stained.length+0):=rfl
 have hf:a0.cluster.Fits:=Cluster.fits_of (by omega)
 unfold HF GN
 rw [jp _ hf,jq _ hf,AA,AA]
 have z0:cP.sz≤Big:=Nat.zero_le _
 cases hd:detB a0 with
 |false=>exact⟨_,rfl,rfl,z0⟩
 | true=>
  rw [Bool.not_true,if_neg Bool.false_ne_true,if_neg Bool.false_ne_true,Ee,AA]
  by_cases ha:0≤a1∧a1≤4000
  ·obtain⟨a,rfl⟩:∃n:Nat,a1=n:=⟨a1.toNat,by omega⟩
   rw [decide_eq_true ha,Bool.not_true,if_neg Bool.false_ne_true,decide_eq_false (show ¬ ((a:Int)<0) by omega),if_neg Bool.false_ne_true,decide_eq_false (show ¬ (4000<(a:Int)) by omega)]
   unfold EJ Qb H9
   rw [if_neg Bool.false_ne_true,mc (by grind),AA,ZX (by grind),AA,show Ix a0.stained=some a0.stained from Jw (by grind),AA,Qo (by grind),AA,AA,AA]
   unfold detB at hd
   simp only [Bool.and_eq_true,decide_eq_true_eq] at hd
   obtain⟨c1,-,c3,c4,c5,c6⟩:=hd
   obtain⟨b1,b2,b3,b4⟩:=OF c1
   obtain⟨k1,k4,-⟩:=Li c1
   unfold JL at c6
   have I:DInv a0.cluster a0.cluster.grid.shards.length a0:=⟨rfl,k1,k4,rfl,b1,b2,OG b3,OG b4,c3,c4,c5,of_decide_eq_true c6⟩
   obtain⟨r,r1,r2,r3⟩:=ar (a:=a) (by omega) a 0 fuel a0 I (by omega) (by rw [Ax]; omega)
   refine⟨r,r1,r2,?_⟩
   rcases r3 with r3|r3
   ·rw [r3]; exact z0
   ·have e:r.1.sz =r.1.cluster.sz +(r.1.stained.length +0):=rfl
    rw [e,r3.e,r3.l]; grind
  ·rw [decide_eq_false ha,Bool.not_false,if_pos rfl]
   unfold EJ
   by_cases h1:a1<0
   ·rw [decide_eq_true h1,if_pos rfl,if_pos rfl]
    exact⟨_,rfl,rfl,z0⟩
   ·rw [decide_eq_false h1,if_neg Bool.false_ne_true,decide_eq_true (by omega),if_pos rfl]
    exact⟨_,rfl,rfl,z0⟩
theorem QY (a0:Detector) (h0:Et (Detector.ds a0)) (a1:Int) (w1:(Lit.int IntKind.i64 a1).wf =true):Eu a0 a1=some true:=by
 unfold Eu
 refine mO (Vi a0 (Detector.ok_of a0 h0) (1048576) (by omega)) fun z0=>?_
 have b0:a0.sz≤Big:=by unfold Big; omega
 obtain⟨r,hs,hi,hr⟩:=R0 a0 a1 (by omega)
 have ft0:EA a0=some a0:=Vj a0 b0
 have fe0:DR a0 a0=some true:=(Ln a0 a0 b0).true rfl
 have br0:=hr
 have ge0:DR r.1 r.1 =some true:=(Ln r.1 r.1 br0).true rfl
 have fm0:Dd a0 1=some (((1+a0.cntV:Nat):Int),(Detector.mkV (1) a0).cluster.grid.shards,(Detector.mkV (1) a0).cluster.channels,(Detector.mkV (1) a0).cluster.counts,(Detector.mkV (1) a0).cluster.sent,(Detector.mkV (1) a0).cluster.got,(Detector.mkV (1) a0).stained):=MX a0 (1) b0 (by have:=Detector.cntV_le a0; have:=b0; unfold Big KB at*; omega)
 have gm0:Dd r.1 1=some (((1+r.1.cntV :Nat):Int),(Detector.mkV (1) r.1).cluster.grid.shards,(Detector.mkV (1) r.1).cluster.channels,(Detector.mkV (1) r.1).cluster.counts,(Detector.mkV (1) r.1).cluster.sent,(Detector.mkV (1) r.1).cluster.got,(Detector.mkV (1) r.1).stained):=MX r.1 (1) br0 (by have:=Detector.cntV_le r.1; have:=br0; unfold Big KB at*; omega)
 have gh0:ER ⟨⟨⟨(Detector.mkV (1) r.1).cluster.grid.shards,⟨r.1.cluster.grid.root.machine,r.1.cluster.grid.root.kind,r.1.cluster.grid.root.index⟩⟩,(Detector.mkV (1) r.1).cluster.channels,(Detector.mkV (1) r.1).cluster.counts,(Detector.mkV (1) r.1).cluster.sent,(Detector.mkV (1) r.1).cluster.got⟩,r.1.holder,r.1.count,r.1.dark,(Detector.mkV (1) r.1).stained,r.1.rounds,r.1.announced⟩ 1=some (((1+r.1.cntV :Nat):Int)):=S4 r.1 (1) br0 (by have:=Detector.cntV_le r.1; have:=br0; unfold Big KB at*; omega)
 simp only [AA,hs,hi,ft0,fe0,ge0,fm0,gm0,gh0,Bw,BS,Bx,XP,beq_self_eq_true,Sx,eq_self,decide_true,decide_false,Bool.not_true,Bool.not_false,Bool.false_eq_true,reduceIte]
end Go.Proofs.YtclmbjbbojdojaaGreat.Ab
