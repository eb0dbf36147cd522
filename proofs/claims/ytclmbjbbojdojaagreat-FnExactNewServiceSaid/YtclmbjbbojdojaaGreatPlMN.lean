/-
  Results that are marked and found marked again: the loops, each once. No program is in sight.
-/
import Derived.Test.YtclmbjbbojdojaaGreatPlNet
import Derived.Test.YtclmbjbbojdojaaGreatModW
import Derived.Test.YtclmbjbbojdojaaGreatAbZ
import Derived.Test.YtclmbjbbojdojaaGreatModU
import Derived.Test.YtclmbjbbojdojaaGreatModN
namespace Go.Proofs.YtclmbjbbojdojaaGreat.Ab
set_option linter.unusedVariables false
set_option linter.unusedSimpArgs false
open Go.RowKit
section
variable {α:Type} {pre post:List α} {x y:α}
theorem DV:at? (pre++x::post) ((List.length pre:Nat):Int)=some x:=Bn rfl
theorem DW:decide (((List.length pre:Nat):Int)<((List.length (pre++x::post):Nat):Int))=true:=CY rfl
theorem Fb:Ah (pre++x::post) ((List.length pre:Nat):Int) y=some (pre++y::post):=by
 unfold Ah aw
 simp
theorem BX (h:pre.length<Big):IntKind.i64.wrap (((List.length pre:Nat):Int)+1)=((List.length pre+1:Nat):Int):=by
 unfold Big at h
 rw [w64 (by omega) (by omega)]
 omega
theorem DX {l:List α}:decide (((List.length l:Nat):Int)<((List.length l:Nat):Int))=false:=by simp
end
abbrev KB:Nat:=4611686018427387904
theorem wk {k} (h:k+1≤KB):IntKind.i64.wrap ((k:Int)+1)=((k+1:Nat):Int):=by
 unfold KB at h
 rw [w64 (by omega) (by omega)]
 omega
theorem Ob {k}:decide (((k:Nat):Int)<0)=false:=by simp
def cnts {α:Type} (c:α→Nat):List α→Nat
 | [] =>0
 |x::l=>c x+cnts c l
def mks {α:Type} (mk:Nat→α→α) (c:α→Nat):Nat→List α→List α
 |_,[] =>[]
 |k,x::l=>mk k x::mks mk c (k+c x) l
theorem AX {α:Type} {c s:α→Nat} {b:Nat}:∀ {l:List α},(∀x,c x≤b+b*s x)→cnts c l≤b*szl s l
 | [],_=>by simp [cnts]
 |x::l,h=>by
  rw [cnts,szl,Nat.mul_add,Nat.mul_add]
  have:=h x
  have:=AX (l:=l) h
  omega
theorem AO {α:Type} {c:α→Nat} {b:Nat}:∀ {l:List α},(∀x,c x≤b)→cnts c l≤b*l.length
 | [],_=>by simp [cnts]
 |x::l,h=>by
  rw [cnts,List.length_cons,Nat.mul_add]
  have:=h x
  have:=AO (l:=l) h
  omega
def one {α:Type}:α→Nat:=fun _=>1
def mkI:Nat→Int→Int:=fun k _=>(k:Int)
def IB:Nat→Bool→Bool:=fun k _=>decide (Int.tmod (k:Int) 3=0)
theorem H4 {k:Nat} {x:Bool}:(IB k x == decide (Int.tmod ((k:Nat):Int) 3=0))=true:=by simp [IB]
theorem Am {α:Type} {x:α}:one x≤1:=Nat.le_refl 1
theorem Jl {α:Type} (L:Nat→List α→Int→Int→Option (Int × List α)) (mk:Nat→α→α) (c:α→Nat) (P:α→Prop)
  (hL:∀n (pre post:List α) x (k:Nat),P x→k+c x≤KB→pre.length<Big→L (n+1) (pre++x::post) (k:Int) ((List.length pre:Nat):Int)=L n (pre++mk k x::post) ((k+c x:Nat):Int) ((List.length pre+1:Nat):Int))
  (hN:∀n (l:List α) (k:Int),L (n+1) l k ((List.length l:Nat):Int)=some (k,l))
  (l:List α) (k:Nat) (hP:∀x ∈ l,P x) (hl:l.length≤Big) (hk:k+cnts c l≤KB):L fuel l (k:Int) 0=some (((k+cnts c l:Nat):Int),mks mk c k l):=by
 have loop:∀ (post pre:List α) (n k:Nat),(∀x ∈ post,P x)→pre.length+post.length≤Big→k+cnts c post≤KB→post.length<n→L n (pre++post) (k:Int) ((List.length pre:Nat):Int)=some (((k+cnts c post:Nat):Int),pre++mks mk c k post):=by
  intro post
  induction post with
  |nil=>
   intro pre n k _ _ _ hn
   obtain⟨n,rfl⟩:∃m,n=m+1:=⟨n - 1,by omega⟩
   rw [List.append_nil,hN,cnts,mks,List.append_nil]; rfl
  |cons x post ih=>
   intro pre n k hp hb hk hn
   obtain⟨n,rfl⟩:∃m,n=m+1:=⟨n - 1,by omega⟩
   rw [List.length_cons] at hb hn
   rw [cnts] at hk
   rw [hL n pre post x k (hp x (List.mem_cons_self ..)) (by omega) (by omega),cnts,mks]
   have:=ih (pre++[mk k x]) n (k+c x) (fun y hy=>hp y (List.mem_cons_of_mem _ hy)) (by rw [List.length_append]; simp; omega) (by omega) (by omega)
   rw [List.append_assoc,List.append_assoc,List.length_append] at this
   simp only [List.cons_append,List.nil_append,List.length_cons,List.length_nil,Nat.zero_add] at this
   rw [this,Nat.add_assoc]
 exact loop l [] fuel k hP (by simpa using hl) hk (by rw [B3]; unfold Big at hl; omega)
theorem LU {α:Type} (L:Nat→List α→Int→Int→Option Int) (mk:Nat→α→α) (c:α→Nat) (P:α→Prop)
  (hL:∀n (pre post:List α) x (k:Nat),P x→k+c x≤KB→pre.length<Big→L (n+1) (pre++mk k x::post) (k:Int) ((List.length pre:Nat):Int)=L n (pre++mk k x::post) ((k+c x:Nat):Int) ((List.length pre+1:Nat):Int))
  (hN:∀n (l:List α) (k:Int),L (n+1) l k ((List.length l:Nat):Int)=some k)
  (l:List α) (k:Nat) (hP:∀x ∈ l,P x) (hl:l.length≤Big) (hk:k+cnts c l≤KB):L fuel (mks mk c k l) (k:Int) 0=some ((k+cnts c l:Nat):Int):=by
 have loop:∀ (post pre:List α) (n k:Nat),(∀x ∈ post,P x)→pre.length+post.length≤Big→k+cnts c post≤KB→post.length<n→L n (pre++mks mk c k post) (k:Int) ((List.length pre:Nat):Int)=some ((k+cnts c post:Nat):Int):=by
  intro post
  induction post with
  |nil=>
   intro pre n k _ _ _ hn
   obtain⟨n,rfl⟩:∃m,n=m+1:=⟨n - 1,by omega⟩
   rw [mks,List.append_nil,hN,cnts]; rfl
  |cons x post ih=>
   intro pre n k hp hb hk hn
   obtain⟨n,rfl⟩:∃m,n=m+1:=⟨n - 1,by omega⟩
   rw [List.length_cons] at hb hn
   rw [cnts] at hk
   rw [mks,hL n pre _ x k (hp x (List.mem_cons_self ..)) (by omega) (by omega),cnts]
   have:=ih (pre++[mk k x]) n (k+c x) (fun y hy=>hp y (List.mem_cons_of_mem _ hy)) (by rw [List.length_append]; simp; omega) (by omega) (by omega)
   rw [List.append_assoc,List.length_append] at this
   simp only [List.cons_append,List.nil_append,List.length_cons,List.length_nil,Nat.zero_add] at this
   rw [this,Nat.add_assoc]
 exact loop l [] fuel k hP (by simpa using hl) hk (by rw [B3]; unfold Big at hl; omega)
end Go.Proofs.YtclmbjbbojdojaaGreat.Ab
namespace Go.Proofs.YtclmbjbbojdojaaGreat.Ab
set_option linter.unusedVariables false
set_option linter.unusedSimpArgs false
open Go.RowKit
structure Address.Ok (x:Address):Prop where
 machine:(Lit.int IntKind.i64 x.machine).wf =true
 kind:(Lit.int IntKind.i64 x.kind).wf =true
 index:(Lit.int IntKind.i64 x.index).wf =true
theorem Address.ok_of (x:Address) (h:Bw (Address.ds x)):x.Ok:=by
 rw [Address.ds_eq] at h
 simp only [Bw,D.ok,List.length_map] at h
 obtain⟨h1,h2,h3,-⟩:=h
 exact⟨h1,h2,h3⟩
theorem Address.eq_iff (x y:Address):x=y↔x.machine=y.machine∧x.kind=y.kind∧x.index=y.index:=by
 cases x; cases y; simp only [Address.mk.injEq]
theorem Cy (x y:Address):Ar (CP x y) (x=y):=by
 unfold CP
 exact Ar.iff (Bh EV fun _=>Bh EV fun _=>Bh EV fun _=>CG) (by rw [Address.eq_iff]; simp only [and_true])
theorem Nm (l m:List Address) (hl:l.length≤Big):Ar (GB l m) (l=m):=by
 unfold GB
 exact Oc (fun n i=>Cv n l m i) CP l m (fun n i=>by rw [Cv]) hl fun x hx y _=>Cy x y
structure ShardCell.Ok (x:ShardCell):Prop where
 kind:(Lit.int IntKind.i64 x.kind).wf =true
 level:(Lit.int IntKind.i64 x.level).wf =true
 value:(Lit.int IntKind.i64 x.value).wf =true
 data:(x.data.length≤9223372036854775807∧∀e ∈ x.data,(Lit.int IntKind.i64 e).wf =true)
 aux:(x.aux.length≤9223372036854775807∧∀e ∈ x.aux,Address.Ok e)
theorem ShardCell.ok_of (x:ShardCell) (h:Bw (ShardCell.ds x)):x.Ok:=by
 rw [ShardCell.ds_eq] at h
 simp only [Bw,D.ok,List.length_map] at h
 obtain⟨h1,h2,h3,h4,h5,-⟩:=h
 exact⟨h1,h2,h3,⟨h4.1,fun e he=>by have:=(Bi h4.2 he); simpa only [AJ,Bw,D.ok,and_true] using this⟩,⟨h5.1,fun e he=>Address.ok_of e (Bi h5.2 he)⟩⟩
theorem ShardCell.eq_iff (x y:ShardCell):x=y↔x.kind=y.kind∧x.level=y.level∧x.value=y.value∧x.data=y.data∧x.aux=y.aux:=by
 cases x; cases y; simp only [ShardCell.mk.injEq]
def ShardCell.sz (x:ShardCell):Nat:=x.data.length+(x.aux.length+0)
theorem IL (x y:ShardCell) (h:x.sz≤Big):Ar (Dt x y) (x=y):=by
 unfold Dt
 exact Ar.iff (Bh EV fun _=>Bh EV fun _=>Bh EV fun _=>AR (ED _ _ (by have:=h; simp only [ShardCell.sz] at this; omega)) fun _=>AR (Nm _ _ (by have:=h; simp only [ShardCell.sz] at this; omega)) fun _=>CG) (by rw [ShardCell.eq_iff]; simp only [and_true])
theorem L2 (l m:List ShardCell) (hl:szl ShardCell.sz l≤Big):Ar (E0 l m) (l=m):=by
 unfold E0
 exact Oc (fun n i=>CF n l m i) Dt l m (fun n i=>by rw [CF]) (by have:=Aw ShardCell.sz l; omega) fun x hx y _=>IL x y (by have:=A9 (s:=ShardCell.sz) hx; omega)
structure ShardVar.Ok (x:ShardVar):Prop where
 held:Address.Ok x.held
theorem ShardVar.ok_of (x:ShardVar) (h:Bw (ShardVar.ds x)):x.Ok:=by
 rw [ShardVar.ds_eq] at h
 simp only [Bw,D.ok,List.length_map] at h
 obtain⟨h1,h2,h3,h4,h5,-⟩:=h
 exact⟨Address.ok_of _ (by rw [Address.ds_eq]; simp only [Bw,D.ok,List.length_map]; exact⟨h3,h4,h5,trivial⟩)⟩
theorem ShardVar.eq_iff (x y:ShardVar):x=y↔x.used=y.used∧x.full=y.full∧x.held=y.held:=by
 cases x; cases y; simp only [ShardVar.mk.injEq]
theorem Nn (x y:ShardVar):Ar (FC x y) (x=y):=by
 unfold FC
 exact Ar.iff (Bh beq_iff_eq fun _=>Bh beq_iff_eq fun _=>AR (Cy _ _) fun _=>CG) (by rw [ShardVar.eq_iff]; simp only [and_true])
theorem M3 (l m:List ShardVar) (hl:l.length≤Big):Ar (FQ l m) (l=m):=by
 unfold FQ
 exact Oc (fun n i=>CX n l m i) FC l m (fun n i=>by rw [CX]) hl fun x hx y _=>Nn x y
structure ShardRedex.Ok (x:ShardRedex):Prop where
 a:Address.Ok x.a
 b:Address.Ok x.b
theorem ShardRedex.ok_of (x:ShardRedex) (h:Bw (ShardRedex.ds x)):x.Ok:=by
 rw [ShardRedex.ds_eq] at h
 simp only [Bw,D.ok,List.length_map] at h
 obtain⟨h1,h2,h3,h4,h5,h6,-⟩:=h
 exact⟨Address.ok_of _ (by rw [Address.ds_eq]; simp only [Bw,D.ok,List.length_map]; exact⟨h1,h2,h3,trivial⟩),Address.ok_of _ (by rw [Address.ds_eq]; simp only [Bw,D.ok,List.length_map]; exact⟨h4,h5,h6,trivial⟩)⟩
theorem ShardRedex.eq_iff (x y:ShardRedex):x=y↔x.a=y.a∧x.b=y.b:=by
 cases x; cases y; simp only [ShardRedex.mk.injEq]
theorem L3 (x y:ShardRedex):Ar (D6 x y) (x=y):=by
 unfold D6
 exact Ar.iff (AR (Cy _ _) fun _=>AR (Cy _ _) fun _=>CG) (by rw [ShardRedex.eq_iff]; simp only [and_true])
theorem LC (l m:List ShardRedex) (hl:l.length≤Big):Ar (EZ l m) (l=m):=by
 unfold EZ
 exact Oc (fun n i=>Bv n l m i) D6 l m (fun n i=>by rw [Bv]) hl fun x hx y _=>L3 x y
structure Shard.Ok (x:Shard):Prop where
 cells:(x.cells.length≤9223372036854775807∧∀e ∈ x.cells,ShardCell.Ok e)
 vars:(x.vars.length≤9223372036854775807∧∀e ∈ x.vars,ShardVar.Ok e)
 redexes:(x.redexes.length≤9223372036854775807∧∀e ∈ x.redexes,ShardRedex.Ok e)
theorem Shard.ok_of (x:Shard) (h:Bw (Shard.ds x)):x.Ok:=by
 rw [Shard.ds_eq] at h
 simp only [Bw,D.ok,List.length_map] at h
 obtain⟨h1,h2,h3,-⟩:=h
 exact⟨⟨h1.1,fun e he=>ShardCell.ok_of e (Bi h1.2 he)⟩,⟨h2.1,fun e he=>ShardVar.ok_of e (Bi h2.2 he)⟩,⟨h3.1,fun e he=>ShardRedex.ok_of e (Bi h3.2 he)⟩⟩
theorem Shard.eq_iff (x y:Shard):x=y↔x.cells=y.cells∧x.vars=y.vars∧x.redexes=y.redexes:=by
 cases x; cases y; simp only [Shard.mk.injEq]
def Shard.sz (x:Shard):Nat:=szl ShardCell.sz x.cells+(x.vars.length+(x.redexes.length+0))
theorem Qb (x y:Shard) (h:x.sz≤Big):Ar (HY x y) (x=y):=by
 unfold HY
 exact Ar.iff (AR (L2 _ _ (by have:=h; simp only [Shard.sz] at this; omega)) fun _=>AR (M3 _ _ (by have:=h; simp only [Shard.sz] at this; omega)) fun _=>AR (LC _ _ (by have:=h; simp only [Shard.sz] at this; omega)) fun _=>CG) (by rw [Shard.eq_iff]; simp only [and_true])
theorem KY (l m:List Shard) (hl:szl Shard.sz l≤Big):Ar (GT l m) (l=m):=by
 unfold GT
 exact Oc (fun n i=>Du n l m i) HY l m (fun n i=>by rw [Du]) (by have:=Aw Shard.sz l; omega) fun x hx y _=>Qb x y (by have:=A9 (s:=Shard.sz) hx; omega)
structure Grid.Ok (x:Grid):Prop where
 shards:(x.shards.length≤9223372036854775807∧∀e ∈ x.shards,Shard.Ok e)
 root:Address.Ok x.root
theorem Grid.ok_of (x:Grid) (h:Bw (Grid.ds x)):x.Ok:=by
 rw [Grid.ds_eq] at h
 simp only [Bw,D.ok,List.length_map] at h
 obtain⟨h1,h2,h3,h4,-⟩:=h
 exact⟨⟨h1.1,fun e he=>Shard.ok_of e (Bi h1.2 he)⟩,Address.ok_of _ (by rw [Address.ds_eq]; simp only [Bw,D.ok,List.length_map]; exact⟨h2,h3,h4,trivial⟩)⟩
theorem Grid.eq_iff (x y:Grid):x=y↔x.shards=y.shards∧x.root=y.root:=by
 cases x; cases y; simp only [Grid.mk.injEq]
def Grid.sz (x:Grid):Nat:=szl Shard.sz x.shards+0
theorem SH (x y:Grid) (h:x.sz≤Big):Ar (KW x y) (x=y):=by
 unfold KW
 exact Ar.iff (AR (KY _ _ (by have:=h; simp only [Grid.sz] at this; omega)) fun _=>AR (Cy _ _) fun _=>CG) (by rw [Grid.eq_iff]; simp only [and_true])
structure Parcel.Ok (x:Parcel):Prop where
 kind:(Lit.int IntKind.i64 x.kind).wf =true
 cell:ShardCell.Ok x.cell
 a:Address.Ok x.a
 b:Address.Ok x.b
theorem Parcel.ok_of (x:Parcel) (h:Bw (Parcel.ds x)):x.Ok:=by
 rw [Parcel.ds_eq] at h
 simp only [Bw,D.ok,List.length_map] at h
 obtain⟨h1,h2,h3,h4,h5,h6,h7,h8,h9,h10,h11,h12,-⟩:=h
 exact⟨h1,ShardCell.ok_of _ (by rw [ShardCell.ds_eq]; simp only [Bw,D.ok,List.length_map]; exact⟨h2,h3,h4,h5,h6,trivial⟩),Address.ok_of _ (by rw [Address.ds_eq]; simp only [Bw,D.ok,List.length_map]; exact⟨h7,h8,h9,trivial⟩),Address.ok_of _ (by rw [Address.ds_eq]; simp only [Bw,D.ok,List.length_map]; exact⟨h10,h11,h12,trivial⟩)⟩
theorem Parcel.eq_iff (x y:Parcel):x=y↔x.kind=y.kind∧x.cell=y.cell∧x.a=y.a∧x.b=y.b:=by
 cases x; cases y; simp only [Parcel.mk.injEq]
def Parcel.sz (x:Parcel):Nat:=x.cell.sz+0
theorem P6 (x y:Parcel) (h:x.sz≤Big):Ar (GU x y) (x=y):=by
 unfold GU
 exact Ar.iff (Bh EV fun _=>AR (IL _ _ (by have:=h; simp only [Parcel.sz] at this; omega)) fun _=>AR (Cy _ _) fun _=>AR (Cy _ _) fun _=>CG) (by rw [Parcel.eq_iff]; simp only [and_true])
theorem Od (l m:List Parcel) (hl:szl Parcel.sz l≤Big):Ar (Fs l m) (l=m):=by
 unfold Fs
 exact Oc (fun n i=>DO n l m i) GU l m (fun n i=>by rw [DO]) (by have:=Aw Parcel.sz l; omega) fun x hx y _=>P6 x y (by have:=A9 (s:=Parcel.sz) hx; omega)
theorem Ix (l m:List (List Parcel)) (hl:szl (szl Parcel.sz) l≤Big):Ar (FD l m) (l=m):=by
 unfold FD
 exact Oc (fun n i=>Cw n l m i) Fs l m (fun n i=>by rw [Cw]) (by have:=Aw (szl Parcel.sz) l; omega) fun x hx y _=>Od x y (by have:=A9 (s:=(szl Parcel.sz)) hx; omega)
theorem Jm (l m:List (List Int)) (hl:szl List.length l≤Big):Ar (Ft l m) (l=m):=by
 unfold Ft
 exact Oc (fun n i=>DP n l m i) Cs l m (fun n i=>by rw [DP]) (by have:=Aw List.length l; omega) fun x hx y _=>ED x y (by have:=A9 (s:=List.length) hx; omega)
structure Cluster.Ok (x:Cluster):Prop where
 grid:Grid.Ok x.grid
 channels:(x.channels.length≤9223372036854775807∧∀e ∈ x.channels,(e.length≤9223372036854775807∧∀ee ∈ e,Parcel.Ok ee))
 counts:(x.counts.length≤9223372036854775807∧∀e ∈ x.counts,(e.length≤9223372036854775807∧∀ee ∈ e,(Lit.int IntKind.i64 ee).wf =true))
 sent:(x.sent.length≤9223372036854775807∧∀e ∈ x.sent,(Lit.int IntKind.i64 e).wf =true)
 got:(x.got.length≤9223372036854775807∧∀e ∈ x.got,(Lit.int IntKind.i64 e).wf =true)
theorem Cluster.ok_of (x:Cluster) (h:Bw (Cluster.ds x)):x.Ok:=by
 rw [Cluster.ds_eq] at h
 simp only [Bw,D.ok,List.length_map] at h
 obtain⟨h1,h2,h3,h4,h5,h6,h7,h8,-⟩:=h
 exact⟨Grid.ok_of _ (by rw [Grid.ds_eq]; simp only [Bw,D.ok,List.length_map]; exact⟨h1,h2,h3,h4,trivial⟩),⟨h5.1,fun e he=>by have:=(Bi h5.2 he); simp only [slD,Bw,D.ok,List.length_map] at this; exact⟨this.1.1,fun e he=>Parcel.ok_of e (Bi this.1.2 he)⟩⟩,⟨h6.1,fun e he=>by have:=(Bi h6.2 he); simp only [slD,Bw,D.ok,List.length_map] at this; exact⟨this.1.1,fun e he=>by have:=(Bi this.1.2 he); simpa only [AJ,Bw,D.ok,and_true] using this⟩⟩,⟨h7.1,fun e he=>by have:=(Bi h7.2 he); simpa only [AJ,Bw,D.ok,and_true] using this⟩,⟨h8.1,fun e he=>by have:=(Bi h8.2 he); simpa only [AJ,Bw,D.ok,and_true] using this⟩⟩
theorem Cluster.eq_iff (x y:Cluster):x=y↔x.grid=y.grid∧x.channels=y.channels∧x.counts=y.counts∧x.sent=y.sent∧x.got=y.got:=by
 cases x; cases y; simp only [Cluster.mk.injEq]
def Cluster.sz (x:Cluster):Nat:=x.grid.sz+(szl (szl Parcel.sz) x.channels+(szl List.length x.counts+(x.sent.length+(x.got.length+0))))
theorem Jn (x y:Cluster) (h:x.sz≤Big):Ar (Fu x y) (x=y):=by
 unfold Fu
 exact Ar.iff (AR (SH _ _ (by have:=h; simp only [Cluster.sz] at this; omega)) fun _=>AR (Ix _ _ (by have:=h; simp only [Cluster.sz] at this; omega)) fun _=>AR (Jm _ _ (by have:=h; simp only [Cluster.sz] at this; omega)) fun _=>AR (ED _ _ (by have:=h; simp only [Cluster.sz] at this; omega)) fun _=>AR (ED _ _ (by have:=h; simp only [Cluster.sz] at this; omega)) fun _=>CG) (by rw [Cluster.eq_iff]; simp only [and_true])
theorem LV (l m:List Bool) (hl:l.length≤Big):Ar (HZ l m) (l=m):=by
 unfold HZ
 exact Oc (fun n i=>EU n l m i) (fun x y=>some (x == y)) l m (fun n i=>by rw [EU]; rfl) hl fun x hx y _=>.mk beq_iff_eq
structure Shot.Ok (x:Shot):Prop where
 taken:(x.taken.length≤9223372036854775807∧∀e ∈ x.taken,True)
 shards:(x.shards.length≤9223372036854775807∧∀e ∈ x.shards,Shard.Ok e)
 counts:(x.counts.length≤9223372036854775807∧∀e ∈ x.counts,(e.length≤9223372036854775807∧∀ee ∈ e,(Lit.int IntKind.i64 ee).wf =true))
 recording:(x.recording.length≤9223372036854775807∧∀e ∈ x.recording,True)
 saved:(x.saved.length≤9223372036854775807∧∀e ∈ x.saved,(e.length≤9223372036854775807∧∀ee ∈ e,Parcel.Ok ee))
theorem Shot.ok_of (x:Shot) (h:Bw (Shot.ds x)):x.Ok:=by
 rw [Shot.ds_eq] at h
 simp only [Bw,D.ok,List.length_map] at h
 obtain⟨h1,h2,h3,h4,h5,-⟩:=h
 exact⟨⟨h1.1,fun e he=>trivial⟩,⟨h2.1,fun e he=>Shard.ok_of e (Bi h2.2 he)⟩,⟨h3.1,fun e he=>by have:=(Bi h3.2 he); simp only [slD,Bw,D.ok,List.length_map] at this; exact⟨this.1.1,fun e he=>by have:=(Bi this.1.2 he); simpa only [AJ,Bw,D.ok,and_true] using this⟩⟩,⟨h4.1,fun e he=>trivial⟩,⟨h5.1,fun e he=>by have:=(Bi h5.2 he); simp only [slD,Bw,D.ok,List.length_map] at this; exact⟨this.1.1,fun e he=>Parcel.ok_of e (Bi this.1.2 he)⟩⟩⟩
theorem Shot.eq_iff (x y:Shot):x=y↔x.taken=y.taken∧x.shards=y.shards∧x.counts=y.counts∧x.recording=y.recording∧x.saved=y.saved:=by
 cases x; cases y; simp only [Shot.mk.injEq]
def Shot.sz (x:Shot):Nat:=x.taken.length+(szl Shard.sz x.shards+(szl List.length x.counts+(x.recording.length+(szl (szl Parcel.sz) x.saved+0))))
theorem SI (x y:Shot) (h:x.sz≤Big):Ar (KX x y) (x=y):=by
 unfold KX
 exact Ar.iff (AR (LV _ _ (by have:=h; simp only [Shot.sz] at this; omega)) fun _=>AR (KY _ _ (by have:=h; simp only [Shot.sz] at this; omega)) fun _=>AR (Jm _ _ (by have:=h; simp only [Shot.sz] at this; omega)) fun _=>AR (LV _ _ (by have:=h; simp only [Shot.sz] at this; omega)) fun _=>AR (Ix _ _ (by have:=h; simp only [Shot.sz] at this; omega)) fun _=>CG) (by rw [Shot.eq_iff]; simp only [and_true])
structure Watched.Ok (x:Watched):Prop where
 cluster:Cluster.Ok x.cluster
 shot:Shot.Ok x.shot
theorem Watched.ok_of (x:Watched) (h:Bw (Watched.ds x)):x.Ok:=by
 rw [Watched.ds_eq] at h
 simp only [Bw,D.ok,List.length_map] at h
 obtain⟨h1,h2,h3,h4,h5,h6,h7,h8,h9,h10,h11,h12,h13,-⟩:=h
 exact⟨Cluster.ok_of _ (by rw [Cluster.ds_eq]; simp only [Bw,D.ok,List.length_map]; exact⟨h1,h2,h3,h4,h5,h6,h7,h8,trivial⟩),Shot.ok_of _ (by rw [Shot.ds_eq]; simp only [Bw,D.ok,List.length_map]; exact⟨h9,h10,h11,h12,h13,trivial⟩)⟩
theorem Watched.eq_iff (x y:Watched):x=y↔x.cluster=y.cluster∧x.shot=y.shot:=by
 cases x; cases y; simp only [Watched.mk.injEq]
def Watched.sz (x:Watched):Nat:=x.cluster.sz+(x.shot.sz+0)
theorem Oe (x y:Watched) (h:x.sz≤Big):Ar (Gs x y) (x=y):=by
 unfold Gs
 exact Ar.iff (AR (Jn _ _ (by have:=h; simp only [Watched.sz] at this; omega)) fun _=>AR (SI _ _ (by have:=h; simp only [Watched.sz] at this; omega)) fun _=>CG) (by rw [Watched.eq_iff]; simp only [and_true])
structure Service.Ok (x:Service):Prop where
 watched:Watched.Ok x.watched
 good:Cluster.Ok x.good
 shots:(Lit.int IntKind.i64 x.shots).wf =true
 crashes:(Lit.int IntKind.i64 x.crashes).wf =true
theorem Service.ok_of (x:Service) (h:Bw (Service.ds x)):x.Ok:=by
 rw [Service.ds_eq] at h
 simp only [Bw,D.ok,List.length_map] at h
 obtain⟨h1,h2,h3,h4,h5,h6,h7,h8,h9,h10,h11,h12,h13,h14,h15,h16,h17,h18,h19,h20,h21,h22,h23,-⟩:=h
 exact⟨Watched.ok_of _ (by rw [Watched.ds_eq]; simp only [Bw,D.ok,List.length_map]; exact⟨h1,h2,h3,h4,h5,h6,h7,h8,h9,h10,h11,h12,h13,trivial⟩),Cluster.ok_of _ (by rw [Cluster.ds_eq]; simp only [Bw,D.ok,List.length_map]; exact⟨h14,h15,h16,h17,h18,h19,h20,h21,trivial⟩),h22,h23⟩
theorem Service.eq_iff (x y:Service):x=y↔x.watched=y.watched∧x.good=y.good∧x.shots=y.shots∧x.crashes=y.crashes:=by
 cases x; cases y; simp only [Service.mk.injEq]
def Service.sz (x:Service):Nat:=x.watched.sz+(x.good.sz+0)
theorem Of (x y:Service) (h:x.sz≤Big):Ar (EH x y) (x=y):=by
 unfold EH
 exact Ar.iff (AR (Oe _ _ (by have:=h; simp only [Service.sz] at this; omega)) fun _=>AR (Jn _ _ (by have:=h; simp only [Service.sz] at this; omega)) fun _=>Bh EV fun _=>Bh EV fun _=>CG) (by rw [Service.eq_iff]; simp only [and_true])
end Go.Proofs.YtclmbjbbojdojaaGreat.Ab
namespace Go.Proofs.YtclmbjbbojdojaaGreat.Ab
set_option linter.unusedVariables false
set_option linter.unusedSimpArgs false
open Go.RowKit
theorem A2 (l:List Int) (k:Nat) (h:l.length≤Big) (hk:k+cnts one l≤KB):Bp l (k:Int)=some (((k+cnts one l:Nat):Int),mks mkI one k l):=by
 unfold Bp
 refine Jl (fun n l k i=>CI n l k i) mkI one (fun _=>True) ?_ ?_ l k (fun _ _=>trivial) h hk
 ·intro n pre post x k hx hk hp
  have e:k+one x=k+1:=by rfl
  rw [e] at hk ⊢
  rw [CI,if_pos DW]
  simp (maxSteps:=2000000) (disch:=omega) only [DV,Fb,AA,wk,BX]
  rfl
 ·intro n l k; rw [CI,if_neg (by rw [DX]; decide)]
theorem B7 (l:List Int) (k:Nat) (h:l.length≤Big) (hk:k+cnts one l≤KB):C5 (mks mkI one k l) (k:Int)=some ((k+cnts one l:Nat):Int):=by
 unfold C5
 refine LU (fun n l k i=>CJ n l k i) mkI one (fun _=>True) ?_ ?_ l k (fun _ _=>trivial) h hk
 ·intro n pre post x k hx hk hp
  have e:k+one x=k+1:=by rfl
  rw [e] at hk ⊢
  rw [CJ,if_pos DW]
  simp (maxSteps:=2000000) (disch:=omega) only [mkI,DV,AA,wk,BX,Ob,H4,eq_self,decide_true,Bool.not_true,Bool.false_eq_true,reduceIte]
 ·intro n l k; rw [CJ,if_neg (by rw [DX]; decide)]
def Address.cnt (x:Address):Nat:=1+1+1
def Address.mk1 (k:Nat) (x:Address):Address:=⟨mkI (k) x.machine,mkI (k+1) x.kind,mkI (k+1+1) x.index⟩
def Address.cntV (x:Address):Nat:=0
def Address.mkV (k:Nat) (x:Address):Address:=⟨x.machine,x.kind,x.index⟩
theorem Address.cnt_le (x:Address):x.cnt≤3:=by unfold Address.cnt; omega
theorem Az (l:List Address) (k:Nat) (h:l.length≤Big) (hk:k+cnts Address.cnt l≤KB):D7 l (k:Int)=some (((k+cnts Address.cnt l:Nat):Int),mks Address.mk1 Address.cnt k l):=by
 unfold D7
 refine Jl (fun n l k i=>Bc n l k i) Address.mk1 Address.cnt (fun _=>True) ?_ ?_ l k (fun _ _=>trivial) h hk
 ·intro n pre post x k hx hk hp
  have e:k+Address.cnt x=k+1+1+1:=by unfold Address.cnt; omega
  rw [e] at hk ⊢
  rw [Bc,if_pos DW]
  simp (maxSteps:=2000000) (disch:=omega) only [DV,Fb,AA,wk,BX,A2]
  rfl
 ·intro n l k; rw [Bc,if_neg (by rw [DX]; decide)]
def ShardCell.cnt (x:ShardCell):Nat:=1+1+1+cnts one x.data+cnts Address.cnt x.aux
def ShardCell.mk1 (k:Nat) (x:ShardCell):ShardCell:=⟨mkI (k) x.kind,mkI (k+1) x.level,mkI (k+1+1) x.value,mks mkI one (k+1+1+1) x.data,mks Address.mk1 Address.cnt (k+1+1+1+cnts one x.data) x.aux⟩
def ShardCell.cntV (x:ShardCell):Nat:=cnts one x.data+cnts Address.cnt x.aux
def ShardCell.mkV (k:Nat) (x:ShardCell):ShardCell:=⟨x.kind,x.level,x.value,mks mkI one (k) x.data,mks Address.mk1 Address.cnt (k+cnts one x.data) x.aux⟩
theorem ShardCell.cnt_le (x:ShardCell):x.cnt≤3+3*x.sz:=by
 simp only [ShardCell.cnt,ShardCell.sz]
 have:=AO (c:=one) (b:=1) (l:=x.data) (fun x=>Am)
 have:=AO (c:=Address.cnt) (b:=3) (l:=x.aux) (fun x=>Address.cnt_le x)
 omega
theorem ShardCell.cntV_le (x:ShardCell):x.cntV≤3+3*x.sz:=by
 simp only [ShardCell.cntV,ShardCell.sz]
 have:=AO (c:=one) (b:=1) (l:=x.data) (fun x=>Am)
 have:=AO (c:=Address.cnt) (b:=3) (l:=x.aux) (fun x=>Address.cnt_le x)
 omega
theorem Av (l:List ShardCell) (k:Nat) (h:szl ShardCell.sz l≤Big) (hk:k+cnts ShardCell.cnt l≤KB):D8 l (k:Int)=some (((k+cnts ShardCell.cnt l:Nat):Int),mks ShardCell.mk1 ShardCell.cnt k l):=by
 unfold D8
 refine Jl (fun n l k i=>BH n l k i) ShardCell.mk1 ShardCell.cnt (fun x=>x.sz≤Big) ?_ ?_ l k (fun x hx=>by have:=A9 (s:=ShardCell.sz) hx; omega) (by have:=Aw ShardCell.sz l; omega) hk
 ·intro n pre post x k hx hk hp
  have e:k+ShardCell.cnt x=k+1+1+1+cnts one x.data+cnts Address.cnt x.aux:=by unfold ShardCell.cnt; omega
  rw [e] at hk ⊢
  simp only [ShardCell.sz] at hx
  rw [BH,if_pos DW]
  simp (maxSteps:=2000000) (disch:=omega) only [DV,Fb,AA,wk,BX,A2,Az]
  rfl
 ·intro n l k; rw [BH,if_neg (by rw [DX]; decide)]
def ShardVar.cnt (x:ShardVar):Nat:=1+1+1+1+1
def ShardVar.mk1 (k:Nat) (x:ShardVar):ShardVar:=⟨IB (k) x.used,IB (k+1) x.full,⟨mkI (k+1+1) x.held.machine,mkI (k+1+1+1) x.held.kind,mkI (k+1+1+1+1) x.held.index⟩⟩
def ShardVar.cntV (x:ShardVar):Nat:=0
def ShardVar.mkV (k:Nat) (x:ShardVar):ShardVar:=⟨x.used,x.full,⟨x.held.machine,x.held.kind,x.held.index⟩⟩
theorem ShardVar.cnt_le (x:ShardVar):x.cnt≤5:=by unfold ShardVar.cnt; omega
theorem BF (l:List ShardVar) (k:Nat) (h:l.length≤Big) (hk:k+cnts ShardVar.cnt l≤KB):Ea l (k:Int)=some (((k+cnts ShardVar.cnt l:Nat):Int),mks ShardVar.mk1 ShardVar.cnt k l):=by
 unfold Ea
 refine Jl (fun n l k i=>BQ n l k i) ShardVar.mk1 ShardVar.cnt (fun _=>True) ?_ ?_ l k (fun _ _=>trivial) h hk
 ·intro n pre post x k hx hk hp
  have e:k+ShardVar.cnt x=k+1+1+1+1+1:=by unfold ShardVar.cnt; omega
  rw [e] at hk ⊢
  rw [BQ,if_pos DW]
  simp (maxSteps:=2000000) (disch:=omega) only [DV,Fb,AA,wk,BX,A2,Az,Av]
  rfl
 ·intro n l k; rw [BQ,if_neg (by rw [DX]; decide)]
def ShardRedex.cnt (x:ShardRedex):Nat:=1+1+1+1+1+1
def ShardRedex.mk1 (k:Nat) (x:ShardRedex):ShardRedex:=⟨⟨mkI (k) x.a.machine,mkI (k+1) x.a.kind,mkI (k+1+1) x.a.index⟩,⟨mkI (k+1+1+1) x.b.machine,mkI (k+1+1+1+1) x.b.kind,mkI (k+1+1+1+1+1) x.b.index⟩⟩
def ShardRedex.cntV (x:ShardRedex):Nat:=0
def ShardRedex.mkV (k:Nat) (x:ShardRedex):ShardRedex:=⟨⟨x.a.machine,x.a.kind,x.a.index⟩,⟨x.b.machine,x.b.kind,x.b.index⟩⟩
theorem ShardRedex.cnt_le (x:ShardRedex):x.cnt≤6:=by unfold ShardRedex.cnt; omega
theorem BA (l:List ShardRedex) (k:Nat) (h:l.length≤Big) (hk:k+cnts ShardRedex.cnt l≤KB):Dh l (k:Int)=some (((k+cnts ShardRedex.cnt l:Nat):Int),mks ShardRedex.mk1 ShardRedex.cnt k l):=by
 unfold Dh
 refine Jl (fun n l k i=>A5 n l k i) ShardRedex.mk1 ShardRedex.cnt (fun _=>True) ?_ ?_ l k (fun _ _=>trivial) h hk
 ·intro n pre post x k hx hk hp
  have e:k+ShardRedex.cnt x=k+1+1+1+1+1+1:=by unfold ShardRedex.cnt; omega
  rw [e] at hk ⊢
  rw [A5,if_pos DW]
  simp (maxSteps:=2000000) (disch:=omega) only [DV,Fb,AA,wk,BX,A2,Az,Av,BF]
  rfl
 ·intro n l k; rw [A5,if_neg (by rw [DX]; decide)]
def Shard.cnt (x:Shard):Nat:=cnts ShardCell.cnt x.cells+cnts ShardVar.cnt x.vars+cnts ShardRedex.cnt x.redexes
def Shard.mk1 (k:Nat) (x:Shard):Shard:=⟨mks ShardCell.mk1 ShardCell.cnt (k) x.cells,mks ShardVar.mk1 ShardVar.cnt (k+cnts ShardCell.cnt x.cells) x.vars,mks ShardRedex.mk1 ShardRedex.cnt (k+cnts ShardCell.cnt x.cells+cnts ShardVar.cnt x.vars) x.redexes⟩
def Shard.cntV (x:Shard):Nat:=cnts ShardCell.cnt x.cells+cnts ShardVar.cnt x.vars+cnts ShardRedex.cnt x.redexes
def Shard.mkV (k:Nat) (x:Shard):Shard:=⟨mks ShardCell.mk1 ShardCell.cnt (k) x.cells,mks ShardVar.mk1 ShardVar.cnt (k+cnts ShardCell.cnt x.cells) x.vars,mks ShardRedex.mk1 ShardRedex.cnt (k+cnts ShardCell.cnt x.cells+cnts ShardVar.cnt x.vars) x.redexes⟩
theorem Shard.cnt_le (x:Shard):x.cnt≤6+6*x.sz:=by
 simp only [Shard.cnt,Shard.sz]
 have:=AX (c:=ShardCell.cnt) (s:=ShardCell.sz) (b:=3) (l:=x.cells) (fun x=>ShardCell.cnt_le x)
 have:=AO (c:=ShardVar.cnt) (b:=5) (l:=x.vars) (fun x=>ShardVar.cnt_le x)
 have:=AO (c:=ShardRedex.cnt) (b:=6) (l:=x.redexes) (fun x=>ShardRedex.cnt_le x)
 omega
theorem Shard.cntV_le (x:Shard):x.cntV≤6+6*x.sz:=by
 simp only [Shard.cntV,Shard.sz]
 have:=AX (c:=ShardCell.cnt) (s:=ShardCell.sz) (b:=3) (l:=x.cells) (fun x=>ShardCell.cnt_le x)
 have:=AO (c:=ShardVar.cnt) (b:=5) (l:=x.vars) (fun x=>ShardVar.cnt_le x)
 have:=AO (c:=ShardRedex.cnt) (b:=6) (l:=x.redexes) (fun x=>ShardRedex.cnt_le x)
 omega
theorem DE (l:List Shard) (k:Nat) (h:szl Shard.sz l≤Big) (hk:k+cnts Shard.cnt l≤KB):FE l (k:Int)=some (((k+cnts Shard.cnt l:Nat):Int),mks Shard.mk1 Shard.cnt k l):=by
 unfold FE
 refine Jl (fun n l k i=>CQ n l k i) Shard.mk1 Shard.cnt (fun x=>x.sz≤Big) ?_ ?_ l k (fun x hx=>by have:=A9 (s:=Shard.sz) hx; omega) (by have:=Aw Shard.sz l; omega) hk
 ·intro n pre post x k hx hk hp
  have e:k+Shard.cnt x=k+cnts ShardCell.cnt x.cells+cnts ShardVar.cnt x.vars+cnts ShardRedex.cnt x.redexes:=by unfold Shard.cnt; omega
  rw [e] at hk ⊢
  simp only [Shard.sz] at hx
  rw [CQ,if_pos DW]
  simp (maxSteps:=2000000) (disch:=omega) only [DV,Fb,AA,wk,BX,A2,Az,Av,BF,BA]
  rfl
 ·intro n l k; rw [CQ,if_neg (by rw [DX]; decide)]
def Grid.cnt (x:Grid):Nat:=cnts Shard.cnt x.shards+1+1+1
def Grid.mk1 (k:Nat) (x:Grid):Grid:=⟨mks Shard.mk1 Shard.cnt (k) x.shards,⟨mkI (k+cnts Shard.cnt x.shards) x.root.machine,mkI (k+cnts Shard.cnt x.shards+1) x.root.kind,mkI (k+cnts Shard.cnt x.shards+1+1) x.root.index⟩⟩
def Grid.cntV (x:Grid):Nat:=cnts Shard.cnt x.shards
def Grid.mkV (k:Nat) (x:Grid):Grid:=⟨mks Shard.mk1 Shard.cnt (k) x.shards,⟨x.root.machine,x.root.kind,x.root.index⟩⟩
theorem Grid.cnt_le (x:Grid):x.cnt≤6+6*x.sz:=by
 simp only [Grid.cnt,Grid.sz]
 have:=AX (c:=Shard.cnt) (s:=Shard.sz) (b:=6) (l:=x.shards) (fun x=>Shard.cnt_le x)
 omega
theorem Grid.cntV_le (x:Grid):x.cntV≤6+6*x.sz:=by
 simp only [Grid.cntV,Grid.sz]
 have:=AX (c:=Shard.cnt) (s:=Shard.sz) (b:=6) (l:=x.shards) (fun x=>Shard.cnt_le x)
 omega
def Parcel.cnt (x:Parcel):Nat:=1+1+1+1+cnts one x.cell.data+cnts Address.cnt x.cell.aux+1+1+1+1+1+1
def Parcel.mk1 (k:Nat) (x:Parcel):Parcel:=⟨mkI (k) x.kind,⟨mkI (k+1) x.cell.kind,mkI (k+1+1) x.cell.level,mkI (k+1+1+1) x.cell.value,mks mkI one (k+1+1+1+1) x.cell.data,mks Address.mk1 Address.cnt (k+1+1+1+1+cnts one x.cell.data) x.cell.aux⟩,⟨mkI (k+1+1+1+1+cnts one x.cell.data+cnts Address.cnt x.cell.aux) x.a.machine,mkI (k+1+1+1+1+cnts one x.cell.data+cnts Address.cnt x.cell.aux+1) x.a.kind,mkI (k+1+1+1+1+cnts one x.cell.data+cnts Address.cnt x.cell.aux+1+1) x.a.index⟩,⟨mkI (k+1+1+1+1+cnts one x.cell.data+cnts Address.cnt x.cell.aux+1+1+1) x.b.machine,mkI (k+1+1+1+1+cnts one x.cell.data+cnts Address.cnt x.cell.aux+1+1+1+1) x.b.kind,mkI (k+1+1+1+1+cnts one x.cell.data+cnts Address.cnt x.cell.aux+1+1+1+1+1) x.b.index⟩⟩
def Parcel.cntV (x:Parcel):Nat:=cnts one x.cell.data+cnts Address.cnt x.cell.aux
def Parcel.mkV (k:Nat) (x:Parcel):Parcel:=⟨x.kind,⟨x.cell.kind,x.cell.level,x.cell.value,mks mkI one (k) x.cell.data,mks Address.mk1 Address.cnt (k+cnts one x.cell.data) x.cell.aux⟩,⟨x.a.machine,x.a.kind,x.a.index⟩,⟨x.b.machine,x.b.kind,x.b.index⟩⟩
theorem Parcel.cnt_le (x:Parcel):x.cnt≤10+10*x.sz:=by
 simp only [Parcel.cnt,Parcel.sz,ShardCell.sz]
 have:=AO (c:=one) (b:=1) (l:=x.cell.data) (fun x=>Am)
 have:=AO (c:=Address.cnt) (b:=3) (l:=x.cell.aux) (fun x=>Address.cnt_le x)
 omega
theorem Parcel.cntV_le (x:Parcel):x.cntV≤10+10*x.sz:=by
 simp only [Parcel.cntV,Parcel.sz,ShardCell.sz]
 have:=AO (c:=one) (b:=1) (l:=x.cell.data) (fun x=>Am)
 have:=AO (c:=Address.cnt) (b:=3) (l:=x.cell.aux) (fun x=>Address.cnt_le x)
 omega
theorem DQ (l:List Parcel) (k:Nat) (h:szl Parcel.sz l≤Big) (hk:k+cnts Parcel.cnt l≤KB):FR l (k:Int)=some (((k+cnts Parcel.cnt l:Nat):Int),mks Parcel.mk1 Parcel.cnt k l):=by
 unfold FR
 refine Jl (fun n l k i=>By n l k i) Parcel.mk1 Parcel.cnt (fun x=>x.sz≤Big) ?_ ?_ l k (fun x hx=>by have:=A9 (s:=Parcel.sz) hx; omega) (by have:=Aw Parcel.sz l; omega) hk
 ·intro n pre post x k hx hk hp
  have e:k+Parcel.cnt x=k+1+1+1+1+cnts one x.cell.data+cnts Address.cnt x.cell.aux+1+1+1+1+1+1:=by unfold Parcel.cnt; omega
  rw [e] at hk ⊢
  simp only [Parcel.sz,ShardCell.sz] at hx
  rw [By,if_pos DW]
  simp (maxSteps:=2000000) (disch:=omega) only [DV,Fb,AA,wk,BX,A2,Az,Av,BF,BA,DE]
  rfl
 ·intro n l k; rw [By,if_neg (by rw [DX]; decide)]
theorem Db (l:List (List Parcel)) (k:Nat) (h:szl (szl Parcel.sz) l≤Big) (hk:k+cnts (cnts Parcel.cnt) l≤KB):D9 l (k:Int)=some (((k+cnts (cnts Parcel.cnt) l:Nat):Int),mks (mks Parcel.mk1 Parcel.cnt) (cnts Parcel.cnt) k l):=by
 unfold D9
 refine Jl (fun n l k i=>Bd n l k i) (mks Parcel.mk1 Parcel.cnt) (cnts Parcel.cnt) (fun x=>(szl Parcel.sz) x≤Big) ?_ ?_ l k (fun x hx=>by have:=A9 (s:=(szl Parcel.sz)) hx; omega) (by have:=Aw (szl Parcel.sz) l; omega) hk
 ·intro n pre post x k hx hk hp
  have e:k+(cnts Parcel.cnt) x=k+(cnts Parcel.cnt) x:=by rfl
  rw [e] at hk ⊢
  rw [Bd,if_pos DW]
  simp (maxSteps:=2000000) (disch:=omega) only [DV,Fb,AA,wk,BX,A2,Az,Av,BF,BA,DE,DQ]
 ·intro n l k; rw [Bd,if_neg (by rw [DX]; decide)]
theorem E1 (l:List (List Int)) (k:Nat) (h:szl List.length l≤Big) (hk:k+cnts (cnts one) l≤KB):Eh l (k:Int)=some (((k+cnts (cnts one) l:Nat):Int),mks (mks mkI one) (cnts one) k l):=by
 unfold Eh
 refine Jl (fun n l k i=>Bz n l k i) (mks mkI one) (cnts one) (fun x=>List.length x≤Big) ?_ ?_ l k (fun x hx=>by have:=A9 (s:=List.length) hx; omega) (by have:=Aw List.length l; omega) hk
 ·intro n pre post x k hx hk hp
  have e:k+(cnts one) x=k+(cnts one) x:=by rfl
  rw [e] at hk ⊢
  rw [Bz,if_pos DW]
  simp (maxSteps:=2000000) (disch:=omega) only [DV,Fb,AA,wk,BX,A2,Az,Av,BF,BA,DE,DQ,Db]
 ·intro n l k; rw [Bz,if_neg (by rw [DX]; decide)]
def Cluster.cnt (x:Cluster):Nat:=cnts Shard.cnt x.grid.shards+1+1+1+cnts (cnts Parcel.cnt) x.channels+cnts (cnts one) x.counts+cnts one x.sent+cnts one x.got
def Cluster.mk1 (k:Nat) (x:Cluster):Cluster:=⟨⟨mks Shard.mk1 Shard.cnt (k) x.grid.shards,⟨mkI (k+cnts Shard.cnt x.grid.shards) x.grid.root.machine,mkI (k+cnts Shard.cnt x.grid.shards+1) x.grid.root.kind,mkI (k+cnts Shard.cnt x.grid.shards+1+1) x.grid.root.index⟩⟩,mks (mks Parcel.mk1 Parcel.cnt) (cnts Parcel.cnt) (k+cnts Shard.cnt x.grid.shards+1+1+1) x.channels,mks (mks mkI one) (cnts one) (k+cnts Shard.cnt x.grid.shards+1+1+1+cnts (cnts Parcel.cnt) x.channels) x.counts,mks mkI one (k+cnts Shard.cnt x.grid.shards+1+1+1+cnts (cnts Parcel.cnt) x.channels+cnts (cnts one) x.counts) x.sent,mks mkI one (k+cnts Shard.cnt x.grid.shards+1+1+1+cnts (cnts Parcel.cnt) x.channels+cnts (cnts one) x.counts+cnts one x.sent) x.got⟩
def Cluster.cntV (x:Cluster):Nat:=cnts Shard.cnt x.grid.shards+cnts (cnts Parcel.cnt) x.channels+cnts (cnts one) x.counts+cnts one x.sent+cnts one x.got
def Cluster.mkV (k:Nat) (x:Cluster):Cluster:=⟨⟨mks Shard.mk1 Shard.cnt (k) x.grid.shards,⟨x.grid.root.machine,x.grid.root.kind,x.grid.root.index⟩⟩,mks (mks Parcel.mk1 Parcel.cnt) (cnts Parcel.cnt) (k+cnts Shard.cnt x.grid.shards) x.channels,mks (mks mkI one) (cnts one) (k+cnts Shard.cnt x.grid.shards+cnts (cnts Parcel.cnt) x.channels) x.counts,mks mkI one (k+cnts Shard.cnt x.grid.shards+cnts (cnts Parcel.cnt) x.channels+cnts (cnts one) x.counts) x.sent,mks mkI one (k+cnts Shard.cnt x.grid.shards+cnts (cnts Parcel.cnt) x.channels+cnts (cnts one) x.counts+cnts one x.sent) x.got⟩
theorem Cluster.cnt_le (x:Cluster):x.cnt≤10+10*x.sz:=by
 simp only [Cluster.cnt,Cluster.sz,Grid.sz]
 have:=AX (c:=Shard.cnt) (s:=Shard.sz) (b:=6) (l:=x.grid.shards) (fun x=>Shard.cnt_le x)
 have:=AX (c:=(cnts Parcel.cnt)) (s:=(szl Parcel.sz)) (b:=10) (l:=x.channels) (fun x=>by have:=AX (c:=Parcel.cnt) (s:=Parcel.sz) (b:=10) (l:=x) (fun x=>Parcel.cnt_le x); omega)
 have:=AX (c:=(cnts one)) (s:=List.length) (b:=1) (l:=x.counts) (fun x=>by have:=AO (c:=one) (b:=1) (l:=x) (fun x=>Am); omega)
 have:=AO (c:=one) (b:=1) (l:=x.sent) (fun x=>Am)
 have:=AO (c:=one) (b:=1) (l:=x.got) (fun x=>Am)
 omega
theorem Cluster.cntV_le (x:Cluster):x.cntV≤10+10*x.sz:=by
 simp only [Cluster.cntV,Cluster.sz,Grid.sz]
 have:=AX (c:=Shard.cnt) (s:=Shard.sz) (b:=6) (l:=x.grid.shards) (fun x=>Shard.cnt_le x)
 have:=AX (c:=(cnts Parcel.cnt)) (s:=(szl Parcel.sz)) (b:=10) (l:=x.channels) (fun x=>by have:=AX (c:=Parcel.cnt) (s:=Parcel.sz) (b:=10) (l:=x) (fun x=>Parcel.cnt_le x); omega)
 have:=AX (c:=(cnts one)) (s:=List.length) (b:=1) (l:=x.counts) (fun x=>by have:=AO (c:=one) (b:=1) (l:=x) (fun x=>Am); omega)
 have:=AO (c:=one) (b:=1) (l:=x.sent) (fun x=>Am)
 have:=AO (c:=one) (b:=1) (l:=x.got) (fun x=>Am)
 omega
theorem HH (l:List Bool) (k:Nat) (h:l.length≤Big) (hk:k+cnts one l≤KB):Fv l (k:Int)=some (((k+cnts one l:Nat):Int),mks IB one k l):=by
 unfold Fv
 refine Jl (fun n l k i=>Cn n l k i) IB one (fun _=>True) ?_ ?_ l k (fun _ _=>trivial) h hk
 ·intro n pre post x k hx hk hp
  have e:k+one x=k+1:=by rfl
  rw [e] at hk ⊢
  rw [Cn,if_pos DW]
  simp (maxSteps:=2000000) (disch:=omega) only [DV,Fb,AA,wk,BX,A2,Az,Av,BF,BA,DE,DQ,Db,E1]
  rfl
 ·intro n l k; rw [Cn,if_neg (by rw [DX]; decide)]
def Shot.cnt (x:Shot):Nat:=cnts one x.taken+cnts Shard.cnt x.shards+cnts (cnts one) x.counts+cnts one x.recording+cnts (cnts Parcel.cnt) x.saved
def Shot.mk1 (k:Nat) (x:Shot):Shot:=⟨mks IB one (k) x.taken,mks Shard.mk1 Shard.cnt (k+cnts one x.taken) x.shards,mks (mks mkI one) (cnts one) (k+cnts one x.taken+cnts Shard.cnt x.shards) x.counts,mks IB one (k+cnts one x.taken+cnts Shard.cnt x.shards+cnts (cnts one) x.counts) x.recording,mks (mks Parcel.mk1 Parcel.cnt) (cnts Parcel.cnt) (k+cnts one x.taken+cnts Shard.cnt x.shards+cnts (cnts one) x.counts+cnts one x.recording) x.saved⟩
def Shot.cntV (x:Shot):Nat:=cnts one x.taken+cnts Shard.cnt x.shards+cnts (cnts one) x.counts+cnts one x.recording+cnts (cnts Parcel.cnt) x.saved
def Shot.mkV (k:Nat) (x:Shot):Shot:=⟨mks IB one (k) x.taken,mks Shard.mk1 Shard.cnt (k+cnts one x.taken) x.shards,mks (mks mkI one) (cnts one) (k+cnts one x.taken+cnts Shard.cnt x.shards) x.counts,mks IB one (k+cnts one x.taken+cnts Shard.cnt x.shards+cnts (cnts one) x.counts) x.recording,mks (mks Parcel.mk1 Parcel.cnt) (cnts Parcel.cnt) (k+cnts one x.taken+cnts Shard.cnt x.shards+cnts (cnts one) x.counts+cnts one x.recording) x.saved⟩
theorem Shot.cnt_le (x:Shot):x.cnt≤10+10*x.sz:=by
 simp only [Shot.cnt,Shot.sz]
 have:=AO (c:=one) (b:=1) (l:=x.taken) (fun x=>Am)
 have:=AX (c:=Shard.cnt) (s:=Shard.sz) (b:=6) (l:=x.shards) (fun x=>Shard.cnt_le x)
 have:=AX (c:=(cnts one)) (s:=List.length) (b:=1) (l:=x.counts) (fun x=>by have:=AO (c:=one) (b:=1) (l:=x) (fun x=>Am); omega)
 have:=AO (c:=one) (b:=1) (l:=x.recording) (fun x=>Am)
 have:=AX (c:=(cnts Parcel.cnt)) (s:=(szl Parcel.sz)) (b:=10) (l:=x.saved) (fun x=>by have:=AX (c:=Parcel.cnt) (s:=Parcel.sz) (b:=10) (l:=x) (fun x=>Parcel.cnt_le x); omega)
 omega
theorem Shot.cntV_le (x:Shot):x.cntV≤10+10*x.sz:=by
 simp only [Shot.cntV,Shot.sz]
 have:=AO (c:=one) (b:=1) (l:=x.taken) (fun x=>Am)
 have:=AX (c:=Shard.cnt) (s:=Shard.sz) (b:=6) (l:=x.shards) (fun x=>Shard.cnt_le x)
 have:=AX (c:=(cnts one)) (s:=List.length) (b:=1) (l:=x.counts) (fun x=>by have:=AO (c:=one) (b:=1) (l:=x) (fun x=>Am); omega)
 have:=AO (c:=one) (b:=1) (l:=x.recording) (fun x=>Am)
 have:=AX (c:=(cnts Parcel.cnt)) (s:=(szl Parcel.sz)) (b:=10) (l:=x.saved) (fun x=>by have:=AX (c:=Parcel.cnt) (s:=Parcel.sz) (b:=10) (l:=x) (fun x=>Parcel.cnt_le x); omega)
 omega
def Watched.cnt (x:Watched):Nat:=cnts Shard.cnt x.cluster.grid.shards+1+1+1+cnts (cnts Parcel.cnt) x.cluster.channels+cnts (cnts one) x.cluster.counts+cnts one x.cluster.sent+cnts one x.cluster.got+cnts one x.shot.taken+cnts Shard.cnt x.shot.shards+cnts (cnts one) x.shot.counts+cnts one x.shot.recording+cnts (cnts Parcel.cnt) x.shot.saved
def Watched.mk1 (k:Nat) (x:Watched):Watched:=⟨⟨⟨mks Shard.mk1 Shard.cnt (k) x.cluster.grid.shards,⟨mkI (k+cnts Shard.cnt x.cluster.grid.shards) x.cluster.grid.root.machine,mkI (k+cnts Shard.cnt x.cluster.grid.shards+1) x.cluster.grid.root.kind,mkI (k+cnts Shard.cnt x.cluster.grid.shards+1+1) x.cluster.grid.root.index⟩⟩,mks (mks Parcel.mk1 Parcel.cnt) (cnts Parcel.cnt) (k+cnts Shard.cnt x.cluster.grid.shards+1+1+1) x.cluster.channels,mks (mks mkI one) (cnts one) (k+cnts Shard.cnt x.cluster.grid.shards+1+1+1+cnts (cnts Parcel.cnt) x.cluster.channels) x.cluster.counts,mks mkI one (k+cnts Shard.cnt x.cluster.grid.shards+1+1+1+cnts (cnts Parcel.cnt) x.cluster.channels+cnts (cnts one) x.cluster.counts) x.cluster.sent,mks mkI one (k+cnts Shard.cnt x.cluster.grid.shards+1+1+1+cnts (cnts Parcel.cnt) x.cluster.channels+cnts (cnts one) x.cluster.counts+cnts one x.cluster.sent) x.cluster.got⟩,⟨mks IB one (k+cnts Shard.cnt x.cluster.grid.shards+1+1+1+cnts (cnts Parcel.cnt) x.cluster.channels+cnts (cnts one) x.cluster.counts+cnts one x.cluster.sent+cnts one x.cluster.got) x.shot.taken,mks Shard.mk1 Shard.cnt (k+cnts Shard.cnt x.cluster.grid.shards+1+1+1+cnts (cnts Parcel.cnt) x.cluster.channels+cnts (cnts one) x.cluster.counts+cnts one x.cluster.sent+cnts one x.cluster.got+cnts one x.shot.taken) x.shot.shards,mks (mks mkI one) (cnts one) (k+cnts Shard.cnt x.cluster.grid.shards+1+1+1+cnts (cnts Parcel.cnt) x.cluster.channels+cnts (cnts one) x.cluster.counts+cnts one x.cluster.sent+cnts one x.cluster.got+cnts one x.shot.taken+cnts Shard.cnt x.shot.shards) x.shot.counts,mks IB one (k+cnts Shard.cnt x.cluster.grid.shards+1+1+1+cnts (cnts Parcel.cnt) x.cluster.channels+cnts (cnts one) x.cluster.counts+cnts one x.cluster.sent+cnts one x.cluster.got+cnts one x.shot.taken+cnts Shard.cnt x.shot.shards+cnts (cnts one) x.shot.counts) x.shot.recording,mks (mks Parcel.mk1 Parcel.cnt) (cnts Parcel.cnt) (k+cnts Shard.cnt x.cluster.grid.shards+1+1+1+cnts (cnts Parcel.cnt) x.cluster.channels+cnts (cnts one) x.cluster.counts+cnts one x.cluster.sent+cnts one x.cluster.got+cnts one x.shot.taken+cnts Shard.cnt x.shot.shards+cnts (cnts one) x.shot.counts+cnts one x.shot.recording) x.shot.saved⟩⟩
def Watched.cntV (x:Watched):Nat:=cnts Shard.cnt x.cluster.grid.shards+cnts (cnts Parcel.cnt) x.cluster.channels+cnts (cnts one) x.cluster.counts+cnts one x.cluster.sent+cnts one x.cluster.got+cnts one x.shot.taken+cnts Shard.cnt x.shot.shards+cnts (cnts one) x.shot.counts+cnts one x.shot.recording+cnts (cnts Parcel.cnt) x.shot.saved
def Watched.mkV (k:Nat) (x:Watched):Watched:=⟨⟨⟨mks Shard.mk1 Shard.cnt (k) x.cluster.grid.shards,⟨x.cluster.grid.root.machine,x.cluster.grid.root.kind,x.cluster.grid.root.index⟩⟩,mks (mks Parcel.mk1 Parcel.cnt) (cnts Parcel.cnt) (k+cnts Shard.cnt x.cluster.grid.shards) x.cluster.channels,mks (mks mkI one) (cnts one) (k+cnts Shard.cnt x.cluster.grid.shards+cnts (cnts Parcel.cnt) x.cluster.channels) x.cluster.counts,mks mkI one (k+cnts Shard.cnt x.cluster.grid.shards+cnts (cnts Parcel.cnt) x.cluster.channels+cnts (cnts one) x.cluster.counts) x.cluster.sent,mks mkI one (k+cnts Shard.cnt x.cluster.grid.shards+cnts (cnts Parcel.cnt) x.cluster.channels+cnts (cnts one) x.cluster.counts+cnts one x.cluster.sent) x.cluster.got⟩,⟨mks IB one (k+cnts Shard.cnt x.cluster.grid.shards+cnts (cnts Parcel.cnt) x.cluster.channels+cnts (cnts one) x.cluster.counts+cnts one x.cluster.sent+cnts one x.cluster.got) x.shot.taken,mks Shard.mk1 Shard.cnt (k+cnts Shard.cnt x.cluster.grid.shards+cnts (cnts Parcel.cnt) x.cluster.channels+cnts (cnts one) x.cluster.counts+cnts one x.cluster.sent+cnts one x.cluster.got+cnts one x.shot.taken) x.shot.shards,mks (mks mkI one) (cnts one) (k+cnts Shard.cnt x.cluster.grid.shards+cnts (cnts Parcel.cnt) x.cluster.channels+cnts (cnts one) x.cluster.counts+cnts one x.cluster.sent+cnts one x.cluster.got+cnts one x.shot.taken+cnts Shard.cnt x.shot.shards) x.shot.counts,mks IB one (k+cnts Shard.cnt x.cluster.grid.shards+cnts (cnts Parcel.cnt) x.cluster.channels+cnts (cnts one) x.cluster.counts+cnts one x.cluster.sent+cnts one x.cluster.got+cnts one x.shot.taken+cnts Shard.cnt x.shot.shards+cnts (cnts one) x.shot.counts) x.shot.recording,mks (mks Parcel.mk1 Parcel.cnt) (cnts Parcel.cnt) (k+cnts Shard.cnt x.cluster.grid.shards+cnts (cnts Parcel.cnt) x.cluster.channels+cnts (cnts one) x.cluster.counts+cnts one x.cluster.sent+cnts one x.cluster.got+cnts one x.shot.taken+cnts Shard.cnt x.shot.shards+cnts (cnts one) x.shot.counts+cnts one x.shot.recording) x.shot.saved⟩⟩
theorem Watched.cnt_le (x:Watched):x.cnt≤10+10*x.sz:=by
 simp only [Watched.cnt,Watched.sz,Cluster.sz,Grid.sz,Shot.sz]
 have:=AX (c:=Shard.cnt) (s:=Shard.sz) (b:=6) (l:=x.cluster.grid.shards) (fun x=>Shard.cnt_le x)
 have:=AX (c:=(cnts Parcel.cnt)) (s:=(szl Parcel.sz)) (b:=10) (l:=x.cluster.channels) (fun x=>by have:=AX (c:=Parcel.cnt) (s:=Parcel.sz) (b:=10) (l:=x) (fun x=>Parcel.cnt_le x); omega)
 have:=AX (c:=(cnts one)) (s:=List.length) (b:=1) (l:=x.cluster.counts) (fun x=>by have:=AO (c:=one) (b:=1) (l:=x) (fun x=>Am); omega)
 have:=AO (c:=one) (b:=1) (l:=x.cluster.sent) (fun x=>Am)
 have:=AO (c:=one) (b:=1) (l:=x.cluster.got) (fun x=>Am)
 have:=AO (c:=one) (b:=1) (l:=x.shot.taken) (fun x=>Am)
 have:=AX (c:=Shard.cnt) (s:=Shard.sz) (b:=6) (l:=x.shot.shards) (fun x=>Shard.cnt_le x)
 have:=AX (c:=(cnts one)) (s:=List.length) (b:=1) (l:=x.shot.counts) (fun x=>by have:=AO (c:=one) (b:=1) (l:=x) (fun x=>Am); omega)
 have:=AO (c:=one) (b:=1) (l:=x.shot.recording) (fun x=>Am)
 have:=AX (c:=(cnts Parcel.cnt)) (s:=(szl Parcel.sz)) (b:=10) (l:=x.shot.saved) (fun x=>by have:=AX (c:=Parcel.cnt) (s:=Parcel.sz) (b:=10) (l:=x) (fun x=>Parcel.cnt_le x); omega)
 omega
theorem Watched.cntV_le (x:Watched):x.cntV≤10+10*x.sz:=by
 simp only [Watched.cntV,Watched.sz,Cluster.sz,Grid.sz,Shot.sz]
 have:=AX (c:=Shard.cnt) (s:=Shard.sz) (b:=6) (l:=x.cluster.grid.shards) (fun x=>Shard.cnt_le x)
 have:=AX (c:=(cnts Parcel.cnt)) (s:=(szl Parcel.sz)) (b:=10) (l:=x.cluster.channels) (fun x=>by have:=AX (c:=Parcel.cnt) (s:=Parcel.sz) (b:=10) (l:=x) (fun x=>Parcel.cnt_le x); omega)
 have:=AX (c:=(cnts one)) (s:=List.length) (b:=1) (l:=x.cluster.counts) (fun x=>by have:=AO (c:=one) (b:=1) (l:=x) (fun x=>Am); omega)
 have:=AO (c:=one) (b:=1) (l:=x.cluster.sent) (fun x=>Am)
 have:=AO (c:=one) (b:=1) (l:=x.cluster.got) (fun x=>Am)
 have:=AO (c:=one) (b:=1) (l:=x.shot.taken) (fun x=>Am)
 have:=AX (c:=Shard.cnt) (s:=Shard.sz) (b:=6) (l:=x.shot.shards) (fun x=>Shard.cnt_le x)
 have:=AX (c:=(cnts one)) (s:=List.length) (b:=1) (l:=x.shot.counts) (fun x=>by have:=AO (c:=one) (b:=1) (l:=x) (fun x=>Am); omega)
 have:=AO (c:=one) (b:=1) (l:=x.shot.recording) (fun x=>Am)
 have:=AX (c:=(cnts Parcel.cnt)) (s:=(szl Parcel.sz)) (b:=10) (l:=x.shot.saved) (fun x=>by have:=AX (c:=Parcel.cnt) (s:=Parcel.sz) (b:=10) (l:=x) (fun x=>Parcel.cnt_le x); omega)
 omega
def Service.cnt (x:Service):Nat:=cnts Shard.cnt x.watched.cluster.grid.shards+1+1+1+cnts (cnts Parcel.cnt) x.watched.cluster.channels+cnts (cnts one) x.watched.cluster.counts+cnts one x.watched.cluster.sent+cnts one x.watched.cluster.got+cnts one x.watched.shot.taken+cnts Shard.cnt x.watched.shot.shards+cnts (cnts one) x.watched.shot.counts+cnts one x.watched.shot.recording+cnts (cnts Parcel.cnt) x.watched.shot.saved+cnts Shard.cnt x.good.grid.shards+1+1+1+cnts (cnts Parcel.cnt) x.good.channels+cnts (cnts one) x.good.counts+cnts one x.good.sent+cnts one x.good.got+1+1
def Service.mk1 (k:Nat) (x:Service):Service:=⟨⟨⟨⟨mks Shard.mk1 Shard.cnt (k) x.watched.cluster.grid.shards,⟨mkI (k+cnts Shard.cnt x.watched.cluster.grid.shards) x.watched.cluster.grid.root.machine,mkI (k+cnts Shard.cnt x.watched.cluster.grid.shards+1) x.watched.cluster.grid.root.kind,mkI (k+cnts Shard.cnt x.watched.cluster.grid.shards+1+1) x.watched.cluster.grid.root.index⟩⟩,mks (mks Parcel.mk1 Parcel.cnt) (cnts Parcel.cnt) (k+cnts Shard.cnt x.watched.cluster.grid.shards+1+1+1) x.watched.cluster.channels,mks (mks mkI one) (cnts one) (k+cnts Shard.cnt x.watched.cluster.grid.shards+1+1+1+cnts (cnts Parcel.cnt) x.watched.cluster.channels) x.watched.cluster.counts,mks mkI one (k+cnts Shard.cnt x.watched.cluster.grid.shards+1+1+1+cnts (cnts Parcel.cnt) x.watched.cluster.channels+cnts (cnts one) x.watched.cluster.counts) x.watched.cluster.sent,mks mkI one (k+cnts Shard.cnt x.watched.cluster.grid.shards+1+1+1+cnts (cnts Parcel.cnt) x.watched.cluster.channels+cnts (cnts one) x.watched.cluster.counts+cnts one x.watched.cluster.sent) x.watched.cluster.got⟩,⟨mks IB one (k+cnts Shard.cnt x.watched.cluster.grid.shards+1+1+1+cnts (cnts Parcel.cnt) x.watched.cluster.channels+cnts (cnts one) x.watched.cluster.counts+cnts one x.watched.cluster.sent+cnts one x.watched.cluster.got) x.watched.shot.taken,mks Shard.mk1 Shard.cnt (k+cnts Shard.cnt x.watched.cluster.grid.shards+1+1+1+cnts (cnts Parcel.cnt) x.watched.cluster.channels+cnts (cnts one) x.watched.cluster.counts+cnts one x.watched.cluster.sent+cnts one x.watched.cluster.got+cnts one x.watched.shot.taken) x.watched.shot.shards,mks (mks mkI one) (cnts one) (k+cnts Shard.cnt x.watched.cluster.grid.shards+1+1+1+cnts (cnts Parcel.cnt) x.watched.cluster.channels+cnts (cnts one) x.watched.cluster.counts+cnts one x.watched.cluster.sent+cnts one x.watched.cluster.got+cnts one x.watched.shot.taken+cnts Shard.cnt x.watched.shot.shards) x.watched.shot.counts,mks IB one (k+cnts Shard.cnt x.watched.cluster.grid.shards+1+1+1+cnts (cnts Parcel.cnt) x.watched.cluster.channels+cnts (cnts one) x.watched.cluster.counts+cnts one x.watched.cluster.sent+cnts one x.watched.cluster.got+cnts one x.watched.shot.taken+cnts Shard.cnt x.watched.shot.shards+cnts (cnts one) x.watched.shot.counts) x.watched.shot.recording,mks (mks Parcel.mk1 Parcel.cnt) (cnts Parcel.cnt) (k+cnts Shard.cnt x.watched.cluster.grid.shards+1+1+1+cnts (cnts Parcel.cnt) x.watched.cluster.channels+cnts (cnts one) x.watched.cluster.counts+cnts one x.watched.cluster.sent+cnts one x.watched.cluster.got+cnts one x.watched.shot.taken+cnts Shard.cnt x.watched.shot.shards+cnts (cnts one) x.watched.shot.counts+cnts one x.watched.shot.recording) x.watched.shot.saved⟩⟩,⟨⟨mks Shard.mk1 Shard.cnt (k+cnts Shard.cnt x.watched.cluster.grid.shards+1+1+1+cnts (cnts Parcel.cnt) x.watched.cluster.channels+cnts (cnts one) x.watched.cluster.counts+cnts one x.watched.cluster.sent+cnts one x.watched.cluster.got+cnts one x.watched.shot.taken+cnts Shard.cnt x.watched.shot.shards+cnts (cnts one) x.watched.shot.counts+cnts one x.watched.shot.recording+cnts (cnts Parcel.cnt) x.watched.shot.saved) x.good.grid.shards,⟨mkI (k+cnts Shard.cnt x.watched.cluster.grid.shards+1+1+1+cnts (cnts Parcel.cnt) x.watched.cluster.channels+cnts (cnts one) x.watched.cluster.counts+cnts one x.watched.cluster.sent+cnts one x.watched.cluster.got+cnts one x.watched.shot.taken+cnts Shard.cnt x.watched.shot.shards+cnts (cnts one) x.watched.shot.counts+cnts one x.watched.shot.recording+cnts (cnts Parcel.cnt) x.watched.shot.saved+cnts Shard.cnt x.good.grid.shards) x.good.grid.root.machine,mkI (k+cnts Shard.cnt x.watched.cluster.grid.shards+1+1+1+cnts (cnts Parcel.cnt) x.watched.cluster.channels+cnts (cnts one) x.watched.cluster.counts+cnts one x.watched.cluster.sent+cnts one x.watched.cluster.got+cnts one x.watched.shot.taken+cnts Shard.cnt x.watched.shot.shards+cnts (cnts one) x.watched.shot.counts+cnts one x.watched.shot.recording+cnts (cnts Parcel.cnt) x.watched.shot.saved+cnts Shard.cnt x.good.grid.shards+1) x.good.grid.root.kind,mkI (k+cnts Shard.cnt x.watched.cluster.grid.shards+1+1+1+cnts (cnts Parcel.cnt) x.watched.cluster.channels+cnts (cnts one) x.watched.cluster.counts+cnts one x.watched.cluster.sent+cnts one x.watched.cluster.got+cnts one x.watched.shot.taken+cnts Shard.cnt x.watched.shot.shards+cnts (cnts one) x.watched.shot.counts+cnts one x.watched.shot.recording+cnts (cnts Parcel.cnt) x.watched.shot.saved+cnts Shard.cnt x.good.grid.shards+1+1) x.good.grid.root.index⟩⟩,mks (mks Parcel.mk1 Parcel.cnt) (cnts Parcel.cnt) (k+cnts Shard.cnt x.watched.cluster.grid.shards+1+1+1+cnts (cnts Parcel.cnt) x.watched.cluster.channels+cnts (cnts one) x.watched.cluster.counts+cnts one x.watched.cluster.sent+cnts one x.watched.cluster.got+cnts one x.watched.shot.taken+cnts Shard.cnt x.watched.shot.shards+cnts (cnts one) x.watched.shot.counts+cnts one x.watched.shot.recording+cnts (cnts Parcel.cnt) x.watched.shot.saved+cnts Shard.cnt x.good.grid.shards+1+1+1) x.good.channels,mks (mks mkI one) (cnts one) (k+cnts Shard.cnt x.watched.cluster.grid.shards+1+1+1+cnts (cnts Parcel.cnt) x.watched.cluster.channels+cnts (cnts one) x.watched.cluster.counts+cnts one x.watched.cluster.sent+cnts one x.watched.cluster.got+cnts one x.watched.shot.taken+cnts Shard.cnt x.watched.shot.shards+cnts (cnts one) x.watched.shot.counts+cnts one x.watched.shot.recording+cnts (cnts Parcel.cnt) x.watched.shot.saved+cnts Shard.cnt x.good.grid.shards+1+1+1+cnts (cnts Parcel.cnt) x.good.channels) x.good.counts,mks mkI one (k+cnts Shard.cnt x.watched.cluster.grid.shards+1+1+1+cnts (cnts Parcel.cnt) x.watched.cluster.channels+cnts (cnts one) x.watched.cluster.counts+cnts one x.watched.cluster.sent+cnts one x.watched.cluster.got+cnts one x.watched.shot.taken+cnts Shard.cnt x.watched.shot.shards+cnts (cnts one) x.watched.shot.counts+cnts one x.watched.shot.recording+cnts (cnts Parcel.cnt) x.watched.shot.saved+cnts Shard.cnt x.good.grid.shards+1+1+1+cnts (cnts Parcel.cnt) x.good.channels+cnts (cnts one) x.good.counts) x.good.sent,mks mkI one (k+cnts Shard.cnt x.watched.cluster.grid.shards+1+1+1+cnts (cnts Parcel.cnt) x.watched.cluster.channels+cnts (cnts one) x.watched.cluster.counts+cnts one x.watched.cluster.sent+cnts one x.watched.cluster.got+cnts one x.watched.shot.taken+cnts Shard.cnt x.watched.shot.shards+cnts (cnts one) x.watched.shot.counts+cnts one x.watched.shot.recording+cnts (cnts Parcel.cnt) x.watched.shot.saved+cnts Shard.cnt x.good.grid.shards+1+1+1+cnts (cnts Parcel.cnt) x.good.channels+cnts (cnts one) x.good.counts+cnts one x.good.sent) x.good.got⟩,mkI (k+cnts Shard.cnt x.watched.cluster.grid.shards+1+1+1+cnts (cnts Parcel.cnt) x.watched.cluster.channels+cnts (cnts one) x.watched.cluster.counts+cnts one x.watched.cluster.sent+cnts one x.watched.cluster.got+cnts one x.watched.shot.taken+cnts Shard.cnt x.watched.shot.shards+cnts (cnts one) x.watched.shot.counts+cnts one x.watched.shot.recording+cnts (cnts Parcel.cnt) x.watched.shot.saved+cnts Shard.cnt x.good.grid.shards+1+1+1+cnts (cnts Parcel.cnt) x.good.channels+cnts (cnts one) x.good.counts+cnts one x.good.sent+cnts one x.good.got) x.shots,mkI (k+cnts Shard.cnt x.watched.cluster.grid.shards+1+1+1+cnts (cnts Parcel.cnt) x.watched.cluster.channels+cnts (cnts one) x.watched.cluster.counts+cnts one x.watched.cluster.sent+cnts one x.watched.cluster.got+cnts one x.watched.shot.taken+cnts Shard.cnt x.watched.shot.shards+cnts (cnts one) x.watched.shot.counts+cnts one x.watched.shot.recording+cnts (cnts Parcel.cnt) x.watched.shot.saved+cnts Shard.cnt x.good.grid.shards+1+1+1+cnts (cnts Parcel.cnt) x.good.channels+cnts (cnts one) x.good.counts+cnts one x.good.sent+cnts one x.good.got+1) x.crashes⟩
def Service.cntV (x:Service):Nat:=cnts Shard.cnt x.watched.cluster.grid.shards+cnts (cnts Parcel.cnt) x.watched.cluster.channels+cnts (cnts one) x.watched.cluster.counts+cnts one x.watched.cluster.sent+cnts one x.watched.cluster.got+cnts one x.watched.shot.taken+cnts Shard.cnt x.watched.shot.shards+cnts (cnts one) x.watched.shot.counts+cnts one x.watched.shot.recording+cnts (cnts Parcel.cnt) x.watched.shot.saved+cnts Shard.cnt x.good.grid.shards+cnts (cnts Parcel.cnt) x.good.channels+cnts (cnts one) x.good.counts+cnts one x.good.sent+cnts one x.good.got
def Service.mkV (k:Nat) (x:Service):Service:=⟨⟨⟨⟨mks Shard.mk1 Shard.cnt (k) x.watched.cluster.grid.shards,⟨x.watched.cluster.grid.root.machine,x.watched.cluster.grid.root.kind,x.watched.cluster.grid.root.index⟩⟩,mks (mks Parcel.mk1 Parcel.cnt) (cnts Parcel.cnt) (k+cnts Shard.cnt x.watched.cluster.grid.shards) x.watched.cluster.channels,mks (mks mkI one) (cnts one) (k+cnts Shard.cnt x.watched.cluster.grid.shards+cnts (cnts Parcel.cnt) x.watched.cluster.channels) x.watched.cluster.counts,mks mkI one (k+cnts Shard.cnt x.watched.cluster.grid.shards+cnts (cnts Parcel.cnt) x.watched.cluster.channels+cnts (cnts one) x.watched.cluster.counts) x.watched.cluster.sent,mks mkI one (k+cnts Shard.cnt x.watched.cluster.grid.shards+cnts (cnts Parcel.cnt) x.watched.cluster.channels+cnts (cnts one) x.watched.cluster.counts+cnts one x.watched.cluster.sent) x.watched.cluster.got⟩,⟨mks IB one (k+cnts Shard.cnt x.watched.cluster.grid.shards+cnts (cnts Parcel.cnt) x.watched.cluster.channels+cnts (cnts one) x.watched.cluster.counts+cnts one x.watched.cluster.sent+cnts one x.watched.cluster.got) x.watched.shot.taken,mks Shard.mk1 Shard.cnt (k+cnts Shard.cnt x.watched.cluster.grid.shards+cnts (cnts Parcel.cnt) x.watched.cluster.channels+cnts (cnts one) x.watched.cluster.counts+cnts one x.watched.cluster.sent+cnts one x.watched.cluster.got+cnts one x.watched.shot.taken) x.watched.shot.shards,mks (mks mkI one) (cnts one) (k+cnts Shard.cnt x.watched.cluster.grid.shards+cnts (cnts Parcel.cnt) x.watched.cluster.channels+cnts (cnts one) x.watched.cluster.counts+cnts one x.watched.cluster.sent+cnts one x.watched.cluster.got+cnts one x.watched.shot.taken+cnts Shard.cnt x.watched.shot.shards) x.watched.shot.counts,mks IB one (k+cnts Shard.cnt x.watched.cluster.grid.shards+cnts (cnts Parcel.cnt) x.watched.cluster.channels+cnts (cnts one) x.watched.cluster.counts+cnts one x.watched.cluster.sent+cnts one x.watched.cluster.got+cnts one x.watched.shot.taken+cnts Shard.cnt x.watched.shot.shards+cnts (cnts one) x.watched.shot.counts) x.watched.shot.recording,mks (mks Parcel.mk1 Parcel.cnt) (cnts Parcel.cnt) (k+cnts Shard.cnt x.watched.cluster.grid.shards+cnts (cnts Parcel.cnt) x.watched.cluster.channels+cnts (cnts one) x.watched.cluster.counts+cnts one x.watched.cluster.sent+cnts one x.watched.cluster.got+cnts one x.watched.shot.taken+cnts Shard.cnt x.watched.shot.shards+cnts (cnts one) x.watched.shot.counts+cnts one x.watched.shot.recording) x.watched.shot.saved⟩⟩,⟨⟨mks Shard.mk1 Shard.cnt (k+cnts Shard.cnt x.watched.cluster.grid.shards+cnts (cnts Parcel.cnt) x.watched.cluster.channels+cnts (cnts one) x.watched.cluster.counts+cnts one x.watched.cluster.sent+cnts one x.watched.cluster.got+cnts one x.watched.shot.taken+cnts Shard.cnt x.watched.shot.shards+cnts (cnts one) x.watched.shot.counts+cnts one x.watched.shot.recording+cnts (cnts Parcel.cnt) x.watched.shot.saved) x.good.grid.shards,⟨x.good.grid.root.machine,x.good.grid.root.kind,x.good.grid.root.index⟩⟩,mks (mks Parcel.mk1 Parcel.cnt) (cnts Parcel.cnt) (k+cnts Shard.cnt x.watched.cluster.grid.shards+cnts (cnts Parcel.cnt) x.watched.cluster.channels+cnts (cnts one) x.watched.cluster.counts+cnts one x.watched.cluster.sent+cnts one x.watched.cluster.got+cnts one x.watched.shot.taken+cnts Shard.cnt x.watched.shot.shards+cnts (cnts one) x.watched.shot.counts+cnts one x.watched.shot.recording+cnts (cnts Parcel.cnt) x.watched.shot.saved+cnts Shard.cnt x.good.grid.shards) x.good.channels,mks (mks mkI one) (cnts one) (k+cnts Shard.cnt x.watched.cluster.grid.shards+cnts (cnts Parcel.cnt) x.watched.cluster.channels+cnts (cnts one) x.watched.cluster.counts+cnts one x.watched.cluster.sent+cnts one x.watched.cluster.got+cnts one x.watched.shot.taken+cnts Shard.cnt x.watched.shot.shards+cnts (cnts one) x.watched.shot.counts+cnts one x.watched.shot.recording+cnts (cnts Parcel.cnt) x.watched.shot.saved+cnts Shard.cnt x.good.grid.shards+cnts (cnts Parcel.cnt) x.good.channels) x.good.counts,mks mkI one (k+cnts Shard.cnt x.watched.cluster.grid.shards+cnts (cnts Parcel.cnt) x.watched.cluster.channels+cnts (cnts one) x.watched.cluster.counts+cnts one x.watched.cluster.sent+cnts one x.watched.cluster.got+cnts one x.watched.shot.taken+cnts Shard.cnt x.watched.shot.shards+cnts (cnts one) x.watched.shot.counts+cnts one x.watched.shot.recording+cnts (cnts Parcel.cnt) x.watched.shot.saved+cnts Shard.cnt x.good.grid.shards+cnts (cnts Parcel.cnt) x.good.channels+cnts (cnts one) x.good.counts) x.good.sent,mks mkI one (k+cnts Shard.cnt x.watched.cluster.grid.shards+cnts (cnts Parcel.cnt) x.watched.cluster.channels+cnts (cnts one) x.watched.cluster.counts+cnts one x.watched.cluster.sent+cnts one x.watched.cluster.got+cnts one x.watched.shot.taken+cnts Shard.cnt x.watched.shot.shards+cnts (cnts one) x.watched.shot.counts+cnts one x.watched.shot.recording+cnts (cnts Parcel.cnt) x.watched.shot.saved+cnts Shard.cnt x.good.grid.shards+cnts (cnts Parcel.cnt) x.good.channels+cnts (cnts one) x.good.counts+cnts one x.good.sent) x.good.got⟩,x.shots,x.crashes⟩
theorem Service.cnt_le (x:Service):x.cnt≤10+10*x.sz:=by
 simp only [Service.cnt,Service.sz,Watched.sz,Cluster.sz,Grid.sz,Shot.sz]
 have:=AX (c:=Shard.cnt) (s:=Shard.sz) (b:=6) (l:=x.watched.cluster.grid.shards) (fun x=>Shard.cnt_le x)
 have:=AX (c:=(cnts Parcel.cnt)) (s:=(szl Parcel.sz)) (b:=10) (l:=x.watched.cluster.channels) (fun x=>by have:=AX (c:=Parcel.cnt) (s:=Parcel.sz) (b:=10) (l:=x) (fun x=>Parcel.cnt_le x); omega)
 have:=AX (c:=(cnts one)) (s:=List.length) (b:=1) (l:=x.watched.cluster.counts) (fun x=>by have:=AO (c:=one) (b:=1) (l:=x) (fun x=>Am); omega)
 have:=AO (c:=one) (b:=1) (l:=x.watched.cluster.sent) (fun x=>Am)
 have:=AO (c:=one) (b:=1) (l:=x.watched.cluster.got) (fun x=>Am)
 have:=AO (c:=one) (b:=1) (l:=x.watched.shot.taken) (fun x=>Am)
 have:=AX (c:=Shard.cnt) (s:=Shard.sz) (b:=6) (l:=x.watched.shot.shards) (fun x=>Shard.cnt_le x)
 have:=AX (c:=(cnts one)) (s:=List.length) (b:=1) (l:=x.watched.shot.counts) (fun x=>by have:=AO (c:=one) (b:=1) (l:=x) (fun x=>Am); omega)
 have:=AO (c:=one) (b:=1) (l:=x.watched.shot.recording) (fun x=>Am)
 have:=AX (c:=(cnts Parcel.cnt)) (s:=(szl Parcel.sz)) (b:=10) (l:=x.watched.shot.saved) (fun x=>by have:=AX (c:=Parcel.cnt) (s:=Parcel.sz) (b:=10) (l:=x) (fun x=>Parcel.cnt_le x); omega)
 have:=AX (c:=Shard.cnt) (s:=Shard.sz) (b:=6) (l:=x.good.grid.shards) (fun x=>Shard.cnt_le x)
 have:=AX (c:=(cnts Parcel.cnt)) (s:=(szl Parcel.sz)) (b:=10) (l:=x.good.channels) (fun x=>by have:=AX (c:=Parcel.cnt) (s:=Parcel.sz) (b:=10) (l:=x) (fun x=>Parcel.cnt_le x); omega)
 have:=AX (c:=(cnts one)) (s:=List.length) (b:=1) (l:=x.good.counts) (fun x=>by have:=AO (c:=one) (b:=1) (l:=x) (fun x=>Am); omega)
 have:=AO (c:=one) (b:=1) (l:=x.good.sent) (fun x=>Am)
 have:=AO (c:=one) (b:=1) (l:=x.good.got) (fun x=>Am)
 omega
theorem Service.cntV_le (x:Service):x.cntV≤10+10*x.sz:=by
 simp only [Service.cntV,Service.sz,Watched.sz,Cluster.sz,Grid.sz,Shot.sz]
 have:=AX (c:=Shard.cnt) (s:=Shard.sz) (b:=6) (l:=x.watched.cluster.grid.shards) (fun x=>Shard.cnt_le x)
 have:=AX (c:=(cnts Parcel.cnt)) (s:=(szl Parcel.sz)) (b:=10) (l:=x.watched.cluster.channels) (fun x=>by have:=AX (c:=Parcel.cnt) (s:=Parcel.sz) (b:=10) (l:=x) (fun x=>Parcel.cnt_le x); omega)
 have:=AX (c:=(cnts one)) (s:=List.length) (b:=1) (l:=x.watched.cluster.counts) (fun x=>by have:=AO (c:=one) (b:=1) (l:=x) (fun x=>Am); omega)
 have:=AO (c:=one) (b:=1) (l:=x.watched.cluster.sent) (fun x=>Am)
 have:=AO (c:=one) (b:=1) (l:=x.watched.cluster.got) (fun x=>Am)
 have:=AO (c:=one) (b:=1) (l:=x.watched.shot.taken) (fun x=>Am)
 have:=AX (c:=Shard.cnt) (s:=Shard.sz) (b:=6) (l:=x.watched.shot.shards) (fun x=>Shard.cnt_le x)
 have:=AX (c:=(cnts one)) (s:=List.length) (b:=1) (l:=x.watched.shot.counts) (fun x=>by have:=AO (c:=one) (b:=1) (l:=x) (fun x=>Am); omega)
 have:=AO (c:=one) (b:=1) (l:=x.watched.shot.recording) (fun x=>Am)
 have:=AX (c:=(cnts Parcel.cnt)) (s:=(szl Parcel.sz)) (b:=10) (l:=x.watched.shot.saved) (fun x=>by have:=AX (c:=Parcel.cnt) (s:=Parcel.sz) (b:=10) (l:=x) (fun x=>Parcel.cnt_le x); omega)
 have:=AX (c:=Shard.cnt) (s:=Shard.sz) (b:=6) (l:=x.good.grid.shards) (fun x=>Shard.cnt_le x)
 have:=AX (c:=(cnts Parcel.cnt)) (s:=(szl Parcel.sz)) (b:=10) (l:=x.good.channels) (fun x=>by have:=AX (c:=Parcel.cnt) (s:=Parcel.sz) (b:=10) (l:=x) (fun x=>Parcel.cnt_le x); omega)
 have:=AX (c:=(cnts one)) (s:=List.length) (b:=1) (l:=x.good.counts) (fun x=>by have:=AO (c:=one) (b:=1) (l:=x) (fun x=>Am); omega)
 have:=AO (c:=one) (b:=1) (l:=x.good.sent) (fun x=>Am)
 have:=AO (c:=one) (b:=1) (l:=x.good.got) (fun x=>Am)
 omega
theorem P7 (x:Service) (k:Nat) (h:x.sz≤Big) (hk:k+x.cntV≤KB):Eg x (k:Int)=some (((k+x.cntV:Nat):Int),mks Shard.mk1 Shard.cnt (k) x.watched.cluster.grid.shards,mks (mks Parcel.mk1 Parcel.cnt) (cnts Parcel.cnt) (k+cnts Shard.cnt x.watched.cluster.grid.shards) x.watched.cluster.channels,mks (mks mkI one) (cnts one) (k+cnts Shard.cnt x.watched.cluster.grid.shards+cnts (cnts Parcel.cnt) x.watched.cluster.channels) x.watched.cluster.counts,mks mkI one (k+cnts Shard.cnt x.watched.cluster.grid.shards+cnts (cnts Parcel.cnt) x.watched.cluster.channels+cnts (cnts one) x.watched.cluster.counts) x.watched.cluster.sent,mks mkI one (k+cnts Shard.cnt x.watched.cluster.grid.shards+cnts (cnts Parcel.cnt) x.watched.cluster.channels+cnts (cnts one) x.watched.cluster.counts+cnts one x.watched.cluster.sent) x.watched.cluster.got,mks IB one (k+cnts Shard.cnt x.watched.cluster.grid.shards+cnts (cnts Parcel.cnt) x.watched.cluster.channels+cnts (cnts one) x.watched.cluster.counts+cnts one x.watched.cluster.sent+cnts one x.watched.cluster.got) x.watched.shot.taken,mks Shard.mk1 Shard.cnt (k+cnts Shard.cnt x.watched.cluster.grid.shards+cnts (cnts Parcel.cnt) x.watched.cluster.channels+cnts (cnts one) x.watched.cluster.counts+cnts one x.watched.cluster.sent+cnts one x.watched.cluster.got+cnts one x.watched.shot.taken) x.watched.shot.shards,mks (mks mkI one) (cnts one) (k+cnts Shard.cnt x.watched.cluster.grid.shards+cnts (cnts Parcel.cnt) x.watched.cluster.channels+cnts (cnts one) x.watched.cluster.counts+cnts one x.watched.cluster.sent+cnts one x.watched.cluster.got+cnts one x.watched.shot.taken+cnts Shard.cnt x.watched.shot.shards) x.watched.shot.counts,mks IB one (k+cnts Shard.cnt x.watched.cluster.grid.shards+cnts (cnts Parcel.cnt) x.watched.cluster.channels+cnts (cnts one) x.watched.cluster.counts+cnts one x.watched.cluster.sent+cnts one x.watched.cluster.got+cnts one x.watched.shot.taken+cnts Shard.cnt x.watched.shot.shards+cnts (cnts one) x.watched.shot.counts) x.watched.shot.recording,mks (mks Parcel.mk1 Parcel.cnt) (cnts Parcel.cnt) (k+cnts Shard.cnt x.watched.cluster.grid.shards+cnts (cnts Parcel.cnt) x.watched.cluster.channels+cnts (cnts one) x.watched.cluster.counts+cnts one x.watched.cluster.sent+cnts one x.watched.cluster.got+cnts one x.watched.shot.taken+cnts Shard.cnt x.watched.shot.shards+cnts (cnts one) x.watched.shot.counts+cnts one x.watched.shot.recording) x.watched.shot.saved,mks Shard.mk1 Shard.cnt (k+cnts Shard.cnt x.watched.cluster.grid.shards+cnts (cnts Parcel.cnt) x.watched.cluster.channels+cnts (cnts one) x.watched.cluster.counts+cnts one x.watched.cluster.sent+cnts one x.watched.cluster.got+cnts one x.watched.shot.taken+cnts Shard.cnt x.watched.shot.shards+cnts (cnts one) x.watched.shot.counts+cnts one x.watched.shot.recording+cnts (cnts Parcel.cnt) x.watched.shot.saved) x.good.grid.shards,mks (mks Parcel.mk1 Parcel.cnt) (cnts Parcel.cnt) (k+cnts Shard.cnt x.watched.cluster.grid.shards+cnts (cnts Parcel.cnt) x.watched.cluster.channels+cnts (cnts one) x.watched.cluster.counts+cnts one x.watched.cluster.sent+cnts one x.watched.cluster.got+cnts one x.watched.shot.taken+cnts Shard.cnt x.watched.shot.shards+cnts (cnts one) x.watched.shot.counts+cnts one x.watched.shot.recording+cnts (cnts Parcel.cnt) x.watched.shot.saved+cnts Shard.cnt x.good.grid.shards) x.good.channels,mks (mks mkI one) (cnts one) (k+cnts Shard.cnt x.watched.cluster.grid.shards+cnts (cnts Parcel.cnt) x.watched.cluster.channels+cnts (cnts one) x.watched.cluster.counts+cnts one x.watched.cluster.sent+cnts one x.watched.cluster.got+cnts one x.watched.shot.taken+cnts Shard.cnt x.watched.shot.shards+cnts (cnts one) x.watched.shot.counts+cnts one x.watched.shot.recording+cnts (cnts Parcel.cnt) x.watched.shot.saved+cnts Shard.cnt x.good.grid.shards+cnts (cnts Parcel.cnt) x.good.channels) x.good.counts,mks mkI one (k+cnts Shard.cnt x.watched.cluster.grid.shards+cnts (cnts Parcel.cnt) x.watched.cluster.channels+cnts (cnts one) x.watched.cluster.counts+cnts one x.watched.cluster.sent+cnts one x.watched.cluster.got+cnts one x.watched.shot.taken+cnts Shard.cnt x.watched.shot.shards+cnts (cnts one) x.watched.shot.counts+cnts one x.watched.shot.recording+cnts (cnts Parcel.cnt) x.watched.shot.saved+cnts Shard.cnt x.good.grid.shards+cnts (cnts Parcel.cnt) x.good.channels+cnts (cnts one) x.good.counts) x.good.sent,mks mkI one (k+cnts Shard.cnt x.watched.cluster.grid.shards+cnts (cnts Parcel.cnt) x.watched.cluster.channels+cnts (cnts one) x.watched.cluster.counts+cnts one x.watched.cluster.sent+cnts one x.watched.cluster.got+cnts one x.watched.shot.taken+cnts Shard.cnt x.watched.shot.shards+cnts (cnts one) x.watched.shot.counts+cnts one x.watched.shot.recording+cnts (cnts Parcel.cnt) x.watched.shot.saved+cnts Shard.cnt x.good.grid.shards+cnts (cnts Parcel.cnt) x.good.channels+cnts (cnts one) x.good.counts+cnts one x.good.sent) x.good.got):=by
 have e:k+x.cntV=k+cnts Shard.cnt x.watched.cluster.grid.shards+cnts (cnts Parcel.cnt) x.watched.cluster.channels+cnts (cnts one) x.watched.cluster.counts+cnts one x.watched.cluster.sent+cnts one x.watched.cluster.got+cnts one x.watched.shot.taken+cnts Shard.cnt x.watched.shot.shards+cnts (cnts one) x.watched.shot.counts+cnts one x.watched.shot.recording+cnts (cnts Parcel.cnt) x.watched.shot.saved+cnts Shard.cnt x.good.grid.shards+cnts (cnts Parcel.cnt) x.good.channels+cnts (cnts one) x.good.counts+cnts one x.good.sent+cnts one x.good.got:=by unfold Service.cntV; omega
 rw [e] at hk ⊢
 simp only [Service.sz,Watched.sz,Cluster.sz,Grid.sz,Shot.sz] at h
 unfold Eg
 try unfold Ge
 try unfold FS
 try unfold JX
 try unfold JY
 simp (maxSteps:=2000000) (disch:=omega) only [AA,wk,A2,Az,Av,BF,BA,DE,DQ,Db,E1,HH]
theorem Br (l:List Address) (k:Nat) (h:l.length≤Big) (hk:k+cnts Address.cnt l≤KB):EA (mks Address.mk1 Address.cnt k l) (k:Int)=some ((k+cnts Address.cnt l:Nat):Int):=by
 unfold EA
 refine LU (fun n l k i=>Be n l k i) Address.mk1 Address.cnt (fun _=>True) ?_ ?_ l k (fun _ _=>trivial) h hk
 ·intro n pre post x k hx hk hp
  have e:k+Address.cnt x=k+1+1+1:=by unfold Address.cnt; omega
  rw [e] at hk ⊢
  rw [Be,if_pos DW]
  simp (maxSteps:=2000000) (disch:=omega) only [Address.mk1,mkI,DV,AA,wk,BX,Ob,H4,eq_self,decide_true,Bool.not_true,Bool.false_eq_true,reduceIte,B7]
 ·intro n l k; rw [Be,if_neg (by rw [DX]; decide)]
theorem Bg (l:List ShardCell) (k:Nat) (h:szl ShardCell.sz l≤Big) (hk:k+cnts ShardCell.cnt l≤KB):EB (mks ShardCell.mk1 ShardCell.cnt k l) (k:Int)=some ((k+cnts ShardCell.cnt l:Nat):Int):=by
 unfold EB
 refine LU (fun n l k i=>BI n l k i) ShardCell.mk1 ShardCell.cnt (fun x=>x.sz≤Big) ?_ ?_ l k (fun x hx=>by have:=A9 (s:=ShardCell.sz) hx; omega) (by have:=Aw ShardCell.sz l; omega) hk
 ·intro n pre post x k hx hk hp
  have e:k+ShardCell.cnt x=k+1+1+1+cnts one x.data+cnts Address.cnt x.aux:=by unfold ShardCell.cnt; omega
  rw [e] at hk ⊢
  simp only [ShardCell.sz] at hx
  rw [BI,if_pos DW]
  simp (maxSteps:=2000000) (disch:=omega) only [ShardCell.mk1,mkI,DV,AA,wk,BX,Ob,H4,eq_self,decide_true,Bool.not_true,Bool.false_eq_true,reduceIte,B7,Br]
 ·intro n l k; rw [BI,if_neg (by rw [DX]; decide)]
theorem CZ (l:List ShardVar) (k:Nat) (h:l.length≤Big) (hk:k+cnts ShardVar.cnt l≤KB):Eb (mks ShardVar.mk1 ShardVar.cnt k l) (k:Int)=some ((k+cnts ShardVar.cnt l:Nat):Int):=by
 unfold Eb
 refine LU (fun n l k i=>BR n l k i) ShardVar.mk1 ShardVar.cnt (fun _=>True) ?_ ?_ l k (fun _ _=>trivial) h hk
 ·intro n pre post x k hx hk hp
  have e:k+ShardVar.cnt x=k+1+1+1+1+1:=by unfold ShardVar.cnt; omega
  rw [e] at hk ⊢
  rw [BR,if_pos DW]
  simp (maxSteps:=2000000) (disch:=omega) only [ShardVar.mk1,mkI,DV,AA,wk,BX,Ob,H4,eq_self,decide_true,Bool.not_true,Bool.false_eq_true,reduceIte,B7,Br,Bg]
 ·intro n l k; rw [BR,if_neg (by rw [DX]; decide)]
theorem Ca (l:List ShardRedex) (k:Nat) (h:l.length≤Big) (hk:k+cnts ShardRedex.cnt l≤KB):Di (mks ShardRedex.mk1 ShardRedex.cnt k l) (k:Int)=some ((k+cnts ShardRedex.cnt l:Nat):Int):=by
 unfold Di
 refine LU (fun n l k i=>A6 n l k i) ShardRedex.mk1 ShardRedex.cnt (fun _=>True) ?_ ?_ l k (fun _ _=>trivial) h hk
 ·intro n pre post x k hx hk hp
  have e:k+ShardRedex.cnt x=k+1+1+1+1+1+1:=by unfold ShardRedex.cnt; omega
  rw [e] at hk ⊢
  rw [A6,if_pos DW]
  simp (maxSteps:=2000000) (disch:=omega) only [ShardRedex.mk1,mkI,DV,AA,wk,BX,Ob,H4,eq_self,decide_true,Bool.not_true,Bool.false_eq_true,reduceIte,B7,Br,Bg,CZ]
 ·intro n l k; rw [A6,if_neg (by rw [DX]; decide)]
theorem FV (l:List Shard) (k:Nat) (h:szl Shard.sz l≤Big) (hk:k+cnts Shard.cnt l≤KB):FF (mks Shard.mk1 Shard.cnt k l) (k:Int)=some ((k+cnts Shard.cnt l:Nat):Int):=by
 unfold FF
 refine LU (fun n l k i=>CR n l k i) Shard.mk1 Shard.cnt (fun x=>x.sz≤Big) ?_ ?_ l k (fun x hx=>by have:=A9 (s:=Shard.sz) hx; omega) (by have:=Aw Shard.sz l; omega) hk
 ·intro n pre post x k hx hk hp
  have e:k+Shard.cnt x=k+cnts ShardCell.cnt x.cells+cnts ShardVar.cnt x.vars+cnts ShardRedex.cnt x.redexes:=by unfold Shard.cnt; omega
  rw [e] at hk ⊢
  simp only [Shard.sz] at hx
  rw [CR,if_pos DW]
  simp (maxSteps:=2000000) (disch:=omega) only [Shard.mk1,mkI,DV,AA,wk,BX,Ob,H4,eq_self,decide_true,Bool.not_true,Bool.false_eq_true,reduceIte,B7,Br,Bg,CZ,Ca]
 ·intro n l k; rw [CR,if_neg (by rw [DX]; decide)]
theorem GC (l:List Parcel) (k:Nat) (h:szl Parcel.sz l≤Big) (hk:k+cnts Parcel.cnt l≤KB):FT (mks Parcel.mk1 Parcel.cnt k l) (k:Int)=some ((k+cnts Parcel.cnt l:Nat):Int):=by
 unfold FT
 refine LU (fun n l k i=>B0 n l k i) Parcel.mk1 Parcel.cnt (fun x=>x.sz≤Big) ?_ ?_ l k (fun x hx=>by have:=A9 (s:=Parcel.sz) hx; omega) (by have:=Aw Parcel.sz l; omega) hk
 ·intro n pre post x k hx hk hp
  have e:k+Parcel.cnt x=k+1+1+1+1+cnts one x.cell.data+cnts Address.cnt x.cell.aux+1+1+1+1+1+1:=by unfold Parcel.cnt; omega
  rw [e] at hk ⊢
  simp only [Parcel.sz,ShardCell.sz] at hx
  rw [B0,if_pos DW]
  simp (maxSteps:=2000000) (disch:=omega) only [Parcel.mk1,mkI,DV,AA,wk,BX,Ob,H4,eq_self,decide_true,Bool.not_true,Bool.false_eq_true,reduceIte,B7,Br,Bg,CZ,Ca,FV]
 ·intro n l k; rw [B0,if_neg (by rw [DX]; decide)]
theorem G3 (l:List (List Parcel)) (k:Nat) (h:szl (szl Parcel.sz) l≤Big) (hk:k+cnts (cnts Parcel.cnt) l≤KB):EC (mks (mks Parcel.mk1 Parcel.cnt) (cnts Parcel.cnt) k l) (k:Int)=some ((k+cnts (cnts Parcel.cnt) l:Nat):Int):=by
 unfold EC
 refine LU (fun n l k i=>Bf n l k i) (mks Parcel.mk1 Parcel.cnt) (cnts Parcel.cnt) (fun x=>(szl Parcel.sz) x≤Big) ?_ ?_ l k (fun x hx=>by have:=A9 (s:=(szl Parcel.sz)) hx; omega) (by have:=Aw (szl Parcel.sz) l; omega) hk
 ·intro n pre post x k hx hk hp
  have e:k+(cnts Parcel.cnt) x=k+(cnts Parcel.cnt) x:=by rfl
  rw [e] at hk ⊢
  rw [Bf,if_pos DW]
  simp (maxSteps:=2000000) (disch:=omega) only [mkI,DV,AA,wk,BX,Ob,H4,eq_self,decide_true,Bool.not_true,Bool.false_eq_true,reduceIte,B7,Br,Bg,CZ,Ca,FV,GC]
 ·intro n l k; rw [Bf,if_neg (by rw [DX]; decide)]
theorem KZ (l:List (List Int)) (k:Nat) (h:szl List.length l≤Big) (hk:k+cnts (cnts one) l≤KB):Ei (mks (mks mkI one) (cnts one) k l) (k:Int)=some ((k+cnts (cnts one) l:Nat):Int):=by
 unfold Ei
 refine LU (fun n l k i=>B1 n l k i) (mks mkI one) (cnts one) (fun x=>List.length x≤Big) ?_ ?_ l k (fun x hx=>by have:=A9 (s:=List.length) hx; omega) (by have:=Aw List.length l; omega) hk
 ·intro n pre post x k hx hk hp
  have e:k+(cnts one) x=k+(cnts one) x:=by rfl
  rw [e] at hk ⊢
  rw [B1,if_pos DW]
  simp (maxSteps:=2000000) (disch:=omega) only [mkI,DV,AA,wk,BX,Ob,H4,eq_self,decide_true,Bool.not_true,Bool.false_eq_true,reduceIte,B7,Br,Bg,CZ,Ca,FV,GC,G3]
 ·intro n l k; rw [B1,if_neg (by rw [DX]; decide)]
theorem SJ (l:List Bool) (k:Nat) (h:l.length≤Big) (hk:k+cnts one l≤KB):Fw (mks IB one k l) (k:Int)=some ((k+cnts one l:Nat):Int):=by
 unfold Fw
 refine LU (fun n l k i=>Co n l k i) IB one (fun _=>True) ?_ ?_ l k (fun _ _=>trivial) h hk
 ·intro n pre post x k hx hk hp
  have e:k+one x=k+1:=by rfl
  rw [e] at hk ⊢
  rw [Co,if_pos DW]
  simp (maxSteps:=2000000) (disch:=omega) only [mkI,DV,AA,wk,BX,Ob,H4,eq_self,decide_true,Bool.not_true,Bool.false_eq_true,reduceIte,B7,Br,Bg,CZ,Ca,FV,GC,G3,KZ]
 ·intro n l k; rw [Co,if_neg (by rw [DX]; decide)]
theorem P8 (x:Service) (k:Nat) (h:x.sz≤Big) (hk:k+x.cntV≤KB):Do (Service.mkV k x) (k:Int)=some ((k+x.cntV:Nat):Int):=by
 have e:k+x.cntV=k+cnts Shard.cnt x.watched.cluster.grid.shards+cnts (cnts Parcel.cnt) x.watched.cluster.channels+cnts (cnts one) x.watched.cluster.counts+cnts one x.watched.cluster.sent+cnts one x.watched.cluster.got+cnts one x.watched.shot.taken+cnts Shard.cnt x.watched.shot.shards+cnts (cnts one) x.watched.shot.counts+cnts one x.watched.shot.recording+cnts (cnts Parcel.cnt) x.watched.shot.saved+cnts Shard.cnt x.good.grid.shards+cnts (cnts Parcel.cnt) x.good.channels+cnts (cnts one) x.good.counts+cnts one x.good.sent+cnts one x.good.got:=by unfold Service.cntV; omega
 rw [e] at hk ⊢
 simp only [Service.sz,Watched.sz,Cluster.sz,Grid.sz,Shot.sz] at h
 unfold Do
 try unfold Gf
 try unfold FU
 try unfold JZ
 try unfold Ja
 simp (maxSteps:=2000000) (disch:=omega) only [Service.mkV,AA,wk,Ob,H4,eq_self,decide_true,Bool.not_true,Bool.false_eq_true,reduceIte,B7,Br,Bg,CZ,Ca,FV,GC,G3,KZ,SJ]
end Go.Proofs.YtclmbjbbojdojaaGreat.Ab
namespace Go.Proofs.YtclmbjbbojdojaaGreat.Ab
set_option linter.unusedVariables false
set_option linter.unusedSimpArgs false
open Go.RowKit
structure Port.Ok (x:Port):Prop where
 agent:(Lit.int IntKind.i64 x.agent).wf =true
 slot:(Lit.int IntKind.i64 x.slot).wf =true
theorem Port.ok_of (x:Port) (h:Bw (Port.ds x)):x.Ok:=by
 rw [Port.ds_eq] at h
 simp only [Bw,D.ok,List.length_map] at h
 obtain⟨h1,h2,-⟩:=h
 exact⟨h1,h2⟩
theorem Port.eq_iff (x y:Port):x=y↔x.agent=y.agent∧x.slot=y.slot:=by
 cases x; cases y; simp only [Port.mk.injEq]
theorem U8 (l:List Port) (hl:l.length≤9223372036854775807) (h:∀x ∈ l,x.Ok) (left:Nat) (h1:left≤1048576):Is l left=some (szr l.length left):=by
 unfold Is
 exact V2 h1 hl fun _=>U9
theorem XH (x:Port):It x=some x:=by
 unfold It
 rfl
theorem VA (l:List Port) (hl:l.length≤Big):Iu l=some l:=by
 unfold Iu
 exact gTo (fun n acc i=>ES n l acc i) It _ l (fun n acc i=>by rw [ES]) hl (fun x hx=>XH x)
theorem SK (x y:Port):Ar (Iv x y) (x=y):=by
 unfold Iv
 exact Ar.iff (Bh EV fun _=>Bh EV fun _=>CG) (by rw [Port.eq_iff]; simp only [and_true])
theorem Qc (l m:List Port) (hl:l.length≤Big):Ar (Iw l m) (l=m):=by
 unfold Iw
 exact Oc (fun n i=>ET n l m i) Iv l m (fun n i=>by rw [ET]) hl fun x hx y _=>SK x y
structure Agent.Ok (x:Agent):Prop where
 kind:(Lit.int IntKind.i64 x.kind).wf =true
 level:(Lit.int IntKind.i64 x.level).wf =true
 value:(Lit.int IntKind.i64 x.value).wf =true
 data:(x.data.length≤9223372036854775807∧∀e ∈ x.data,(Lit.int IntKind.i64 e).wf =true)
 ports:(x.ports.length≤9223372036854775807∧∀e ∈ x.ports,Port.Ok e)
theorem Agent.ok_of (x:Agent) (h:Bw (Agent.ds x)):x.Ok:=by
 rw [Agent.ds_eq] at h
 simp only [Bw,D.ok,List.length_map] at h
 obtain⟨h1,h2,h3,h4,h5,-⟩:=h
 exact⟨h1,h2,h3,⟨h4.1,fun e he=>by have:=(Bi h4.2 he); simpa only [AJ,Bw,D.ok,and_true] using this⟩,⟨h5.1,fun e he=>Port.ok_of e (Bi h5.2 he)⟩⟩
theorem Agent.eq_iff (x y:Agent):x=y↔x.kind=y.kind∧x.level=y.level∧x.value=y.value∧x.data=y.data∧x.ports=y.ports:=by
 cases x; cases y; simp only [Agent.mk.injEq]
def Agent.sz (x:Agent):Nat:=x.data.length+(x.ports.length+0)
theorem VB (x:Agent) (h:x.Ok) (left:Nat) (h1:left≤1048576):HV x left=some (szr x.sz left):=by
 unfold HV Agent.sz
 exact O5 (Tx _ _ (by omega) h.data.1) fun _=>O5 (U8 _ h.ports.1 h.ports.2 _ (by omega)) fun _=>U9
theorem Ty (l:List Agent) (hl:l.length≤9223372036854775807) (h:∀x ∈ l,x.Ok) (left:Nat) (h1:left≤1048576):H1 l left=some (szr (szl Agent.sz l) left):=by
 unfold H1
 exact gSz (fun n p i=>Dq n l p i) HV Agent.sz l (fun n p i=>by rw [Dq]) left h1 (fun x hx k hk=>VB x (h x hx) k hk) hl
theorem VC (x:Agent) (h:x.sz≤Big):HW x=some x:=by
 unfold HW
 rw [OU _ (by have:=h; simp only [Agent.sz] at this; omega),AA]
 rw [VA _ (by have:=h; simp only [Agent.sz] at this; omega),AA]
 first|done|rfl
theorem Tz (l:List Agent) (hl:szl Agent.sz l≤Big):H2 l=some l:=by
 unfold H2
 exact gTo (fun n acc i=>Dr n l acc i) HW _ l (fun n acc i=>by rw [Dr]) (by have:=Aw Agent.sz l; omega) (fun x hx=>VC x (by have:=A9 (s:=Agent.sz) hx; omega))
theorem Qd (x y:Agent) (h:x.sz≤Big):Ar (HX x y) (x=y):=by
 unfold HX
 exact Ar.iff (Bh EV fun _=>Bh EV fun _=>Bh EV fun _=>AR (ED _ _ (by have:=h; simp only [Agent.sz] at this; omega)) fun _=>AR (Qc _ _ (by have:=h; simp only [Agent.sz] at this; omega)) fun _=>CG) (by rw [Agent.eq_iff]; simp only [and_true])
theorem P9 (l m:List Agent) (hl:szl Agent.sz l≤Big):Ar (H3 l m) (l=m):=by
 unfold H3
 exact Oc (fun n i=>Ds n l m i) HX l m (fun n i=>by rw [Ds]) (by have:=Aw Agent.sz l; omega) fun x hx y _=>Qd x y (by have:=A9 (s:=Agent.sz) hx; omega)
structure Net.Ok (x:Net):Prop where
 agents:(x.agents.length≤9223372036854775807∧∀e ∈ x.agents,Agent.Ok e)
theorem Net.ok_of (x:Net) (h:Bw (Net.ds x)):x.Ok:=by
 rw [Net.ds_eq] at h
 simp only [Bw,D.ok,List.length_map] at h
 obtain⟨h1,-⟩:=h
 exact⟨⟨h1.1,fun e he=>Agent.ok_of e (Bi h1.2 he)⟩⟩
theorem Net.eq_iff (x y:Net):x=y↔x.agents=y.agents:=by
 cases x; cases y; simp only [Net.mk.injEq]
def Net.sz (x:Net):Nat:=szl Agent.sz x.agents+0
theorem Yu (x:Net) (h:x.Ok) (left:Nat) (h1:left≤1048576):M1 x left=some (szr x.sz left):=by
 unfold M1 Net.sz
 exact O5 (Ty _ h.agents.1 h.agents.2 _ (by omega)) fun _=>U9
theorem Yv (x:Net) (h:x.sz≤Big):HD x=some x:=by
 unfold HD
 rw [Tz _ (by have:=h; simp only [Net.sz] at this; omega),AA]
 first|done|rfl
theorem T0 (x y:Net) (h:x.sz≤Big):Ar (K5 x y) (x=y):=by
 unfold K5
 exact Ar.iff (AR (P9 _ _ (by have:=h; simp only [Net.sz] at this; omega)) fun _=>CG) (by rw [Net.eq_iff]; simp only [and_true])
end Go.Proofs.YtclmbjbbojdojaaGreat.Ab
namespace Go.Proofs.YtclmbjbbojdojaaGreat.Ab
set_option linter.unusedVariables false
set_option linter.unusedSimpArgs false
open Go.RowKit
def Port.cnt (x:Port):Nat:=1+1
def Port.mk1 (k:Nat) (x:Port):Port:=⟨mkI (k) x.agent,mkI (k+1) x.slot⟩
def Port.cntV (x:Port):Nat:=0
def Port.mkV (k:Nat) (x:Port):Port:=⟨x.agent,x.slot⟩
theorem Port.cnt_le (x:Port):x.cnt≤2:=by unfold Port.cnt; omega
theorem M4 (l:List Port) (k:Nat) (h:l.length≤Big) (hk:k+cnts Port.cnt l≤KB):Gm l (k:Int)=some (((k+cnts Port.cnt l:Nat):Int),mks Port.mk1 Port.cnt k l):=by
 unfold Gm
 refine Jl (fun n l k i=>Ch n l k i) Port.mk1 Port.cnt (fun _=>True) ?_ ?_ l k (fun _ _=>trivial) h hk
 ·intro n pre post x k hx hk hp
  have e:k+Port.cnt x=k+1+1:=by unfold Port.cnt; omega
  rw [e] at hk ⊢
  rw [Ch,if_pos DW]
  simp (maxSteps:=2000000) (disch:=omega) only [DV,Fb,AA,wk,BX,A2,Az,Av,BF,BA,DE,DQ,Db,E1,HH]
  rfl
 ·intro n l k; rw [Ch,if_neg (by rw [DX]; decide)]
def Agent.cnt (x:Agent):Nat:=1+1+1+cnts one x.data+cnts Port.cnt x.ports
def Agent.mk1 (k:Nat) (x:Agent):Agent:=⟨mkI (k) x.kind,mkI (k+1) x.level,mkI (k+1+1) x.value,mks mkI one (k+1+1+1) x.data,mks Port.mk1 Port.cnt (k+1+1+1+cnts one x.data) x.ports⟩
def Agent.cntV (x:Agent):Nat:=cnts one x.data+cnts Port.cnt x.ports
def Agent.mkV (k:Nat) (x:Agent):Agent:=⟨x.kind,x.level,x.value,mks mkI one (k) x.data,mks Port.mk1 Port.cnt (k+cnts one x.data) x.ports⟩
theorem Agent.cnt_le (x:Agent):x.cnt≤3+3*x.sz:=by
 simp only [Agent.cnt,Agent.sz]
 have:=AO (c:=one) (b:=1) (l:=x.data) (fun x=>Am)
 have:=AO (c:=Port.cnt) (b:=2) (l:=x.ports) (fun x=>Port.cnt_le x)
 omega
theorem Agent.cntV_le (x:Agent):x.cntV≤3+3*x.sz:=by
 simp only [Agent.cntV,Agent.sz]
 have:=AO (c:=one) (b:=1) (l:=x.data) (fun x=>Am)
 have:=AO (c:=Port.cnt) (b:=2) (l:=x.ports) (fun x=>Port.cnt_le x)
 omega
theorem Qe (l:List Agent) (k:Nat) (h:szl Agent.sz l≤Big) (hk:k+cnts Agent.cnt l≤KB):F8 l (k:Int)=some (((k+cnts Agent.cnt l:Nat):Int),mks Agent.mk1 Agent.cnt k l):=by
 unfold F8
 refine Jl (fun n l k i=>CL n l k i) Agent.mk1 Agent.cnt (fun x=>x.sz≤Big) ?_ ?_ l k (fun x hx=>by have:=A9 (s:=Agent.sz) hx; omega) (by have:=Aw Agent.sz l; omega) hk
 ·intro n pre post x k hx hk hp
  have e:k+Agent.cnt x=k+1+1+1+cnts one x.data+cnts Port.cnt x.ports:=by unfold Agent.cnt; omega
  rw [e] at hk ⊢
  simp only [Agent.sz] at hx
  rw [CL,if_pos DW]
  simp (maxSteps:=2000000) (disch:=omega) only [DV,Fb,AA,wk,BX,A2,Az,Av,BF,BA,DE,DQ,Db,E1,HH,M4]
  rfl
 ·intro n l k; rw [CL,if_neg (by rw [DX]; decide)]
def Net.cnt (x:Net):Nat:=cnts Agent.cnt x.agents
def Net.mk1 (k:Nat) (x:Net):Net:=⟨mks Agent.mk1 Agent.cnt (k) x.agents⟩
def Net.cntV (x:Net):Nat:=cnts Agent.cnt x.agents
def Net.mkV (k:Nat) (x:Net):Net:=⟨mks Agent.mk1 Agent.cnt (k) x.agents⟩
theorem Net.cnt_le (x:Net):x.cnt≤3+3*x.sz:=by
 simp only [Net.cnt,Net.sz]
 have:=AX (c:=Agent.cnt) (s:=Agent.sz) (b:=3) (l:=x.agents) (fun x=>Agent.cnt_le x)
 omega
theorem Net.cntV_le (x:Net):x.cntV≤3+3*x.sz:=by
 simp only [Net.cntV,Net.sz]
 have:=AX (c:=Agent.cnt) (s:=Agent.sz) (b:=3) (l:=x.agents) (fun x=>Agent.cnt_le x)
 omega
theorem VD (x:Net) (k:Nat) (h:x.sz≤Big) (hk:k+x.cntV≤KB):HR x (k:Int)=some (((k+x.cntV:Nat):Int),mks Agent.mk1 Agent.cnt (k) x.agents):=by
 have e:k+x.cntV=k+cnts Agent.cnt x.agents:=by unfold Net.cntV; omega
 rw [e] at hk ⊢
 simp only [Net.sz] at h
 unfold HR
 simp (maxSteps:=2000000) (disch:=omega) only [AA,wk,A2,Az,Av,BF,BA,DE,DQ,Db,E1,HH,M4,Qe]
end Go.Proofs.YtclmbjbbojdojaaGreat.Ab
