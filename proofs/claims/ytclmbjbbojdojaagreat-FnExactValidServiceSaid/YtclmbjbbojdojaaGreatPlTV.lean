/-
  Results that are marked and found marked again: the loops, each once. No program is in sight.
-/
import Derived.Test.YtclmbjbbojdojaaGreatPlNet
import Derived.Test.YtclmbjbbojdojaaGreatModW
import Derived.Test.YtclmbjbbojdojaaGreatAbZ
import Derived.Test.YtclmbjbbojdojaaGreatModV
namespace Go.Proofs.YtclmbjbbojdojaaGreat.Ab
set_option linter.unusedVariables false
set_option linter.unusedSimpArgs false
open Go.RowKit
section
variable {α:Type} {pre post:List α} {x y:α}
end
theorem pX {k}:decide (((k:Nat):Int)<0)=false:=by simp
def one {α:Type}:α→Nat:=fun _=>1
set_option maxHeartbeats 1000000
structure Address.Ok (x:Address):Prop where
 machine:(Lit.int IntKind.i64 x.machine).wf =true
 kind:(Lit.int IntKind.i64 x.kind).wf =true
 index:(Lit.int IntKind.i64 x.index).wf =true
theorem Address.ok_of (x:Address) (h:Ct (Address.ds x)):x.Ok:=by
 rw [Address.ds_eq] at h
 simp only [Ct,D.ok,List.length_map] at h
 obtain⟨h1,h2,h3,-⟩:=h
 exact⟨h1,h2,h3⟩
theorem Address.eq_iff (x y:Address):x=y↔x.machine=y.machine∧x.kind=y.kind∧x.index=y.index:=by
 cases x; cases y; grind
theorem DT (x y:Address):BT (Ci x y) (x=y):=by
 unfold Ci
 exact BT.iff (Dj H3 fun _=>Dj H3 fun _=>Dj H3 fun _=>Dz) (by rw [Address.eq_iff]; grind)
theorem P7 (l m:List Address) (hl:l.length≤Big):BT (HK l m) (l=m):=by
 unfold HK
 exact TQ (fun n i=>DQ n l m i) Ci l m (fun n i=>by rw [DQ]) hl fun x hx y _=>DT x y
structure ShardCell.Ok (x:ShardCell):Prop where
 kind:(Lit.int IntKind.i64 x.kind).wf =true
 level:(Lit.int IntKind.i64 x.level).wf =true
 value:(Lit.int IntKind.i64 x.value).wf =true
 data:(x.data.length≤9223372036854775807∧∀e ∈ x.data,(Lit.int IntKind.i64 e).wf =true)
 aux:(x.aux.length≤9223372036854775807∧∀e ∈ x.aux,Address.Ok e)
theorem ShardCell.ok_of (x:ShardCell) (h:Ct (ShardCell.ds x)):x.Ok:=by
 rw [ShardCell.ds_eq] at h
 simp only [Ct,D.ok,List.length_map] at h
 obtain⟨h1,h2,h3,h4,h5,-⟩:=h
 exact⟨h1,h2,h3,⟨h4.1,fun e he=>by grind [Cm,AB,Ct,D.ok]⟩,⟨h5.1,fun e he=>Address.ok_of e (Cm h5.2 he)⟩⟩
theorem ShardCell.eq_iff (x y:ShardCell):x=y↔x.kind=y.kind∧x.level=y.level∧x.value=y.value∧x.data=y.data∧x.aux=y.aux:=by
 cases x; cases y; grind
def ShardCell.sz (x:ShardCell):Nat:=x.data.length+(x.aux.length+0)
theorem Jt (x y:ShardCell) (h:x.sz≤Big):BT (Eb x y) (x=y):=by
 unfold Eb
 exact BT.iff (Dj H3 fun _=>Dj H3 fun _=>Dj H3 fun _=>AU (HO _ _ (by grind [ShardCell.sz])) fun _=>AU (P7 _ _ (by grind [ShardCell.sz])) fun _=>Dz) (by rw [ShardCell.eq_iff]; grind)
theorem Nk (l m:List ShardCell) (hl:szl ShardCell.sz l≤Big):BT (Fv l m) (l=m):=by
 unfold Fv
 exact TQ (fun n i=>CZ n l m i) Eb l m (fun n i=>by rw [CZ]) (by grind [Ca]) fun x hx y _=>Jt x y (by grind [D2])
structure ShardVar.Ok (x:ShardVar):Prop where
 held:Address.Ok x.held
theorem ShardVar.ok_of (x:ShardVar) (h:Ct (ShardVar.ds x)):x.Ok:=by
 rw [ShardVar.ds_eq] at h
 simp only [Ct,D.ok,List.length_map] at h
 obtain⟨h1,h2,h3,h4,h5,-⟩:=h
 exact⟨Address.ok_of _ (by rw [Address.ds_eq]; grind [Ct,D.ok])⟩
theorem ShardVar.eq_iff (x y:ShardVar):x=y↔x.used=y.used∧x.full=y.full∧x.held=y.held:=by
 cases x; cases y; grind
theorem P8 (x y:ShardVar):BT (GH x y) (x=y):=by
 unfold GH
 exact BT.iff (Dj beq_iff_eq fun _=>Dj beq_iff_eq fun _=>AU (DT _ _) fun _=>Dz) (by rw [ShardVar.eq_iff]; grind)
theorem Ot (l m:List ShardVar) (hl:l.length≤Big):BT (GU l m) (l=m):=by
 unfold GU
 exact TQ (fun n i=>Cr n l m i) GH l m (fun n i=>by rw [Cr]) hl fun x hx y _=>P8 x y
structure ShardRedex.Ok (x:ShardRedex):Prop where
 a:Address.Ok x.a
 b:Address.Ok x.b
theorem ShardRedex.ok_of (x:ShardRedex) (h:Ct (ShardRedex.ds x)):x.Ok:=by
 rw [ShardRedex.ds_eq] at h
 simp only [Ct,D.ok,List.length_map] at h
 obtain⟨h1,h2,h3,h4,h5,h6,-⟩:=h
 exact⟨Address.ok_of _ (by rw [Address.ds_eq]; grind [Ct,D.ok]),Address.ok_of _ (by rw [Address.ds_eq]; grind [Ct,D.ok])⟩
theorem ShardRedex.eq_iff (x y:ShardRedex):x=y↔x.a=y.a∧x.b=y.b:=by
 cases x; cases y; grind
theorem Nl (x y:ShardRedex):BT (Eu x y) (x=y):=by
 unfold Eu
 exact BT.iff (AU (DT _ _) fun _=>AU (DT _ _) fun _=>Dz) (by rw [ShardRedex.eq_iff]; grind)
theorem Mj (l m:List ShardRedex) (hl:l.length≤Big):BT (FU l m) (l=m):=by
 unfold FU
 exact TQ (fun n i=>CJ n l m i) Eu l m (fun n i=>by rw [CJ]) hl fun x hx y _=>Nl x y
structure Shard.Ok (x:Shard):Prop where
 cells:(x.cells.length≤9223372036854775807∧∀e ∈ x.cells,ShardCell.Ok e)
 vars:(x.vars.length≤9223372036854775807∧∀e ∈ x.vars,ShardVar.Ok e)
 redexes:(x.redexes.length≤9223372036854775807∧∀e ∈ x.redexes,ShardRedex.Ok e)
theorem Shard.ok_of (x:Shard) (h:Ct (Shard.ds x)):x.Ok:=by
 rw [Shard.ds_eq] at h
 simp only [Ct,D.ok,List.length_map] at h
 obtain⟨h1,h2,h3,-⟩:=h
 exact⟨⟨h1.1,fun e he=>ShardCell.ok_of e (Cm h1.2 he)⟩,⟨h2.1,fun e he=>ShardVar.ok_of e (Cm h2.2 he)⟩,⟨h3.1,fun e he=>ShardRedex.ok_of e (Cm h3.2 he)⟩⟩
theorem Shard.eq_iff (x y:Shard):x=y↔x.cells=y.cells∧x.vars=y.vars∧x.redexes=y.redexes:=by
 cases x; cases y; grind
def Shard.sz (x:Shard):Nat:=szl ShardCell.sz x.cells+(x.vars.length+(x.redexes.length+0))
theorem TS (x y:Shard) (h:x.sz≤Big):BT (I4 x y) (x=y):=by
 unfold I4
 exact BT.iff (AU (Nk _ _ (by grind [Shard.sz])) fun _=>AU (Ot _ _ (by grind [Shard.sz])) fun _=>AU (Mj _ _ (by grind [Shard.sz])) fun _=>Dz) (by rw [Shard.eq_iff]; grind)
theorem Lv (l m:List Shard) (hl:szl Shard.sz l≤Big):BT (Ht l m) (l=m):=by
 unfold Ht
 exact TQ (fun n i=>Ec n l m i) I4 l m (fun n i=>by rw [Ec]) (by grind [Ca]) fun x hx y _=>TS x y (by grind [D2])
structure Grid.Ok (x:Grid):Prop where
 shards:(x.shards.length≤9223372036854775807∧∀e ∈ x.shards,Shard.Ok e)
 root:Address.Ok x.root
theorem Grid.ok_of (x:Grid) (h:Ct (Grid.ds x)):x.Ok:=by
 rw [Grid.ds_eq] at h
 simp only [Ct,D.ok,List.length_map] at h
 obtain⟨h1,h2,h3,h4,-⟩:=h
 exact⟨⟨h1.1,fun e he=>Shard.ok_of e (Cm h1.2 he)⟩,Address.ok_of _ (by rw [Address.ds_eq]; grind [Ct,D.ok])⟩
theorem Grid.eq_iff (x y:Grid):x=y↔x.shards=y.shards∧x.root=y.root:=by
 cases x; cases y; grind
def Grid.sz (x:Grid):Nat:=szl Shard.sz x.shards+0
theorem U8 (x y:Grid) (h:x.sz≤Big):BT (Lt x y) (x=y):=by
 unfold Lt
 exact BT.iff (AU (Lv _ _ (by grind [Grid.sz])) fun _=>AU (DT _ _) fun _=>Dz) (by rw [Grid.eq_iff]; grind)
structure Parcel.Ok (x:Parcel):Prop where
 kind:(Lit.int IntKind.i64 x.kind).wf =true
 cell:ShardCell.Ok x.cell
 a:Address.Ok x.a
 b:Address.Ok x.b
theorem Parcel.ok_of (x:Parcel) (h:Ct (Parcel.ds x)):x.Ok:=by
 rw [Parcel.ds_eq] at h
 simp only [Ct,D.ok,List.length_map] at h
 obtain⟨h1,h2,h3,h4,h5,h6,h7,h8,h9,h10,h11,h12,-⟩:=h
 exact⟨h1,ShardCell.ok_of _ (by rw [ShardCell.ds_eq]; simp_all [Ct,D.ok]),Address.ok_of _ (by rw [Address.ds_eq]; grind [Ct,D.ok]),Address.ok_of _ (by rw [Address.ds_eq]; grind [Ct,D.ok])⟩
theorem Parcel.eq_iff (x y:Parcel):x=y↔x.kind=y.kind∧x.cell=y.cell∧x.a=y.a∧x.b=y.b:=by
 cases x; cases y; grind
def Parcel.sz (x:Parcel):Nat:=x.cell.sz+0
theorem Sb (x y:Parcel) (h:x.sz≤Big):BT (Hu x y) (x=y):=by
 unfold Hu
 exact BT.iff (Dj H3 fun _=>AU (Jt _ _ (by grind [Parcel.sz])) fun _=>AU (DT _ _) fun _=>AU (DT _ _) fun _=>Dz) (by rw [Parcel.eq_iff]; grind)
theorem Qv (l m:List Parcel) (hl:szl Parcel.sz l≤Big):BT (G3 l m) (l=m):=by
 unfold G3
 exact TQ (fun n i=>Dw n l m i) Hu l m (fun n i=>by rw [Dw]) (by grind [Ca]) fun x hx y _=>Sb x y (by grind [D2])
theorem KR (l m:List (List Parcel)) (hl:szl (szl Parcel.sz) l≤Big):BT (GI l m) (l=m):=by
 unfold GI
 exact TQ (fun n i=>DR n l m i) G3 l m (fun n i=>by rw [DR]) (by grind [Ca]) fun x hx y _=>Qv x y (by grind [D2])
theorem K5 (l m:List (List Int)) (hl:szl List.length l≤Big):BT (G4 l m) (l=m):=by
 unfold G4
 exact TQ (fun n i=>Dx n l m i) E5 l m (fun n i=>by rw [Dx]) (by grind [Ca]) fun x hx y _=>HO x y (by grind [D2])
structure Cluster.Ok (x:Cluster):Prop where
 grid:Grid.Ok x.grid
 channels:(x.channels.length≤9223372036854775807∧∀e ∈ x.channels,(e.length≤9223372036854775807∧∀ee ∈ e,Parcel.Ok ee))
 counts:(x.counts.length≤9223372036854775807∧∀e ∈ x.counts,(e.length≤9223372036854775807∧∀ee ∈ e,(Lit.int IntKind.i64 ee).wf =true))
 sent:(x.sent.length≤9223372036854775807∧∀e ∈ x.sent,(Lit.int IntKind.i64 e).wf =true)
 got:(x.got.length≤9223372036854775807∧∀e ∈ x.got,(Lit.int IntKind.i64 e).wf =true)
theorem Cluster.ok_of (x:Cluster) (h:Ct (Cluster.ds x)):x.Ok:=by
 rw [Cluster.ds_eq] at h
 simp only [Ct,D.ok,List.length_map] at h
 obtain⟨h1,h2,h3,h4,h5,h6,h7,h8,-⟩:=h
 exact⟨Grid.ok_of _ (by rw [Grid.ds_eq]; grind [Ct,D.ok]),⟨h5.1,fun e he=>by have:=(Cm h5.2 he); simp only [slD,Ct,D.ok,List.length_map] at this; exact⟨this.1.1,fun e he=>Parcel.ok_of e (Cm this.1.2 he)⟩⟩,⟨h6.1,fun e he=>by have:=(Cm h6.2 he); simp only [slD,Ct,D.ok,List.length_map] at this; exact⟨this.1.1,fun e he=>by grind [Cm,AB,Ct,D.ok]⟩⟩,⟨h7.1,fun e he=>by grind [Cm,AB,Ct,D.ok]⟩,⟨h8.1,fun e he=>by grind [Cm,AB,Ct,D.ok]⟩⟩
theorem Cluster.eq_iff (x y:Cluster):x=y↔x.grid=y.grid∧x.channels=y.channels∧x.counts=y.counts∧x.sent=y.sent∧x.got=y.got:=by
 cases x; cases y; grind
def Cluster.sz (x:Cluster):Nat:=x.grid.sz+(szl (szl Parcel.sz) x.channels+(szl List.length x.counts+(x.sent.length+(x.got.length+0))))
theorem K6 (x y:Cluster) (h:x.sz≤Big):BT (G5 x y) (x=y):=by
 unfold G5
 exact BT.iff (AU (U8 _ _ (by grind [Cluster.sz])) fun _=>AU (KR _ _ (by grind [Cluster.sz])) fun _=>AU (K5 _ _ (by grind [Cluster.sz])) fun _=>AU (HO _ _ (by grind [Cluster.sz])) fun _=>AU (HO _ _ (by grind [Cluster.sz])) fun _=>Dz) (by rw [Cluster.eq_iff]; grind)
theorem M3 (l m:List Bool) (hl:l.length≤Big):BT (I5 l m) (l=m):=by
 unfold I5
 exact TQ (fun n i=>FH n l m i) (fun x y=>some (x == y)) l m (fun n i=>by rw [FH]; rfl) hl fun x hx y _=>.mk beq_iff_eq
structure Shot.Ok (x:Shot):Prop where
 taken:(x.taken.length≤9223372036854775807∧∀e ∈ x.taken,True)
 shards:(x.shards.length≤9223372036854775807∧∀e ∈ x.shards,Shard.Ok e)
 counts:(x.counts.length≤9223372036854775807∧∀e ∈ x.counts,(e.length≤9223372036854775807∧∀ee ∈ e,(Lit.int IntKind.i64 ee).wf =true))
 recording:(x.recording.length≤9223372036854775807∧∀e ∈ x.recording,True)
 saved:(x.saved.length≤9223372036854775807∧∀e ∈ x.saved,(e.length≤9223372036854775807∧∀ee ∈ e,Parcel.Ok ee))
theorem Shot.ok_of (x:Shot) (h:Ct (Shot.ds x)):x.Ok:=by
 rw [Shot.ds_eq] at h
 simp only [Ct,D.ok,List.length_map] at h
 obtain⟨h1,h2,h3,h4,h5,-⟩:=h
 exact⟨⟨h1.1,fun e he=>trivial⟩,⟨h2.1,fun e he=>Shard.ok_of e (Cm h2.2 he)⟩,⟨h3.1,fun e he=>by have:=(Cm h3.2 he); simp only [slD,Ct,D.ok,List.length_map] at this; exact⟨this.1.1,fun e he=>by grind [Cm,AB,Ct,D.ok]⟩⟩,⟨h4.1,fun e he=>trivial⟩,⟨h5.1,fun e he=>by have:=(Cm h5.2 he); simp only [slD,Ct,D.ok,List.length_map] at this; exact⟨this.1.1,fun e he=>Parcel.ok_of e (Cm this.1.2 he)⟩⟩⟩
theorem Shot.eq_iff (x y:Shot):x=y↔x.taken=y.taken∧x.shards=y.shards∧x.counts=y.counts∧x.recording=y.recording∧x.saved=y.saved:=by
 cases x; cases y; grind
def Shot.sz (x:Shot):Nat:=x.taken.length+(szl Shard.sz x.shards+(szl List.length x.counts+(x.recording.length+(szl (szl Parcel.sz) x.saved+0))))
theorem U9 (x y:Shot) (h:x.sz≤Big):BT (Lu x y) (x=y):=by
 unfold Lu
 exact BT.iff (AU (M3 _ _ (by grind [Shot.sz])) fun _=>AU (Lv _ _ (by grind [Shot.sz])) fun _=>AU (K5 _ _ (by grind [Shot.sz])) fun _=>AU (M3 _ _ (by grind [Shot.sz])) fun _=>AU (KR _ _ (by grind [Shot.sz])) fun _=>Dz) (by rw [Shot.eq_iff]; grind)
structure Watched.Ok (x:Watched):Prop where
 cluster:Cluster.Ok x.cluster
 shot:Shot.Ok x.shot
theorem Watched.ok_of (x:Watched) (h:Ct (Watched.ds x)):x.Ok:=by
 rw [Watched.ds_eq] at h
 simp only [Ct,D.ok,List.length_map] at h
 obtain⟨h1,h2,h3,h4,h5,h6,h7,h8,h9,h10,h11,h12,h13,-⟩:=h
 exact⟨Cluster.ok_of _ (by rw [Cluster.ds_eq]; simp_all [Ct,D.ok]),Shot.ok_of _ (by rw [Shot.ds_eq]; simp_all [Ct,D.ok])⟩
theorem Watched.eq_iff (x y:Watched):x=y↔x.cluster=y.cluster∧x.shot=y.shot:=by
 cases x; cases y; grind
def Watched.sz (x:Watched):Nat:=x.cluster.sz+(x.shot.sz+0)
theorem Qw (x y:Watched) (h:x.sz≤Big):BT (II x y) (x=y):=by
 unfold II
 exact BT.iff (AU (K6 _ _ (by grind [Watched.sz])) fun _=>AU (U9 _ _ (by grind [Watched.sz])) fun _=>Dz) (by rw [Watched.eq_iff]; grind)
structure Service.Ok (x:Service):Prop where
 watched:Watched.Ok x.watched
 good:Cluster.Ok x.good
 shots:(Lit.int IntKind.i64 x.shots).wf =true
 crashes:(Lit.int IntKind.i64 x.crashes).wf =true
theorem Service.ok_of (x:Service) (h:Ct (Service.ds x)):x.Ok:=by
 rw [Service.ds_eq] at h
 simp only [Ct,D.ok,List.length_map] at h
 obtain⟨h1,h2,h3,h4,h5,h6,h7,h8,h9,h10,h11,h12,h13,h14,h15,h16,h17,h18,h19,h20,h21,h22,h23,-⟩:=h
 exact⟨Watched.ok_of _ (by rw [Watched.ds_eq]; simp_all [Ct,D.ok]),Cluster.ok_of _ (by rw [Cluster.ds_eq]; simp_all [Ct,D.ok]),h22,h23⟩
theorem Service.eq_iff (x y:Service):x=y↔x.watched=y.watched∧x.good=y.good∧x.shots=y.shots∧x.crashes=y.crashes:=by
 cases x; cases y; grind
def Service.sz (x:Service):Nat:=x.watched.sz+(x.good.sz+0)
theorem Qx (x y:Service) (h:x.sz≤Big):BT (G2 x y) (x=y):=by
 unfold G2
 exact BT.iff (AU (Qw _ _ (by grind [Service.sz])) fun _=>AU (K6 _ _ (by grind [Service.sz])) fun _=>Dj H3 fun _=>Dj H3 fun _=>Dz) (by rw [Service.eq_iff]; grind)
theorem TT (l:List Address) (hl:l.length≤9223372036854775807) (h:∀x ∈ l,x.Ok) (left:Nat) (h1:left≤1048576):HH l left=some (szr l.length left):=by
 unfold HH
 exact Oo h1 hl fun _=>IW
theorem Kv (x:Address):C9 x=some x:=by
 rfl
theorem TU (l:List Address) (hl:l.length≤Big):HI l=some l:=by
 unfold HI
 exact gTo (fun n acc i=>DO n l acc i) C9 _ l (fun n acc i=>by rw [DO]) hl (fun x hx=>Kv x)
theorem Lw (x:ShardCell) (h:x.Ok) (left:Nat) (h1:left≤1048576):EX x left=some (szr x.sz left):=by
 unfold EX ShardCell.sz
 exact Cl (Jr _ _ (by omega) h.data.1) fun _=>Cl (TT _ h.aux.1 h.aux.2 _ (by omega)) fun _=>IW
theorem Qy (l:List ShardCell) (hl:l.length≤9223372036854775807) (h:∀x ∈ l,x.Ok) (left:Nat) (h1:left≤1048576):Fq l left=some (szr (szl ShardCell.sz l) left):=by
 unfold Fq
 exact gSz (fun n p i=>CV n l p i) EX ShardCell.sz l (fun n p i=>by rw [CV]) left h1 (fun x hx k hk=>Lw x (h x hx) k hk) hl
theorem Lx (x:ShardCell) (h:x.sz≤Big):EZ x=some x:=by
 unfold EZ
 rw [Js _ (by grind [ShardCell.sz]),AA]
 rw [TU _ (by grind [ShardCell.sz]),AA]
 first|done|rfl
theorem Qz (l:List ShardCell) (hl:szl ShardCell.sz l≤Big):Fs l=some l:=by
 unfold Fs
 exact gTo (fun n acc i=>CW n l acc i) EZ _ l (fun n acc i=>by rw [CW]) (by grind [Ca]) (fun x hx=>Lx x (by grind [D2]))
theorem Sc (l:List ShardVar) (hl:l.length≤9223372036854775807) (h:∀x ∈ l,x.Ok) (left:Nat) (h1:left≤1048576):GR l left=some (szr l.length left):=by
 unfold GR
 exact Oo h1 hl fun _=>IW
theorem TV (x:ShardVar):HJ x=some x:=by
 rfl
theorem Sd (l:List ShardVar) (hl:l.length≤Big):GS l=some l:=by
 unfold GS
 exact gTo (fun n acc i=>Cp n l acc i) HJ _ l (fun n acc i=>by rw [Cp]) hl (fun x hx=>TV x)
theorem P9 (l:List ShardRedex) (hl:l.length≤9223372036854775807) (h:∀x ∈ l,x.Ok) (left:Nat) (h1:left≤1048576):FS l left=some (szr l.length left):=by
 unfold FS
 exact Oo h1 hl fun _=>IW
theorem Q0 (x:ShardRedex):Ft x=some x:=by
 rfl
theorem QA (l:List ShardRedex) (hl:l.length≤Big):FT l=some l:=by
 unfold FT
 exact gTo (fun n acc i=>CI n l acc i) Ft _ l (fun n acc i=>by rw [CI]) hl (fun x hx=>Q0 x)
theorem X6 (x:Shard) (h:x.Ok) (left:Nat) (h1:left≤1048576):Iz x left=some (szr x.sz left):=by
 unfold Iz Shard.sz
 exact Cl (Qy _ h.cells.1 h.cells.2 _ (by omega)) fun _=>Cl (Sc _ h.vars.1 h.vars.2 _ (by omega)) fun _=>Cl (P9 _ h.redexes.1 h.redexes.2 _ (by omega)) fun _=>IW
theorem Qo (l:List Shard) (hl:l.length≤9223372036854775807) (h:∀x ∈ l,x.Ok) (left:Nat) (h1:left≤1048576):Hp l left=some (szr (szl Shard.sz l) left):=by
 unfold Hp
 exact gSz (fun n p i=>EY n l p i) Iz Shard.sz l (fun n p i=>by rw [EY]) left h1 (fun x hx k hk=>X6 x (h x hx) k hk) hl
theorem X7 (x:Shard) (h:x.sz≤Big):I1 x=some x:=by
 unfold I1
 rw [Qz _ (by grind [Shard.sz]),AA]
 rw [Sd _ (by grind [Shard.sz]),AA]
 rw [QA _ (by grind [Shard.sz]),AA]
 first|done|rfl
theorem Qp (l:List Shard) (hl:szl Shard.sz l≤Big):Hr l=some l:=by
 unfold Hr
 exact gTo (fun n acc i=>Ea n l acc i) I1 _ l (fun n acc i=>by rw [Ea]) (by grind [Ca]) (fun x hx=>X7 x (by grind [D2]))
theorem aO (x:Grid) (h:x.Ok) (left:Nat) (h1:left≤1048576):Lp x left=some (szr x.sz left):=by
 unfold Lp Grid.sz
 exact Cl (Qo _ h.shards.1 h.shards.2 _ (by omega)) fun _=>IW
theorem aP (x:Grid) (h:x.sz≤Big):Lr x=some x:=by
 simp_all [Lr,Qp,Grid.sz,Kv]
theorem Wj (x:Parcel) (h:x.Ok) (left:Nat) (h1:left≤1048576):Hq x left=some (szr x.sz left):=by
 unfold Hq Parcel.sz
 exact Cl (Lw _ h.cell _ (by omega)) fun _=>IW
theorem VA (l:List Parcel) (hl:l.length≤9223372036854775807) (h:∀x ∈ l,x.Ok) (left:Nat) (h1:left≤1048576):Gw l left=some (szr (szl Parcel.sz l) left):=by
 unfold Gw
 exact gSz (fun n p i=>Ds n l p i) Hq Parcel.sz l (fun n p i=>by rw [Ds]) left h1 (fun x hx k hk=>Wj x (h x hx) k hk) hl
theorem Wl (x:Parcel) (h:x.sz≤Big):Hs x=some x:=by
 simp_all [Hs,Lx,Parcel.sz,Kv]
theorem VB (l:List Parcel) (hl:szl Parcel.sz l≤Big):Gz l=some l:=by
 unfold Gz
 exact gTo (fun n acc i=>Du n l acc i) Hs _ l (fun n acc i=>by rw [Du]) (by grind [Ca]) (fun x hx=>Wl x (by grind [D2]))
theorem M4 (l:List (List Parcel)) (hl:l.length≤9223372036854775807) (h:∀x ∈ l,(x.length≤9223372036854775807∧∀e ∈ x,Parcel.Ok e)) (left:Nat) (h1:left≤1048576):GF l left=some (szr (szl (szl Parcel.sz) l) left):=by
 unfold GF
 exact gSz (fun n p i=>DN n l p i) Gw (szl Parcel.sz) l (fun n p i=>by rw [DN]) left h1 (fun x hx k hk=>VA x (h x hx).1 (h x hx).2 k hk) hl
theorem M5 (l:List (List Parcel)) (hl:szl (szl Parcel.sz) l≤Big):GG l=some l:=by
 unfold GG
 exact gTo (fun n acc i=>DP n l acc i) Gz _ l (fun n acc i=>by rw [DP]) (by grind [Ca]) (fun x hx=>VB x (by grind [D2]))
theorem Ou (l:List (List Int)) (hl:l.length≤9223372036854775807) (h:∀x ∈ l,(x.length≤9223372036854775807∧∀e ∈ x,(Lit.int IntKind.i64 e).wf =true)) (left:Nat) (h1:left≤1048576):Gx l left=some (szr (szl List.length l) left):=by
 unfold Gx
 exact gSz (fun n p i=>Dt n l p i) E3 List.length l (fun n p i=>by rw [Dt]) left h1 (fun x hx k hk=>Jr x k hk (h x hx).1) hl
theorem Ov (l:List (List Int)) (hl:szl List.length l≤Big):G0 l=some l:=by
 unfold G0
 exact gTo (fun n acc i=>Dv n l acc i) E4 _ l (fun n acc i=>by rw [Dv]) (by grind [Ca]) (fun x hx=>Js x (by grind [D2]))
theorem Ow (x:Cluster) (h:x.Ok) (left:Nat) (h1:left≤1048576):Gy x left=some (szr x.sz left):=by
 unfold Gy Cluster.sz
 exact Cl (aO _ h.grid _ (by omega)) fun _=>Cl (M4 _ h.channels.1 h.channels.2 _ (by omega)) fun _=>Cl (Ou _ h.counts.1 h.counts.2 _ (by omega)) fun _=>Cl (Jr _ _ (by omega) h.sent.1) fun _=>Cl (Jr _ _ (by omega) h.got.1) fun _=>IW
theorem Ox (x:Cluster) (h:x.sz≤Big):G1 x=some x:=by
 unfold G1
 rw [aP _ (by grind [Cluster.sz]),AA]
 rw [M5 _ (by grind [Cluster.sz]),AA]
 rw [Ov _ (by grind [Cluster.sz]),AA]
 rw [Js _ (by grind [Cluster.sz]),AA]
 rw [Js _ (by grind [Cluster.sz]),AA]
 first|done|rfl
theorem Se (l:List Bool) (hl:l.length≤9223372036854775807) (h:∀x ∈ l,True) (left:Nat) (h1:left≤1048576):I0 l left=some (szr l.length left):=by
 unfold I0
 exact Oo h1 hl fun _=>IW
theorem Sf (l:List Bool) (hl:l.length≤Big):I2 l=some l:=by
 unfold I2
 exact gTo (fun n acc i=>FG n l acc i) some _ l (fun n acc i=>by rw [FG]; rfl) hl (fun x hx=>rfl)
theorem aQ (x:Shot) (h:x.Ok) (left:Nat) (h1:left≤1048576):Lq x left=some (szr x.sz left):=by
 unfold Lq Shot.sz
 exact Cl (Se _ h.taken.1 h.taken.2 _ (by omega)) fun _=>Cl (Qo _ h.shards.1 h.shards.2 _ (by omega)) fun _=>Cl (Ou _ h.counts.1 h.counts.2 _ (by omega)) fun _=>Cl (Se _ h.recording.1 h.recording.2 _ (by omega)) fun _=>Cl (M4 _ h.saved.1 h.saved.2 _ (by omega)) fun _=>IW
theorem aR (x:Shot) (h:x.sz≤Big):Ls x=some x:=by
 unfold Ls
 rw [Sf _ (by grind [Shot.sz]),AA]
 rw [Qp _ (by grind [Shot.sz]),AA]
 rw [Ov _ (by grind [Shot.sz]),AA]
 rw [Sf _ (by grind [Shot.sz]),AA]
 rw [M5 _ (by grind [Shot.sz]),AA]
 first|done|rfl
theorem VC (x:Watched) (h:x.Ok) (left:Nat) (h1:left≤1048576):ID x left=some (szr x.sz left):=by
 unfold ID Watched.sz
 exact Cl (Ow _ h.cluster _ (by omega)) fun _=>Cl (aQ _ h.shot _ (by omega)) fun _=>IW
theorem VD (x:Watched) (h:x.sz≤Big):IF x=some x:=by
 unfold IF
 rw [Ox _ (by grind [Watched.sz]),AA]
 rw [aR _ (by grind [Watched.sz]),AA]
 first|done|rfl
theorem VE (x:Service) (h:x.Ok) (left:Nat) (h1:left≤1048576):IE x left=some (szr x.sz left):=by
 unfold IE Service.sz
 exact Cl (VC _ h.watched _ (by omega)) fun _=>Cl (Ow _ h.good _ (by omega)) fun _=>IW
theorem VF (x:Service) (h:x.sz≤Big):E1 x=some x:=by
 unfold E1
 rw [VD _ (by grind [Service.sz]),AA]
 rw [Ox _ (by grind [Service.sz]),AA]
 first|done|rfl
end Go.Proofs.YtclmbjbbojdojaaGreat.Ab
