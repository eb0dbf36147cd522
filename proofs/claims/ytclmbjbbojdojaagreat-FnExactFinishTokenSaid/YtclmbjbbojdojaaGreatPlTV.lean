/-
  Results that are marked and found marked again: the loops, each once. No program is in sight.
-/
import Derived.Test.YtclmbjbbojdojaaGreatPlNet
import Derived.Test.YtclmbjbbojdojaaGreatModW
import Derived.Test.YtclmbjbbojdojaaGreatAbZ
import Derived.Test.YtclmbjbbojdojaaGreatModV
namespace Go.Proofs.YtclmbjbbojdojaaGreat.Ab
set_option linter.unusedVariables false
set_option linter.unusedSimpArgs false
open Go.RowKit
section
variable {α:Type} {pre post:List α} {x y:α}
theorem Fk:at? (pre++x::post) (pre.length:Int)=some x:=Ak rfl
theorem Fl:decide ((pre.length:Int)<((List.length (pre++x::post):Nat):Int))=true:=CD rfl
theorem I0:A4 (pre++x::post) (pre.length:Int) y=some (pre++y::post):=by
 unfold A4 jN
 simp
theorem Cr (h:pre.length<Big):IntKind.i64.wrap ((pre.length:Int)+1)=((List.length pre+1:Nat):Int):=by
 unfold Big at h
 rw [w64 (by omega) (by omega)]
 omega
theorem Fm {l:List α}:decide ((l.length:Int)<(l.length:Int))=false:=by simp
end
abbrev KB:Nat:=4611686018427387904
theorem wk {k} (h:k+1≤KB):IntKind.i64.wrap ((k:Int)+1)=((k+1:Nat):Int):=by
 unfold KB at h
 rw [w64 (by omega) (by omega)]
 omega
theorem Sx {k}:decide (((k:Nat):Int)<0)=false:=by simp
def cnts {α:Type} (c:α→Nat):List α→Nat
 | [] =>0
 |x::l=>c x+cnts c l
def mks {α:Type} (mk:Nat→α→α) (c:α→Nat):Nat→List α→List α
 |_,[] =>[]
 |k,x::l=>mk k x::mks mk c (k+c x) l
theorem DX {α:Type} {c s:α→Nat} {b:Nat}:∀ {l:List α},(∀x,c x≤b+b*s x)→cnts c l≤b*szl s l
 | [],_=>by simp [cnts]
 |x::l,h=>by
  rw [cnts,szl,Nat.mul_add,Nat.mul_add]
  have:=h x
  have:=DX (l:=l) h
  omega
theorem A9 {α:Type} {c:α→Nat} {b:Nat}:∀ {l:List α},(∀x,c x≤b)→cnts c l≤b*l.length
 | [],_=>by simp [cnts]
 |x::l,h=>by
  rw [cnts,List.length_cons,Nat.mul_add]
  have:=h x
  have:=A9 (l:=l) h
  omega
def one {α:Type}:α→Nat:=fun _=>1
def mkI:Nat→Int→Int:=fun k _=>(k:Int)
def Rr:Nat→Bool→Bool:=fun k _=>decide (Int.tmod (k:Int) 3=0)
theorem KS {k:Nat} {x:Bool}:(Rr k x == decide (Int.tmod ((k:Nat):Int) 3=0))=true:=by simp [Rr]
theorem GT {α:Type} {x:α}:one x≤1:=Nat.le_refl 1
theorem Ol {α:Type} (L:Nat→List α→Int→Int→Option (Int × List α)) (mk:Nat→α→α) (c:α→Nat) (P:α→Prop)
  (hL:∀n (pre post:List α) x (k:Nat),P x→k+c x≤KB→pre.length<Big→L (n+1) (pre++x::post) (k:Int) (pre.length:Int)=L n (pre++mk k x::post) ((k+c x:Nat):Int) ((List.length pre+1:Nat):Int))
  (hN:∀n (l:List α) (k:Int),L (n+1) l k (l.length:Int)=some (k,l))
  (l:List α) (k:Nat) (hP:∀x ∈ l,P x) (hl:l.length≤Big) (hk:k+cnts c l≤KB):L fuel l (k:Int) 0=some (((k+cnts c l:Nat):Int),mks mk c k l):=by
 have loop:∀ (post pre:List α) (n k:Nat),(∀x ∈ post,P x)→pre.length+post.length≤Big→k+cnts c post≤KB→post.length<n→L n (pre++post) (k:Int) (pre.length:Int)=some (((k+cnts c post:Nat):Int),pre++mks mk c k post):=by
  intro post
  induction post with
  |nil=>
   intro pre n k _ _ _ hn
   obtain⟨n,rfl⟩:∃m,n=m+1:=⟨n - 1,by omega⟩
   rw [List.append_nil,hN,cnts,mks,List.append_nil]; rfl
  |cons x post ih=>
   intro pre n k hp hb hk hn
   obtain⟨n,rfl⟩:∃m,n=m+1:=⟨n - 1,by omega⟩
   rw [List.length_cons] at hb hn
   rw [cnts] at hk
   rw [hL n pre post x k (hp x (List.mem_cons_self ..)) (by omega) (by omega),cnts,mks]
   have:=ih (pre++[mk k x]) n (k+c x) (fun y hy=>hp y (List.mem_cons_of_mem _ hy)) (by rw [List.length_append]; simp; omega) (by omega) (by omega)
   rw [List.append_assoc,List.append_assoc,List.length_append] at this
   simp only [List.cons_append,List.nil_append,List.length_cons,List.length_nil,Nat.zero_add] at this
   rw [this,Nat.add_assoc]
 exact loop l [] fuel k hP (by simpa using hl) hk (by rw [Ax]; unfold Big at hl; omega)
theorem Om {α:Type} (L:Nat→List α→Int→Int→Option Int) (mk:Nat→α→α) (c:α→Nat) (P:α→Prop)
  (hL:∀n (pre post:List α) x (k:Nat),P x→k+c x≤KB→pre.length<Big→L (n+1) (pre++mk k x::post) (k:Int) (pre.length:Int)=L n (pre++mk k x::post) ((k+c x:Nat):Int) ((List.length pre+1:Nat):Int))
  (hN:∀n (l:List α) (k:Int),L (n+1) l k (l.length:Int)=some k)
  (l:List α) (k:Nat) (hP:∀x ∈ l,P x) (hl:l.length≤Big) (hk:k+cnts c l≤KB):L fuel (mks mk c k l) (k:Int) 0=some ((k+cnts c l:Nat):Int):=by
 have loop:∀ (post pre:List α) (n k:Nat),(∀x ∈ post,P x)→pre.length+post.length≤Big→k+cnts c post≤KB→post.length<n→L n (pre++mks mk c k post) (k:Int) (pre.length:Int)=some ((k+cnts c post:Nat):Int):=by
  intro post
  induction post with
  |nil=>
   intro pre n k _ _ _ hn
   obtain⟨n,rfl⟩:∃m,n=m+1:=⟨n - 1,by omega⟩
   rw [mks,List.append_nil,hN,cnts]; rfl
  |cons x post ih=>
   intro pre n k hp hb hk hn
   obtain⟨n,rfl⟩:∃m,n=m+1:=⟨n - 1,by omega⟩
   rw [List.length_cons] at hb hn
   rw [cnts] at hk
   rw [mks,hL n pre _ x k (hp x (List.mem_cons_self ..)) (by omega) (by omega),cnts]
   have:=ih (pre++[mk k x]) n (k+c x) (fun y hy=>hp y (List.mem_cons_of_mem _ hy)) (by rw [List.length_append]; simp; omega) (by omega) (by omega)
   rw [List.append_assoc,List.length_append] at this
   simp only [List.cons_append,List.nil_append,List.length_cons,List.length_nil,Nat.zero_add] at this
   rw [this,Nat.add_assoc]
 exact loop l [] fuel k hP (by simpa using hl) hk (by rw [Ax]; unfold Big at hl; omega)
set_option maxHeartbeats 1000000
structure Address.Ok (x:Address):Prop where
 machine:(Lit.int IntKind.i64 x.machine).wf =true
 kind:(Lit.int IntKind.i64 x.kind).wf =true
 index:(Lit.int IntKind.i64 x.index).wf =true
theorem Address.ok_of (x:Address) (h:Et (Address.ds x)):x.Ok:=by
 rw [Address.ds_eq] at h
 simp only [Et,D.ok,List.length_map] at h
 obtain⟨h1,h2,h3,-⟩:=h
 exact⟨h1,h2,h3⟩
theorem Address.eq_iff (x y:Address):x=y↔x.machine=y.machine∧x.kind=y.kind∧x.index=y.index:=by
 cases x; cases y; grind
theorem D4 (x y:Address):Bu (DB x y) (x=y):=by
 unfold DB
 exact Bu.iff (C2 IS fun _=>C2 IS fun _=>C2 IS fun _=>F9) (by rw [Address.eq_iff]; grind)
theorem Rs (l m:List Address) (hl:l.length≤Big):Bu (IL l m) (l=m):=by
 unfold IL
 exact VZ (fun n i=>D2 n l m i) DB l m (fun n i=>by rw [D2]) hl fun x hx y _=>D4 x y
structure ShardCell.Ok (x:ShardCell):Prop where
 kind:(Lit.int IntKind.i64 x.kind).wf =true
 level:(Lit.int IntKind.i64 x.level).wf =true
 value:(Lit.int IntKind.i64 x.value).wf =true
 data:(x.data.length≤9223372036854775807∧∀e ∈ x.data,(Lit.int IntKind.i64 e).wf =true)
 aux:(x.aux.length≤9223372036854775807∧∀e ∈ x.aux,Address.Ok e)
theorem ShardCell.ok_of (x:ShardCell) (h:Et (ShardCell.ds x)):x.Ok:=by
 rw [ShardCell.ds_eq] at h
 simp only [Et,D.ok,List.length_map] at h
 obtain⟨h1,h2,h3,h4,h5,-⟩:=h
 exact⟨h1,h2,h3,⟨h4.1,fun e he=>by grind [FW,AB,Et,D.ok]⟩,⟨h5.1,fun e he=>Address.ok_of e (FW h5.2 he)⟩⟩
theorem ShardCell.eq_iff (x y:ShardCell):x=y↔x.kind=y.kind∧x.level=y.level∧x.value=y.value∧x.data=y.data∧x.aux=y.aux:=by
 cases x; cases y; grind
def ShardCell.sz (x:ShardCell):Nat:=x.data.length+(x.aux.length+0)
theorem Kw (x y:ShardCell) (h:x.sz≤Big):Bu (FK x y) (x=y):=by
 unfold FK
 exact Bu.iff (C2 IS fun _=>C2 IS fun _=>C2 IS fun _=>Af (IT _ _ (by grind [ShardCell.sz])) fun _=>Af (Rs _ _ (by grind [ShardCell.sz])) fun _=>F9) (by rw [ShardCell.eq_iff]; grind)
theorem PM (l m:List ShardCell) (hl:szl ShardCell.sz l≤Big):Bu (Gp l m) (l=m):=by
 unfold Gp
 exact VZ (fun n i=>C1 n l m i) FK l m (fun n i=>by rw [C1]) (by grind [Aq]) fun x hx y _=>Kw x y (by grind [BD])
structure ShardVar.Ok (x:ShardVar):Prop where
 held:Address.Ok x.held
theorem ShardVar.ok_of (x:ShardVar) (h:Et (ShardVar.ds x)):x.Ok:=by
 rw [ShardVar.ds_eq] at h
 simp only [Et,D.ok,List.length_map] at h
 obtain⟨h1,h2,h3,h4,h5,-⟩:=h
 exact⟨Address.ok_of _ (by rw [Address.ds_eq]; grind [Et,D.ok])⟩
theorem ShardVar.eq_iff (x y:ShardVar):x=y↔x.used=y.used∧x.full=y.full∧x.held=y.held:=by
 cases x; cases y; grind
theorem Rt (x y:ShardVar):Bu (G7 x y) (x=y):=by
 unfold G7
 exact Bu.iff (C2 beq_iff_eq fun _=>C2 beq_iff_eq fun _=>Af (D4 _ _) fun _=>F9) (by rw [ShardVar.eq_iff]; grind)
theorem Qf (l m:List ShardVar) (hl:l.length≤Big):Bu (HN l m) (l=m):=by
 unfold HN
 exact VZ (fun n i=>DM n l m i) G7 l m (fun n i=>by rw [DM]) hl fun x hx y _=>Rt x y
structure ShardRedex.Ok (x:ShardRedex):Prop where
 a:Address.Ok x.a
 b:Address.Ok x.b
theorem ShardRedex.ok_of (x:ShardRedex) (h:Et (ShardRedex.ds x)):x.Ok:=by
 rw [ShardRedex.ds_eq] at h
 simp only [Et,D.ok,List.length_map] at h
 obtain⟨h1,h2,h3,h4,h5,h6,-⟩:=h
 exact⟨Address.ok_of _ (by rw [Address.ds_eq]; grind [Et,D.ok]),Address.ok_of _ (by rw [Address.ds_eq]; grind [Et,D.ok])⟩
theorem ShardRedex.eq_iff (x y:ShardRedex):x=y↔x.a=y.a∧x.b=y.b:=by
 cases x; cases y; grind
theorem PN (x y:ShardRedex):Bu (Ff x y) (x=y):=by
 unfold Ff
 exact Bu.iff (Af (D4 _ _) fun _=>Af (D4 _ _) fun _=>F9) (by rw [ShardRedex.eq_iff]; grind)
theorem OI (l m:List ShardRedex) (hl:l.length≤Big):Bu (GI l m) (l=m):=by
 unfold GI
 exact VZ (fun n i=>Ch n l m i) Ff l m (fun n i=>by rw [Ch]) hl fun x hx y _=>PN x y
structure Shard.Ok (x:Shard):Prop where
 cells:(x.cells.length≤9223372036854775807∧∀e ∈ x.cells,ShardCell.Ok e)
 vars:(x.vars.length≤9223372036854775807∧∀e ∈ x.vars,ShardVar.Ok e)
 redexes:(x.redexes.length≤9223372036854775807∧∀e ∈ x.redexes,ShardRedex.Ok e)
theorem Shard.ok_of (x:Shard) (h:Et (Shard.ds x)):x.Ok:=by
 rw [Shard.ds_eq] at h
 simp only [Et,D.ok,List.length_map] at h
 obtain⟨h1,h2,h3,-⟩:=h
 exact⟨⟨h1.1,fun e he=>ShardCell.ok_of e (FW h1.2 he)⟩,⟨h2.1,fun e he=>ShardVar.ok_of e (FW h2.2 he)⟩,⟨h3.1,fun e he=>ShardRedex.ok_of e (FW h3.2 he)⟩⟩
theorem Shard.eq_iff (x y:Shard):x=y↔x.cells=y.cells∧x.vars=y.vars∧x.redexes=y.redexes:=by
 cases x; cases y; grind
def Shard.sz (x:Shard):Nat:=szl ShardCell.sz x.cells+(x.vars.length+(x.redexes.length+0))
theorem Vb (x y:Shard) (h:x.sz≤Big):Bu (Jv x y) (x=y):=by
 unfold Jv
 exact Bu.iff (Af (PM _ _ (by grind [Shard.sz])) fun _=>Af (Qf _ _ (by grind [Shard.sz])) fun _=>Af (OI _ _ (by grind [Shard.sz])) fun _=>F9) (by rw [Shard.eq_iff]; grind)
theorem Us (l m:List Shard) (hl:szl Shard.sz l≤Big):Bu (KR l m) (l=m):=by
 unfold KR
 exact VZ (fun n i=>FL n l m i) Jv l m (fun n i=>by rw [FL]) (by grind [Aq]) fun x hx y _=>Vb x y (by grind [BD])
structure Grid.Ok (x:Grid):Prop where
 shards:(x.shards.length≤9223372036854775807∧∀e ∈ x.shards,Shard.Ok e)
 root:Address.Ok x.root
theorem Grid.ok_of (x:Grid) (h:Et (Grid.ds x)):x.Ok:=by
 rw [Grid.ds_eq] at h
 simp only [Et,D.ok,List.length_map] at h
 obtain⟨h1,h2,h3,h4,-⟩:=h
 exact⟨⟨h1.1,fun e he=>Shard.ok_of e (FW h1.2 he)⟩,Address.ok_of _ (by rw [Address.ds_eq]; grind [Et,D.ok])⟩
theorem Grid.eq_iff (x y:Grid):x=y↔x.shards=y.shards∧x.root=y.root:=by
 cases x; cases y; grind
def Grid.sz (x:Grid):Nat:=szl Shard.sz x.shards+0
theorem XQ (x y:Grid) (h:x.sz≤Big):Bu (NN x y) (x=y):=by
 unfold NN
 exact Bu.iff (Af (Us _ _ (by grind [Grid.sz])) fun _=>Af (D4 _ _) fun _=>F9) (by rw [Grid.eq_iff]; grind)
structure Parcel.Ok (x:Parcel):Prop where
 kind:(Lit.int IntKind.i64 x.kind).wf =true
 cell:ShardCell.Ok x.cell
 a:Address.Ok x.a
 b:Address.Ok x.b
theorem Parcel.ok_of (x:Parcel) (h:Et (Parcel.ds x)):x.Ok:=by
 rw [Parcel.ds_eq] at h
 simp only [Et,D.ok,List.length_map] at h
 obtain⟨h1,h2,h3,h4,h5,h6,h7,h8,h9,h10,h11,h12,-⟩:=h
 exact⟨h1,ShardCell.ok_of _ (by rw [ShardCell.ds_eq]; simp_all [Et,D.ok]),Address.ok_of _ (by rw [Address.ds_eq]; grind [Et,D.ok]),Address.ok_of _ (by rw [Address.ds_eq]; grind [Et,D.ok])⟩
theorem Parcel.eq_iff (x y:Parcel):x=y↔x.kind=y.kind∧x.cell=y.cell∧x.a=y.a∧x.b=y.b:=by
 cases x; cases y; grind
def Parcel.sz (x:Parcel):Nat:=x.cell.sz+0
theorem Ut (x y:Parcel) (h:x.sz≤Big):Bu (Ir x y) (x=y):=by
 unfold Ir
 exact Bu.iff (C2 IS fun _=>Af (Kw _ _ (by grind [Parcel.sz])) fun _=>Af (D4 _ _) fun _=>Af (D4 _ _) fun _=>F9) (by rw [Parcel.eq_iff]; grind)
theorem Sy (l m:List Parcel) (hl:szl Parcel.sz l≤Big):Bu (Hw l m) (l=m):=by
 unfold Hw
 exact VZ (fun n i=>Eb n l m i) Ir l m (fun n i=>by rw [Eb]) (by grind [Aq]) fun x hx y _=>Ut x y (by grind [BD])
theorem Ru (l m:List (List Parcel)) (hl:szl (szl Parcel.sz) l≤Big):Bu (IM l m) (l=m):=by
 unfold IM
 exact VZ (fun n i=>D3 n l m i) Hw l m (fun n i=>by rw [D3]) (by grind [Aq]) fun x hx y _=>Sy x y (by grind [BD])
theorem Sz (l m:List (List Int)) (hl:szl List.length l≤Big):Bu (JK l m) (l=m):=by
 unfold JK
 exact VZ (fun n i=>Ec n l m i) Fv l m (fun n i=>by rw [Ec]) (by grind [Aq]) fun x hx y _=>IT x y (by grind [BD])
structure Cluster.Ok (x:Cluster):Prop where
 grid:Grid.Ok x.grid
 channels:(x.channels.length≤9223372036854775807∧∀e ∈ x.channels,(e.length≤9223372036854775807∧∀ee ∈ e,Parcel.Ok ee))
 counts:(x.counts.length≤9223372036854775807∧∀e ∈ x.counts,(e.length≤9223372036854775807∧∀ee ∈ e,(Lit.int IntKind.i64 ee).wf =true))
 sent:(x.sent.length≤9223372036854775807∧∀e ∈ x.sent,(Lit.int IntKind.i64 e).wf =true)
 got:(x.got.length≤9223372036854775807∧∀e ∈ x.got,(Lit.int IntKind.i64 e).wf =true)
theorem Cluster.ok_of (x:Cluster) (h:Et (Cluster.ds x)):x.Ok:=by
 rw [Cluster.ds_eq] at h
 simp only [Et,D.ok,List.length_map] at h
 obtain⟨h1,h2,h3,h4,h5,h6,h7,h8,-⟩:=h
 exact⟨Grid.ok_of _ (by rw [Grid.ds_eq]; grind [Et,D.ok]),⟨h5.1,fun e he=>by have:=(FW h5.2 he); simp only [slD,Et,D.ok,List.length_map] at this; exact⟨this.1.1,fun e he=>Parcel.ok_of e (FW this.1.2 he)⟩⟩,⟨h6.1,fun e he=>by have:=(FW h6.2 he); simp only [slD,Et,D.ok,List.length_map] at this; exact⟨this.1.1,fun e he=>by grind [FW,AB,Et,D.ok]⟩⟩,⟨h7.1,fun e he=>by grind [FW,AB,Et,D.ok]⟩,⟨h8.1,fun e he=>by grind [FW,AB,Et,D.ok]⟩⟩
theorem Cluster.eq_iff (x y:Cluster):x=y↔x.grid=y.grid∧x.channels=y.channels∧x.counts=y.counts∧x.sent=y.sent∧x.got=y.got:=by
 cases x; cases y; grind
def Cluster.sz (x:Cluster):Nat:=x.grid.sz+(szl (szl Parcel.sz) x.channels+(szl List.length x.counts+(x.sent.length+(x.got.length+0))))
theorem S0 (x y:Cluster) (h:x.sz≤Big):Bu (JA x y) (x=y):=by
 unfold JA
 exact Bu.iff (Af (XQ _ _ (by grind [Cluster.sz])) fun _=>Af (Ru _ _ (by grind [Cluster.sz])) fun _=>Af (Sz _ _ (by grind [Cluster.sz])) fun _=>Af (IT _ _ (by grind [Cluster.sz])) fun _=>Af (IT _ _ (by grind [Cluster.sz])) fun _=>F9) (by rw [Cluster.eq_iff]; grind)
theorem Vc (l m:List Bool) (hl:l.length≤Big):Bu (Ld l m) (l=m):=by
 unfold Ld
 exact VZ (fun n i=>F7 n l m i) (fun x y=>some (x == y)) l m (fun n i=>by rw [F7]; rfl) hl fun x hx y _=>.mk beq_iff_eq
theorem Vd (l:List Address) (hl:l.length≤9223372036854775807) (h:∀x ∈ l,x.Ok) (left:Nat) (h1:left≤1048576):IF l left=some (szr l.length left):=by
 unfold IF
 exact Qd h1 hl fun _=>LA
theorem MJ (x:Address):Di x=some x:=by
 rfl
theorem Ve (l:List Address) (hl:l.length≤Big):II l=some l:=by
 unfold II
 exact gTo (fun n acc i=>D0 n l acc i) Di _ l (fun n acc i=>by rw [D0]) hl (fun x hx=>MJ x)
theorem NP (x:ShardCell) (h:x.Ok) (left:Nat) (h1:left≤1048576):FG x left=some (szr x.sz left):=by
 unfold FG ShardCell.sz
 exact F8 (Ku _ _ (by omega) h.data.1) fun _=>F8 (Vd _ h.aux.1 h.aux.2 _ (by omega)) fun _=>LA
theorem S1 (l:List ShardCell) (hl:l.length≤9223372036854775807) (h:∀x ∈ l,x.Ok) (left:Nat) (h1:left≤1048576):Gl l left=some (szr (szl ShardCell.sz l) left):=by
 unfold Gl
 exact gSz (fun n p i=>Cz n l p i) FG ShardCell.sz l (fun n p i=>by rw [Cz]) left h1 (fun x hx k hk=>NP x (h x hx) k hk) hl
theorem NQ (x:ShardCell) (h:x.sz≤Big):FI x=some x:=by
 unfold FI
 rw [Kv _ (by grind [ShardCell.sz]),AA]
 rw [Ve _ (by grind [ShardCell.sz]),AA]
 first|done|rfl
theorem S2 (l:List ShardCell) (hl:szl ShardCell.sz l≤Big):Gm l=some l:=by
 unfold Gm
 exact gTo (fun n acc i=>C0 n l acc i) FI _ l (fun n acc i=>by rw [C0]) (by grind [Aq]) (fun x hx=>NQ x (by grind [BD]))
theorem Uu (l:List ShardVar) (hl:l.length≤9223372036854775807) (h:∀x ∈ l,x.Ok) (left:Nat) (h1:left≤1048576):HL l left=some (szr l.length left):=by
 unfold HL
 exact Qd h1 hl fun _=>LA
theorem Vf (x:ShardVar):IJ x=some x:=by
 rfl
theorem Uv (l:List ShardVar) (hl:l.length≤Big):HM l=some l:=by
 unfold HM
 exact gTo (fun n acc i=>DL n l acc i) IJ _ l (fun n acc i=>by rw [DL]) hl (fun x hx=>Vf x)
theorem Rv (l:List ShardRedex) (hl:l.length≤9223372036854775807) (h:∀x ∈ l,x.Ok) (left:Nat) (h1:left≤1048576):GG l left=some (szr l.length left):=by
 unfold GG
 exact Qd h1 hl fun _=>LA
theorem S3 (x:ShardRedex):Gn x=some x:=by
 rfl
theorem Rw (l:List ShardRedex) (hl:l.length≤Big):GH l=some l:=by
 unfold GH
 exact gTo (fun n acc i=>Cg n l acc i) Gn _ l (fun n acc i=>by rw [Cg]) hl (fun x hx=>S3 x)
theorem aQ (x:Shard) (h:x.Ok) (left:Nat) (h1:left≤1048576):Jt x left=some (szr x.sz left):=by
 unfold Jt Shard.sz
 exact F8 (S1 _ h.cells.1 h.cells.2 _ (by omega)) fun _=>F8 (Uu _ h.vars.1 h.vars.2 _ (by omega)) fun _=>F8 (Rv _ h.redexes.1 h.redexes.2 _ (by omega)) fun _=>LA
theorem Y5 (l:List Shard) (hl:l.length≤9223372036854775807) (h:∀x ∈ l,x.Ok) (left:Nat) (h1:left≤1048576):KP l left=some (szr (szl Shard.sz l) left):=by
 unfold KP
 exact gSz (fun n p i=>FH n l p i) Jt Shard.sz l (fun n p i=>by rw [FH]) left h1 (fun x hx k hk=>aQ x (h x hx) k hk) hl
theorem aR (x:Shard) (h:x.sz≤Big):Ju x=some x:=by
 unfold Ju
 rw [S2 _ (by grind [Shard.sz]),AA]
 rw [Uv _ (by grind [Shard.sz]),AA]
 rw [Rw _ (by grind [Shard.sz]),AA]
 first|done|rfl
theorem Y6 (l:List Shard) (hl:szl Shard.sz l≤Big):KQ l=some l:=by
 unfold KQ
 exact gTo (fun n acc i=>FJ n l acc i) Ju _ l (fun n acc i=>by rw [FJ]) (by grind [Aq]) (fun x hx=>aR x (by grind [BD]))
theorem dv (x:Grid) (h:x.Ok) (left:Nat) (h1:left≤1048576):NL x left=some (szr x.sz left):=by
 unfold NL Grid.sz
 exact F8 (Y5 _ h.shards.1 h.shards.2 _ (by omega)) fun _=>LA
theorem dw (x:Grid) (h:x.sz≤Big):NM x=some x:=by
 simp_all [NM,Y6,Grid.sz,MJ]
theorem Y7 (x:Parcel) (h:x.Ok) (left:Nat) (h1:left≤1048576):Ip x left=some (szr x.sz left):=by
 unfold Ip Parcel.sz
 exact F8 (NP _ h.cell _ (by omega)) fun _=>LA
theorem XR (l:List Parcel) (hl:l.length≤9223372036854775807) (h:∀x ∈ l,x.Ok) (left:Nat) (h1:left≤1048576):Hu l left=some (szr (szl Parcel.sz l) left):=by
 unfold Hu
 exact gSz (fun n p i=>EX n l p i) Ip Parcel.sz l (fun n p i=>by rw [EX]) left h1 (fun x hx k hk=>Y7 x (h x hx) k hk) hl
theorem Y8 (x:Parcel) (h:x.sz≤Big):Iq x=some x:=by
 simp_all [Iq,NQ,Parcel.sz,MJ]
theorem XS (l:List Parcel) (hl:szl Parcel.sz l≤Big):Hv l=some l:=by
 unfold Hv
 exact gTo (fun n acc i=>EZ n l acc i) Iq _ l (fun n acc i=>by rw [EZ]) (by grind [Aq]) (fun x hx=>Y8 x (by grind [BD]))
theorem Vg (l:List (List Parcel)) (hl:l.length≤9223372036854775807) (h:∀x ∈ l,(x.length≤9223372036854775807∧∀e ∈ x,Parcel.Ok e)) (left:Nat) (h1:left≤1048576):IG l left=some (szr (szl (szl Parcel.sz) l) left):=by
 unfold IG
 exact gSz (fun n p i=>Dz n l p i) Hu (szl Parcel.sz) l (fun n p i=>by rw [Dz]) left h1 (fun x hx k hk=>XR x (h x hx).1 (h x hx).2 k hk) hl
theorem Vh (l:List (List Parcel)) (hl:szl (szl Parcel.sz) l≤Big):IK l=some l:=by
 unfold IK
 exact gTo (fun n acc i=>D1 n l acc i) Hv _ l (fun n acc i=>by rw [D1]) (by grind [Aq]) (fun x hx=>XS x (by grind [BD]))
theorem XT (l:List (List Int)) (hl:l.length≤9223372036854775807) (h:∀x ∈ l,(x.length≤9223372036854775807∧∀e ∈ x,(Lit.int IntKind.i64 e).wf =true)) (left:Nat) (h1:left≤1048576):JI l left=some (szr (szl List.length l) left):=by
 unfold JI
 exact gSz (fun n p i=>EY n l p i) Ft List.length l (fun n p i=>by rw [EY]) left h1 (fun x hx k hk=>Ku x k hk (h x hx).1) hl
theorem XU (l:List (List Int)) (hl:szl List.length l≤Big):JJ l=some l:=by
 unfold JJ
 exact gTo (fun n acc i=>Ea n l acc i) Fu _ l (fun n acc i=>by rw [Ea]) (by grind [Aq]) (fun x hx=>Kv x (by grind [BD]))
theorem XV (x:Cluster) (h:x.Ok) (left:Nat) (h1:left≤1048576):I6 x left=some (szr x.sz left):=by
 unfold I6 Cluster.sz
 exact F8 (dv _ h.grid _ (by omega)) fun _=>F8 (Vg _ h.channels.1 h.channels.2 _ (by omega)) fun _=>F8 (XT _ h.counts.1 h.counts.2 _ (by omega)) fun _=>F8 (Ku _ _ (by omega) h.sent.1) fun _=>F8 (Ku _ _ (by omega) h.got.1) fun _=>LA
theorem XW (x:Cluster) (h:x.sz≤Big):I8 x=some x:=by
 unfold I8
 rw [dw _ (by grind [Cluster.sz]),AA]
 rw [Vh _ (by grind [Cluster.sz]),AA]
 rw [XU _ (by grind [Cluster.sz]),AA]
 rw [Kv _ (by grind [Cluster.sz]),AA]
 rw [Kv _ (by grind [Cluster.sz]),AA]
 first|done|rfl
theorem aS (l:List Bool) (hl:l.length≤9223372036854775807) (h:∀x ∈ l,True) (left:Nat) (h1:left≤1048576):LZ l left=some (szr l.length left):=by
 unfold LZ
 exact Qd h1 hl fun _=>LA
theorem aT (l:List Bool) (hl:l.length≤Big):Lb l=some l:=by
 unfold Lb
 exact gTo (fun n acc i=>F6 n l acc i) some _ l (fun n acc i=>by rw [F6]; rfl) hl (fun x hx=>rfl)
end Go.Proofs.YtclmbjbbojdojaaGreat.Ab
