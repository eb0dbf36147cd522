/-
  Services: markers, and what both sides ask of a cluster without markers. No program is in sight.
-/
import Derived.Test.YtclmbjbbojdojaaGreatPlVo
import Derived.Test.YtclmbjbbojdojaaGreatModV
import Derived.Test.YtclmbjbbojdojaaGreatPlTV
namespace Go.Proofs.YtclmbjbbojdojaaGreat.Ab
set_option linter.unusedVariables false
set_option maxHeartbeats 1000000
set_option linter.unusedSimpArgs false
open Go.RowKit
def mkN:List Parcel→Nat
 | [] =>0
 |p::l=>(if p.kind=4 then 1 else 0)+mkN l
theorem aU:∀l:List Parcel,mkN l≤l.length
 | [] =>Nat.le_refl _
 |p::l=>by have:=aU l; rw [mkN,List.length_cons]; split <;> omega
theorem kK (l:List Parcel) (hl:l.length≤4194304):∀ (post pre:List Parcel) (n acc:Nat),l=pre++post→acc≤pre.length→post.length<n→C8 n l (acc:Int) (pre.length:Int)=some ((acc+mkN post:Nat):Int)
 | [],pre,n,acc,h,ha,hn=>by
  obtain⟨n,rfl⟩:∃k,n=k+1:=⟨n - 1,by omega⟩
  have hl':l.length=pre.length:=by rw [h,List.append_nil]
  rw [C8,decide_eq_false (by omega),if_neg Bool.false_ne_true]; rfl
 | p::post,pre,n,acc,h,ha,hn=>by
  rw [List.length_cons] at hn
  have hlt:pre.length<l.length:=by rw [h]; simp
  obtain⟨n,rfl⟩:∃k,n=k+1:=⟨n - 1,by omega⟩
  have e:Lg (decide (p.kind=4))=some (((if p.kind=4 then 1 else 0:Nat):Nat):Int):=by
   grind [Lg]
  have hw:IntKind.i64.wrap ((acc:Int)+(((if p.kind=4 then 1 else 0:Nat):Nat):Int))=((acc+(if p.kind=4 then 1 else 0):Nat):Int):=by
   split <;> rw [w64 (by omega) (by omega)] <;> omega
  rw [C8,decide_eq_true (by omega),if_pos rfl,Ak h,AA,e,AA,hw,AT h (by grind),kK l hl post (pre++[p]) n _ (Ba h) (by rw [List.length_append,List.length_singleton]; split <;> omega) (by omega),mkN,Nat.add_assoc]
theorem sMk (l:List Parcel) (hl:l.length≤4194304):H8 l=some ((mkN l:Nat):Int):=by
 have:=kK l hl l [] fuel 0 rfl (by omega) (by rw [Ax]; omega)
 rw [Nat.zero_add] at this
 exact this
theorem kL (l:List Parcel) (hl:l.length≤4194304):∀ (post pre:List Parcel) (n acc:Nat),l=pre++post→acc≤pre.length→post.length<n→E1 n l (acc:Int) (pre.length:Int)=some ((acc+mkN post:Nat):Int)
 | [],pre,n,acc,h,ha,hn=>by
  obtain⟨n,rfl⟩:∃k,n=k+1:=⟨n - 1,by omega⟩
  have hl':l.length=pre.length:=by rw [h,List.append_nil]
  rw [E1,decide_eq_false (by omega),if_neg Bool.false_ne_true]; rfl
 | p::post,pre,n,acc,h,ha,hn=>by
  rw [List.length_cons] at hn
  have hlt:pre.length<l.length:=by rw [h]; simp
  obtain⟨n,rfl⟩:∃k,n=k+1:=⟨n - 1,by omega⟩
  have e:Qc (decide (p.kind=4))=some (((if p.kind=4 then 1 else 0:Nat):Nat):Int):=by
   grind [Qc]
  have hw:IntKind.i64.wrap ((acc:Int)+(((if p.kind=4 then 1 else 0:Nat):Nat):Int))=((acc+(if p.kind=4 then 1 else 0):Nat):Int):=by
   split <;> rw [w64 (by omega) (by omega)] <;> omega
  rw [E1,decide_eq_true (by omega),if_pos rfl,Ak h,AA,e,AA,hw,AT h (by grind),kL l hl post (pre++[p]) n _ (Ba h) (by rw [List.length_append,List.length_singleton]; split <;> omega) (by omega),mkN,Nat.add_assoc]
theorem iMk (l:List Parcel) (hl:l.length≤4194304):Lc l=some ((mkN l:Nat):Int):=by
 have:=kL l hl l [] fuel 0 rfl (by omega) (by rw [Ax]; omega)
 rw [Nat.zero_add] at this
 exact this
def bareB (c:Cluster):Bool:=c.channels.all fun x=>decide (mkN x=0)
theorem jX (c:Cluster) (hc:c.Small):Dc c=some (!bareB c):=by
 have h1:=hc.chl
 unfold Dc
 rw [Hx A1 Ca (fun n l i f=>by rw [A1]) (fun l f=>rfl) c.channels _ (fun x=>decide (mkN x=0)) (by grind) (fun x hx=>?_),AA]
 ·rfl
 ·unfold ED
  rw [iMk x (hc.ch x hx).1,AA]
  grind [decide_eq_false]
theorem w1 {i:Nat} (h:i≤4194304):IntKind.i64.wrap ((i:Int)+1)=((i+1:Nat):Int):=by
 rw [w64 (by omega) (by omega)]; omega
theorem Li {c:Cluster} (h:clB c=true):1≤c.grid.shards.length∧c.grid.shards.length≤4∧c.channels.length=c.grid.shards.length*c.grid.shards.length:=by
 grind [clB,Jh,Jb]
theorem OA {α:Type} {w s:α→Nat} {C:Nat}:∀ {l:List α},(∀x,w x≤C*(1+s x))→szw w l≤C*szl s l
 | [],_=>by simp [szw,szl]
 |x::l,h=>by
  have h1:=OA (l:=l) h
  grind [szw,szl,Nat.mul_add]
theorem Shard.small_of {s:Shard} (h:s.sz≤1048576):s.Small:=by
 unfold Shard.sz at h
 have h1:=Aq ShardCell.sz s.cells
 refine⟨fun c hc=>?_,by omega,by omega,by omega⟩
 have:=BD (s:=ShardCell.sz) hc
 unfold ShardCell.sz at this h
 exact⟨by omega,by omega⟩
theorem aV {C:List (List Parcel)} (h:szl (szl Parcel.sz) C≤1048576):C.length≤4194304∧∀x ∈ C,x.length≤4194304∧∀p ∈ x,p.cell.Small:=by
 refine⟨by grind [Aq],fun x hx=>?_⟩
 have h1:=BD (s:=szl Parcel.sz) hx
 refine⟨by grind [Aq],fun p hp=>?_⟩
 have h2:=BD (s:=Parcel.sz) hp
 have h3:p.cell.sz≤1048576:=by
  have:p.sz=p.cell.sz+0:=rfl
  omega
 unfold ShardCell.sz at h3
 exact⟨by omega,by omega⟩
theorem jY {C:List (List Int)} (h:szl List.length C≤1048576):C.length≤4194304∧∀x ∈ C,x.length≤4194304:=by
 grind [Aq,BD]
theorem Shard.costs (s:Shard):Uw s≤4*(1+s.sz)∧Ux s≤4*(1+s.sz)∧Uy s≤4*(1+s.sz):=by
 grind [Aq,Uw,Ux,Uy,Shard.sz]
theorem Cluster.fits_of {c:Cluster} (h:c.sz≤1048576):c.Fits:=by
 unfold Cluster.sz Grid.sz at h
 have h1:=Aq Shard.sz c.grid.shards
 obtain⟨p1,p2⟩:=aV (C:=c.channels) (by omega)
 obtain⟨q1,q2⟩:=jY (C:=c.counts) (by omega)
 have w1:=OA (w:=Uw) (l:=c.grid.shards) (C:=4) (fun s=>(Shard.costs s).1)
 have w2:=OA (w:=Ux) (l:=c.grid.shards) (C:=4) (fun s=>(Shard.costs s).2.1)
 have w3:=OA (w:=Uy) (l:=c.grid.shards) (C:=4) (fun s=>(Shard.costs s).2.2)
 have w4:=OA (w:=fun x:List Parcel=>2+List.length x) (s:=szl Parcel.sz) (l:=c.channels) (C:=4) (fun x=>by grind [Aq])
 have w5:=OA (w:=fun x:List Parcel=>2+2*List.length x) (s:=szl Parcel.sz) (l:=c.channels) (C:=4) (fun x=>by grind [Aq])
 exact⟨⟨fun s hs=>Shard.small_of (by grind [BD]),by omega,by omega,p2,p1,by omega,q2,q1,by omega,by omega⟩,by omega,by omega,by omega⟩
end Go.Proofs.YtclmbjbbojdojaaGreat.Ab
