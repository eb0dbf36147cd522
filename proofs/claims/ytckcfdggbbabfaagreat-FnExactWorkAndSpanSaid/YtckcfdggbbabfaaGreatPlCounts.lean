/-
  Rounds: the sizes of the rounds. No program is in sight.
-/
import Derived.Test.YtckcfdggbbabfaaGreatPlRv
import Derived.Test.YtckcfdggbbabfaaGreatModV
namespace Go.Proofs.YtckcfdggbbabfaaGreat.Ab
set_option linter.unusedVariables false
set_option linter.unusedSimpArgs false
open Go.RowKit
theorem T6 {α:Type} (L:Nat→List α→Int→Int→Option Int) (f:α→Int) (hL:∀n l a i,L (n+1) l a i=(if (decide (i<((List.length l:Nat):Int)))=true then (Option.bind (at? l i) fun v=>L n l (IntKind.i64.wrap (a+f v)) (IntKind.i64.wrap (i+1))) else some a)) (l:List α) (h0:∀x ∈ l,0≤f x) (hs:(l.map f).sum ≤4294967296) (hl:l.length≤Big):L fuel l 0 0=some (l.map f).sum :=by
 have nn:∀m:List α,(∀x ∈ m,0≤f x)→0≤(m.map f).sum :=fun m hm=>(W5 _ fun y hy=>by
  obtain⟨x,hx,rfl⟩:=List.mem_map.1 hy
  exact hm x hx).1
 have loop:∀ (post pre:List α) (n:Nat),l=pre++post→post.length<n→L n l (pre.map f).sum ((List.length pre:Nat):Int)=some (l.map f).sum :=by
  intro post
  induction post with
  |nil=>
   intro pre n h hn
   obtain⟨n,rfl⟩:∃q,n=q+1:=⟨n - 1,by omega⟩
   rw [hL,CU h,if_neg (by simp),h,List.append_nil]
  |cons x post ih=>
   intro pre n h hn
   rw [List.length_cons] at hn
   obtain⟨n,rfl⟩:∃q,n=q+1:=⟨n - 1,by omega⟩
   have e:(l.map f).sum =(pre.map f).sum +(f x+(post.map f).sum):=by rw [h]; simp
   have p1:=nn pre fun y hy=>h0 y (by rw [h]; simp [hy])
   have p2:=nn post fun y hy=>h0 y (by rw [h]; simp [hy])
   have p3:=h0 x (by rw [h]; simp)
   have ih':=ih (pre++[x]) n (Ae h) (by omega)
   rw [List.map_append,List.map_singleton,List.sum_append,List.sum_singleton] at ih'
   rw [hL,CG h,if_pos rfl,BO h,AA,Ax h hl,w64 (by omega) (by omega)]
   exact ih'
 exact loop l [] fuel rfl (by rw [Ah]; unfold Big at hl; omega)
theorem bO {c} (h:CL c):GG (cntL c)=some (c.length:Int):=by
 obtain⟨h1,h2,h3⟩:=T7 h.2
 have hc:=h.1
 have hv:GF (cntL c)=some true:=by
  unfold GF
  rw [if_pos (by rw [h1]; rfl),MC (cntL c) _ (fun x=>decide (x<0)||decide (1000000000<x)) (by rw [h1]; unfold Big; omega) (fun x hx=>by unfold GN; by_cases e:x<0 <;> simp [e]),AA]
  have:(cntL c).any (fun x=>decide (x<0)||decide (1000000000<x))=false:=List.any_eq_false.2 fun x hx=>by have:=h2 x hx; simp; omega
  rw [this]; rfl
 have hm:(cntL c).map (fun x=>x)=cntL c:=List.map_id' _
 unfold GG
 rw [hv,AA,if_neg (by simp),T6 Co (fun x=>x) (fun n l a i=>by rw [Co]) (cntL c) (fun x hx=>(h2 x hx).1) (by rw [hm,h3]; omega) (by rw [h1]; unfold Big; omega),hm,h3]
def lenI (c:List Int):Int:=((List.length c:Nat):Int)
theorem bP (L:List (List Int)) (e:Int) (h:∀c ∈ L,CL c) (hl:L.length≤4000):CD fuel (L.map cntL,e) [] 0=some (L.map lenI,e):=by
 have loop:∀ (post pre:List (List Int)) (n:Nat),L=pre++post→post.length<n→CD n (L.map cntL,e) (pre.map lenI) ((List.length pre:Nat):Int)=some (L.map lenI,e):=by
  intro post
  induction post with
  |nil=>
   intro pre n hh hn
   obtain⟨n,rfl⟩:∃q,n=q+1:=⟨n - 1,by omega⟩
   rw [CD,if_neg (by rw [hh]; simp),hh,List.append_nil]
  |cons x post ih=>
   intro pre n hh hn
   rw [List.length_cons] at hn
   obtain⟨n,rfl⟩:∃q,n=q+1:=⟨n - 1,by omega⟩
   have h':L.map cntL=pre.map cntL++cntL x::post.map cntL:=by rw [hh]; simp
   have e1:((List.length pre:Nat):Int)=((List.length (pre.map cntL):Nat):Int):=by rw [List.length_map]
   have hp:pre.length<L.length:=by rw [hh]; simp
   have hx:=bO (h x (by rw [hh]; simp))
   have hat:at? (L.map cntL) ((List.length pre:Nat):Int)=some (cntL x):=by rw [e1]; exact BO h'
   have ih':=ih (pre++[x]) n (Ae hh) (by omega)
   rw [List.map_append,List.map_singleton] at ih'
   rw [CD,if_pos (by simp; omega),hat,AA,hx,AA,C2 (by simp; unfold Big; omega),AA,Ax hh (by unfold Big; omega)]
   exact ih'
 exact loop L [] fuel rfl (by rw [Ah]; omega)
theorem Rq (l:List Net) (n:Net) (b:Int) (hl:szl Net.sz l≤1048576) (hn:n.sz≤1048576):∃rs,En l n 600 b=some rs∧EA l n b=some (rs.1.map lenI,rs.2)∧(rs.2 ≠0→rs.1 =[])∧rs.1.length ≤4000∧∀c ∈ rs.1,CL c:=by
 obtain⟨rs,ri,e1,e2,h⟩:=QG l n b hl hn
 refine⟨rs,e1,?_⟩
 unfold EA
 rw [e2,AA]
 rcases h with ⟨h0,h1,rfl⟩|⟨h0,rfl,h2,h3⟩
 ·have e:ri=(([] :List (List Int)).map cntL,ri.2):=Prod.ext h1 rfl
  refine⟨?_,fun _=>h1,by rw [h1]; simp,by rw [h1]; simp⟩
  rw [e]
  simp only [h1]
  exact bP [] ri.2 (by simp) (by simp)
 ·refine⟨?_,fun e=>absurd h0 e,h2,h3⟩
  rw [h0]
  exact bP rs.1 0 h3 h2
end Go.Proofs.YtckcfdggbbabfaaGreat.Ab
