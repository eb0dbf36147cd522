/-
  (impl.scope).find: the loop over slices.Backward, in plain words of the world. Turned from the kit's worked proofs on iterators.
-/
import Derived.RangeFuncBox
import Derived.RangeFuncLeaves
import Derived.RangeFuncCalls
import Derived.Shelf.Abstract
import Derived.WalkKit
import Derived.OwnWalkIn
import Derived.TacticsInMore
import Derived.LoopNIn
import Derived.LoopIn
import Derived.Maps.AppendAt
import Derived.Test.YtnfgeocnolheoaaGreatAbY
import Derived.Test.YtnfgeocnolheoaaGreatTi2
import Derived.Test.YtnfgeocnolheoaaGreatModT
import Derived.Lib.AppendZeros
namespace Go.Proofs.YtnfgeocnolheoaaGreat.Bw
set_option linter.unusedVariables false
set_option linter.unusedSimpArgs false
open Go Go.Proofs Go.RowKit Go.Shelf
attribute [local go_sem] Oper.semAt_some
def upto (len k:Nat):List Nat:=(List.range k).map fun j=>len - 1 - j
theorem Uf (len k:Nat):upto len (k+1)=upto len k++[len - 1 - k] :=by simp [upto,List.range_succ]
theorem XF (len k:Nat):(upto len k).length =k:=by simp [upto]
def enc (us:List Value) {len:Nat} (x:Fin len):Array Value:= #[.int .i64 (x.val:Int),us[x.val]?.getD undef]
set_option maxRecDepth 100000 in
set_option maxHeartbeats 2000000 in
theorem bw1 (F:Fence) (n:Nat) (h7:F.fn 176) (hro:F.round=none) (hn:1≤n) (l Bs n₀ b off len cap:Nat) (us:List Value) (hlen:len≤1000000) (hb:b<n₀) (hBs0:Bs<n₀) (J Jx:List (Fin len)→World→Prop)
    (hY:∀pre x W,J pre W→pre.length<len→YieldAt F (n - 1) Tryz.prog l (enc us x) W fun e W'=>
      (e= .returned (.bool true)∧J (pre++[x]) W'∧Below n₀ W W')∨(e= .returned (.bool false)∧Jx (pre++[x]) W'))
    (W:World) (hBs:W.cell? ⟨Bs,0,none⟩=some (.slice (some ⟨b,off,none⟩) len cap)) (hc:∀j,j<len→W.cell? ⟨b,off+j,none⟩=some (us[j]?.getD undef)) (h0:J [] W):
    CallsIn F n Tryz.prog 176 #[.func (.yield l) #[] #[],.pointer (some ⟨Bs,0,none⟩)] W fun e W'=>(∃v,e= .returned v)∧
      ((∃ys:List (Fin len),ys.map (·.val)=upto len len∧J ys W')∨(∃pre:List (Fin len),(∃k,k≤len∧pre.map (·.val)=upto len k)∧Jx pre W')):=by
  refine callsIn_of_wp Tryz.func176 rfl h7 ?_ hro
  simp only [Tryz.ntmps176,List.size_toArray,List.length_cons,List.length_nil,Nat.reduceAdd,Nat.reduceSub,Array.replicate_succ,Array.replicate_zero,List.push_toArray,List.append_toArray,List.nil_append,List.cons_append]
  have hw0:Go.RowKit.wrap64 ((len:Int) - 1)=(len:Int) - 1:=by unfold Go.RowKit.wrap64; omega
  gi_wp2
  gi_loopw [3] (fun i wr=>∃k:Nat,k≤len∧i= .int .i64 ((len:Int) - 1 - k)∧(∃pre:List (Fin len),pre.map (·.val)=upto len k∧J pre wr)∧Below n₀ W wr)
    (fun i _=>(intOf i+1).toNat)
  case atStart=>exact⟨0,Nat.zero_le _,by simp,⟨[],rfl,h0⟩,Below.refl _ _⟩
  case round=>
    obtain⟨k,hk,rfl,⟨pre,hpre,hJs⟩,hnx⟩:=hrel
    have hBs':=(hnx.cell (p:=⟨Bs,0,none⟩) hBs0).trans hBs
    have hpl:pre.length=k:=by rw [← List.length_map (f:=fun x:Fin len=>x.val),hpre,XF]
    by_cases hlt:k<len
    · obtain⟨q,hq⟩:∃q:Nat,q=len - 1 - k:=⟨_,rfl⟩
      have hqi:(len:Int) - 1 - k=(q:Int):=by omega
      have hql':q<len:=by omega
      have hcx:wr.cell? ⟨b,off+q,none⟩=some (us[q]?.getD undef):=(hnx.cell (p:=⟨b,off+q,none⟩) hb).trans (hc q hql')
      obtain⟨fn,tmps,assign,body,hy,hR⟩:=hY pre ⟨q,hql'⟩ wr hJs (by rw [hpl]; exact hlt)
      unfold enc at hy
      dsimp only at hy
      rw [hqi]
      have hql:(q:Int)<(len:Int):=by omega
      have hq0:(0:Int)≤(q:Int):=by omega
      have hw1:Go.RowKit.wrap64 ((q:Int) - 1)=(q:Int) - 1:=by unfold Go.RowKit.wrap64; omega
      have hpre':(pre++[(⟨q,hql'⟩:Fin len)]).map (·.val)=upto len (k+1):=by rw [List.map_append,hpre,Uf,← hq]; rfl
      clear hq
      gi_wp2
      refine hR.mono ?_
      rintro e W3 (⟨rfl,hJ3,hk3⟩|⟨rfl,hJx3⟩)
      · gi_wp2
        go_roundw
        case rel=>exact⟨k+1,by omega,by congr 1; omega,⟨_,hpre',hJ3⟩,hnx.trans hk3⟩
        case measure=>simp [intOf]
      · gi_wp2
        refine bodyPost_ret (results_none rfl _ _ _) rfl ?_
        exact⟨⟨_,rfl⟩,.inr ⟨_,⟨k+1,by omega,hpre'⟩,hJx3⟩⟩
    · obtain rfl:k=len:=by omega
      have hneg:¬ ((0:Int)≤(k:Int) - 1 - k):=by omega
      gi_wp2
      go_end0
      exact⟨⟨_,rfl⟩,.inl ⟨pre,hpre,hJs⟩⟩
set_option maxRecDepth 100000 in
set_option maxHeartbeats 1000000 in
theorem gT (F:Fence) (n:Nat) (h7:F.fn 176) (hro:F.round=none) (l Bs:Nat) (a:Option Addr) (c:Nat) {α:Type} (J:List α→World→Prop) (W:World) (hBs:W.cell? ⟨Bs,0,none⟩=some (.slice a 0 c)) (h0:J [] W):
    CallsIn F n Tryz.prog 176 #[.func (.yield l) #[] #[],.pointer (some ⟨Bs,0,none⟩)] W fun e W'=>(∃v,e= .returned v)∧J [] W':=by
  refine callsIn_of_wp Tryz.func176 rfl h7 ?_ hro
  simp only [Tryz.ntmps176,List.size_toArray,List.length_cons,List.length_nil,Nat.reduceAdd,Nat.reduceSub,Array.replicate_succ,Array.replicate_zero,List.push_toArray,List.append_toArray,List.nil_append,List.cons_append]
  have hw0:Go.RowKit.wrap64 (0 - 1)= -1:=by unfold Go.RowKit.wrap64; omega
  gi_wp2
  gi_loopw [3] (fun i wr=>i= .int .i64 (-1)∧J [] wr) (fun _ _=>0)
  case atStart=>exact⟨rfl,h0⟩
  case round=>
    obtain⟨rfl,hJs⟩:=hrel
    gi_wp2
    go_end0
    exact⟨⟨_,rfl⟩,hJs⟩
set_option maxHeartbeats 1000000 in
theorem nI (F:Fence) (n:Nat) (h6:F.fn 158) (hro:F.round=none) (a:Option Addr) (len cap:Nat) (w:World):
    CallsIn F n Tryz.prog 158 #[.slice a len cap] w fun e w'=>e= .returned (.func (.func 176) #[] #[.pointer (some ⟨w.heap.size,0,none⟩)])∧w'=w.alloc (.cells #[.slice a len cap] 128):=by
  refine callsIn_of_wp Tryz.func158 rfl h6 ?_ hro
  simp only [Tryz.ntmps158,List.size_toArray,List.length_cons,List.length_nil,Nat.reduceAdd,Nat.reduceSub,Array.replicate_succ,Array.replicate_zero,List.push_toArray,List.append_toArray,List.nil_append,List.cons_append]
  gi_wp2
  go_ret
  exact⟨rfl,rfl⟩
def Vals (n₀:Nat) (W:World) (sv:Value) (us:List Value):Prop:=
  (∃a c,sv= .slice a 0 c∧us=[])∨∃b off cap,sv= .slice (some ⟨b,off,none⟩) us.length cap∧b<n₀∧∀j,j<us.length→W.cell? ⟨b,off+j,none⟩=some (us[j]?.getD undef)
theorem Vals.below {n₀:Nat} {A B:World} (h:Below n₀ A B) {sv:Value} {us:List Value}:Vals n₀ A sv us→Vals n₀ B sv us
  | .inl e=>.inl e
  | .inr ⟨b,off,cap,e,hb,hc⟩=>.inr ⟨b,off,cap,e,hb,fun j hj=>(h.cell (p:=⟨b,off+j,none⟩) hb).trans (hc j hj)⟩
theorem d8 (F:Fence) (n:Nat) (h7:F.fn 176) (hro:F.round=none) (hn:1≤n) (Bs n₀:Nat) (sv:Value) (us:List Value) (hlen:us.length≤1000000) (w:World) (hBs:Bs<n₀) (hn₀:n₀≤w.heap.size)
    (hc:w.cell? ⟨Bs,0,none⟩=some sv) (hI:Vals n₀ w sv us):
    SeqStopsK F n Tryz.prog 176 #[.pointer (some ⟨Bs,0,none⟩)] (fun x:Fin us.length=>enc us x) (Below n₀) (fun ys=>ys.map (·.val)=upto us.length us.length) (fun pre=>∃k,k≤us.length∧pre.map (·.val)=upto us.length k) us.length w:=fun l J Jx W hW _ _ hY h0=>by
  have hc':=(hW.cell (p:=⟨Bs,0,none⟩) (Nat.lt_of_lt_of_le hBs hn₀)).trans hc
  rcases hI.below (hW.mono hn₀) with ⟨a,c,rfl,rfl⟩|⟨b,off,cap,rfl,hb,hcs⟩
  · exact(gT F n h7 hro l Bs a c J W hc' h0).mono fun e W' ⟨he,hj⟩=>⟨he,.inl ⟨[],rfl,hj⟩⟩
  · exact bw1 F n h7 hro hn l Bs n₀ b off us.length cap us hlen hb hBs J Jx hY W hc' hcs h0
set_option maxRecDepth 100000 in
set_option maxHeartbeats 4000000 in
theorem find_in (F:Fence) (n:Nat) (h4:F.fn 124) (h6:F.fn 158) (h8:F.fn 176) (hro:F.round=none) (hn:3≤n) (a:Option Addr) (len cap:Nat) (us:List Value) (nm:List ByteArray) (x:ByteArray) (w:World)
    (hus:us.length=len) (hlen:us.length≤1000000) (hI:Vals w.heap.size w (.slice a len cap) us) (hp:∀j,j<us.length→∃g o s,us[j]?.getD undef= .pointer (some ⟨g,o,none⟩)∧nm[j]? =some s∧w.cell? ⟨g,o,none⟩=some (.string s)):
    CallsIn F n Tryz.prog 124 #[.slice a len cap,.string x] w fun e W'=>
      ((e= .returned (.pointer none)∧∀j s,nm[j]? =some s→j<us.length→(s.toList == x.toList)=false)∨
        (∃k s,k<us.length∧e= .returned (us[k]?.getD undef)∧nm[k]? =some s∧(s.toList == x.toList)=true∧∀j s,k<j→nm[j]? =some s→j<us.length→(s.toList == x.toList)=false))∧Below w.heap.size w W':=by
  have h1:1≤n:=by omega
  subst hus
  refine callsIn_of_wp_marks Tryz.func124 rfl h4 ?_ hro
  simp only [Tryz.ntmps124,List.size_toArray,List.length_cons,List.length_nil,Nat.reduceAdd,Nat.reduceSub,Array.replicate_succ,Array.replicate_zero,List.push_toArray,List.append_toArray,List.nil_append,List.cons_append]
  gi_wp2_with (gi_at_call 158; refine(nI F (n - 1) h6 hro _ _ _ _).mono ?_; rintro e w' ⟨rfl,rfl⟩)
  have bX:=Boxed.new w 9 (.string x)
  have bR:=Boxed.new (w.alloc (.cells #[.string x] 9)) 76 (.pointer none)
  have bN:=Boxed.new ((w.alloc (.cells #[.string x] 9)).alloc (.cells #[.pointer none] 76)) 128 (.slice a us.length cap)
  simp only [World.size_alloc] at bR bN
  have hB0:Below w.heap.size w (((w.alloc (.cells #[.string x] 9)).alloc (.cells #[.pointer none] 76)).alloc (.cells #[.slice a us.length cap] 128)):=(((Below.refl _ w).alloc (Nat.le_refl _) _).alloc (by simp) _).alloc (by simp; omega) _
  refine wpIn_rangeFunc_ownG hro h1 (gf:=176) (lb:= #[.pointer (some ⟨w.heap.size+1+1,0,none⟩)]) rfl h8 (enters_of Tryz.func176 (by kernel_rfl) rfl)
    (d8 F (n - 1) h8 hro (by omega) (w.heap.size+1+1) (w.heap.size+3) _ us hlen _ (by omega) (by simp) bN.cell (hI.below hB0 |>.imp id fun ⟨b,off,cap,e,hb,hc⟩=>⟨b,off,cap,e,by omega,hc⟩)) belowK_t (belowK_b (by simp)) (Below.refl _ _) (fun _=>rfl)
    (fun pre W=>((∀p ∈ pre,∀s,nm[p.val]? =some s→(s.toList == x.toList)=false)∧W.cell? ⟨w.heap.size,0,none⟩=some (.string x)∧W.cell? ⟨w.heap.size+1,0,none⟩=some (.pointer none)∧W.frozen? ⟨w.heap.size+1,0,none⟩=false)∧Below w.heap.size w W)
    (fun c pre W=>(c= .ret ∧∃ini last s,pre=ini++[last] ∧(∀p ∈ ini,∀s,nm[p.val]? =some s→(s.toList == x.toList)=false)∧nm[last.val]? =some s∧(s.toList == x.toList)=true∧W.cell? ⟨w.heap.size+1,0,none⟩=some (us[last.val]?.getD undef))∧Below w.heap.size w W)
    (OwnFrom.and (Own.from (fun s A B row hs hg hr=>⟨hs.1,cell_kept hs.2.1 hg hr,cell_kept hs.2.2.1 hg hr,(frozen_kept hs.2.2.1 hg hr).trans hs.2.2.2⟩) _) (ownFrom_below (Nat.le_refl _) (by simp; omega)))
    (fun c=>OwnFrom.and (Own.from (fun s A B row hs hg hr=>by obtain⟨hc,ini,last,s,e1,e2,e3,e4,e5⟩:=hs; exact⟨hc,ini,last,s,e1,e2,e3,e4,cell_kept e5 hg hr⟩) _) (ownFrom_below (Nat.le_refl _) (by simp; omega)))
    ⟨⟨by simp,((bX.alloc _).alloc _).cell,(bR.alloc _).cell,(bR.alloc _).frozen⟩,hB0⟩
    (fun y=> {tmps:= #[.slice a us.length cap,.string x,undef,.pointer (some ⟨w.heap.size,0,none⟩),.pointer (some ⟨w.heap.size+1,0,none⟩),undef,us[y.val]?.getD undef,.slice a us.length cap,.func (.func 176) #[] #[.pointer (some ⟨w.heap.size+1+1,0,none⟩)],.int .i64 (y.val:Int),us[y.val]?.getD undef,undef,undef,undef,undef,undef,undef,undef],defers:=[]}) ?assign ?body ?done ?stop
  case assign=>
    intro l y W K hK
    unfold enc
    gi_wp2
    have e:us[y.val]?.getD undef=us[y.val]'(y.isLt):=by simp
    rw [e] at hK
    exact hK
  case body=>
    rintro l pre y W ⟨⟨hq,hcx,hcr,hfr⟩,hB⟩ _
    obtain⟨g,o,s,hu,hs,hcell⟩:=hp y.val y.isLt
    have hcell':W.cell? ⟨g,o,none⟩=some (.string s):=(hB.cell (p:=⟨g,o,none⟩) (World.block_lt_of_cell? w _ hcell)).trans hcell
    rw [hu]
    gi_wp2
    gi_region
    all_goals gi_wp2
    all_goals
      first
        | (have hx:(s.toList == x.toList)=true:=by assumption
           exact⟨((KeepsOthers.setCell _ _ _).trans (KeepsOthers.drew _)).from _,⟨rfl,pre,y,s,rfl,hq,hs,hx,by rw [hu]; exact World.cell?_setCell_same' _ _ _ (by rw [hcr]; rfl)⟩,(hB.setCell (p:=⟨w.heap.size+1,0,none⟩) (by simp) _).drew⟩)
        | (have hx:(s.toList == x.toList)=false:=by first|assumption|(simp only [Bool.not_eq_true] at*; assumption)
           exact⟨(KeepsOthers.drew _).from _,(Below.refl _ _).drew,⟨fun p hp' t ht=>(List.mem_append.1 hp').elim (fun h=>hq p h t ht) (fun e=>by simp at e; subst e; rw [hs] at ht; cases ht; exact hx),hcx,hcr,hfr⟩,hB.drew⟩)
  case done=>
    rintro D ys W hD hys ⟨⟨hne,hcx,hcr,hfr⟩,hB⟩ hK
    gi_wp2
    have hK':=(KeepsOthers.setCell W ⟨w.heap.size+1,0,none⟩ (.pointer none)).same D _ hK rfl
    refine⟨by simp,.inl ⟨_,_,rfl,run_takeDeferred hK',?_⟩⟩
    have hc5:=cell_kept (World.cell?_setCell_same' W ⟨w.heap.size+1,0,none⟩ (.pointer none) (by rw [hcr]; rfl)) (grownBy_putObj' _ D (.deferred none)) (fun r e=>by cases e; exact⟨_,hK',rfl⟩)
    refine⟨.pointer none,?_,.inl ⟨rfl,fun j s hs hj=>?_⟩,(hB.setCell (p:=⟨w.heap.size+1,0,none⟩) (by simp) _).trans (belowK_b (w:=w) (Nat.le_refl _) _ D _ _ (by simp at hD; omega) hK' rfl rfl)⟩
    · simp [results,Tryz.f124,go_sem,hc5]
    · have hm:j ∈ ys.map (·.val):=by
        rw [hys]; unfold upto; rw [List.mem_map]
        exact⟨us.length - 1 - j,List.mem_range.2 (by omega),by omega⟩
      obtain⟨p,hp1,rfl⟩:=List.mem_map.1 hm
      exact hne p hp1 s hs
  case stop=>
    rintro D c pre W hD ⟨k,hk,hpre⟩ ⟨⟨rfl,ini,last,s,e1,e2,e3,e4,hcr⟩,hB⟩ hK
    gi_wp2
    refine⟨by simp,.inl ⟨_,_,rfl,run_takeDeferred hK,?_⟩⟩
    have hc5:=cell_kept hcr (grownBy_putObj' _ D (.deferred none)) (fun r e=>by cases e; exact⟨_,hK,rfl⟩)
    subst e1
    obtain⟨k',rfl⟩:∃k',k=k'+1:=by
      cases k with
      |zero=>simp [upto] at hpre
      |succ k'=>exact⟨k',rfl⟩
    rw [List.map_append,Uf] at hpre
    obtain⟨h5,h6⟩:=List.append_inj' hpre rfl
    have h7:last.val=us.length - 1 - k':=by simpa using h6
    refine⟨us[last.val]?.getD undef,?_,.inr ⟨last.val,s,last.isLt,rfl,e3,e4,fun j s' hj hs' hj'=>?_⟩,hB.trans (belowK_b (w:=w) (Nat.le_refl _) W D _ _ (by simp at hD; omega) hK rfl rfl)⟩
    · simp [results,Tryz.f124,go_sem,hc5]
    · have hm:j ∈ ini.map (·.val):=by
        rw [h5]; unfold upto; rw [List.mem_map]
        exact⟨us.length - 1 - j,List.mem_range.2 (by omega),by omega⟩
      obtain⟨p,hp1,rfl⟩:=List.mem_map.1 hm
      exact e2 p hp1 s' hs'
end Go.Proofs.YtnfgeocnolheoaaGreat.Bw
namespace Go.Proofs.YtnfgeocnolheoaaGreat.Ab
set_option linter.unusedVariables false
set_option linter.unusedSimpArgs false
set_option maxRecDepth 20000
open Go Go.Proofs Go.RowKit Go.Shelf
theorem OQ {x:ByteArray}:∀ {s:List Binder},(∀ (j:Nat) (t:ByteArray),(s.map (·.name))[j]? =some t→sameStr t x=false)→findB s x=none
 | [],_=>rfl
 |b::s,h=>by
  have h1:=OQ (s:=s) (fun j t ht=>h (j+1) t (by simpa using ht))
  have h2:=h 0 b.name rfl
  rw [findB,h1]
  simp [h2]
theorem Sy {x:ByteArray}:∀ {s:List Binder} {k:Nat} {b:Binder},s[k]? =some b→sameStr b.name x=true→(∀ (j:Nat) (t:ByteArray),k<j→(s.map (·.name))[j]? =some t→sameStr t x=false)→findB s x=some b
 | [],k,b,hb,_,_=>by simp at hb
 |c::s,0,b,hb,hx,h=>by
  have h1:=OQ (s:=s) (x:=x) (fun j t ht=>h (j+1) t (by omega) (by simpa using ht))
  simp only [List.getElem?_cons_zero,Option.some.injEq] at hb
  subst hb
  rw [findB,h1]
  simp [hx]
 |c::s,k+1,b,hb,hx,h=>by
  have h1:=Sy (s:=s) (k:=k) (b:=b) (by simpa using hb) hx (fun j t hj ht=>h (j+1) t (by omega) (by simpa using ht))
  rw [findB,h1]
theorem Sz {α:Type} {f:α→List D} {V:World} {sz b:Nat}:∀ {xs:List α} {off:Nat},RepR V sz b off (xs.map (pD f))→∃us:List Value,us.length=xs.length∧∀j x,xs[j]? =some x→∃u,us[j]? =some u∧V.cell? ⟨b,off+j,none⟩=some u∧Rep V (.ptr (f x)) u
 | [],off,_=>⟨[],rfl,fun j x h=>by simp at h⟩
 | y::xs,off,h=>by
  simp only [List.map_cons,RepR,pD,RepC] at h
  obtain⟨hsz,⟨⟨u,h1,h2⟩,-⟩,h3⟩:=h
  obtain rfl:sz=1:=by rw [← hsz]; rfl
  obtain⟨us,k1,k2⟩:=Sz h3
  refine⟨u::us,by simp [k1],fun j x hx=>?_⟩
  cases j with
  |zero=>simp only [List.getElem?_cons_zero,Option.some.injEq] at hx; subst hx; exact⟨u,rfl,h1,h2⟩
  |succ j=>
   obtain⟨v,v1,v2,v3⟩:=k2 j x (by simpa using hx)
   exact⟨v,by simpa using v1,by rw [show off+(j+1)=off+1+j from by omega]; exact v2,v3⟩
theorem XG {α:Type} {f:α→List D} {V:World} {b:Nat}:∀ {xs:List α} {off:Nat},(∀j x,xs[j]? =some x→∃u,V.cell? ⟨b,off+j,none⟩=some u∧Rep V (.ptr (f x)) u)→RepR V 1 b off (xs.map (pD f))
 | [],off,_=>by simp only [List.map_nil,RepR]
 |y::xs,off,h=>by
  simp only [List.map_cons,RepR,pD,RepC]
  obtain⟨u,h1,h2⟩:=h 0 y rfl
  refine⟨rfl,⟨⟨u,by simpa using h1,h2⟩,trivial⟩,XG fun j x hx=>?_⟩
  obtain⟨v,v1,v2⟩:=h (j+1) x (by simpa using hx)
  exact⟨v,by rw [show off+1+j=off+(j+1) from by omega]; exact v1,v2⟩
set_option maxHeartbeats 1000000 in
theorem Lr (a0:List Binder) (a1:ByteArray) (r:Option Binder) (h:Ha a0 a1=some r):
  AG Tryz.prog 124 [.ro (a0.map (pD Binder.ds)),.str a1] [] [] (nop Binder.avs r) [] [] :=by
 unfold Ha at h
 split at h
 case isFalse=>cases h
 rename_i hlen
 cases h
 refine⟨by kernel_rfl,fun cx γ us hP hg0 htl hbl hs hv=>?_⟩
 simp only [AI,VSim] at hv
 obtain⟨u,us',rfl,hrep,u2,us2,rfl,⟨rfl,-⟩,rfl⟩:=hv
 simp only [Rep] at hrep
 obtain⟨a,c,rfl,h1,h2,h3⟩:=hrep
 rw [List.length_map] at h1 ⊢
 have hk:=hs.vw.k
 obtain⟨vs,hvl,hI,hvs⟩:∃vs:List Value,vs.length=a0.length∧Bw.Vals cx.we.heap.size cx.we (.slice a a0.length c) vs∧∀j x,a0[j]? =some x→∃u,vs[j]? =some u∧Rep γ.vw (.ptr (Binder.ds x)) u:=by
  rcases h3 with h3|⟨sz,b,off,rfl,hr⟩
  ·obtain rfl:=List.map_eq_nil_iff.1 h3
   exact⟨[],rfl,.inl ⟨a,c,rfl,rfl⟩,fun j x hx=>(List.not_mem_nil (List.mem_of_getElem? hx)).elim⟩
  ·obtain⟨vs,k1,k2⟩:=Sz hr
   by_cases hne:a0=[]
   ·subst hne; exact⟨[],rfl,.inl ⟨_,c,rfl,rfl⟩,fun j x hx=>(List.not_mem_nil (List.mem_of_getElem? hx)).elim⟩
   ·have hpos:0<a0.length:=List.length_pos_iff.2 hne
    obtain⟨u0,-,v2,-⟩:=k2 0 _ (List.getElem?_eq_getElem hpos)
    refine⟨vs,k1,.inr ⟨b,off,c,by rw [k1],World.block_lt_of_cell? cx.we _ (hk _ _ v2),fun j hj=>?_⟩,fun j x hx=>by obtain⟨u,v1,-,v3⟩:=k2 j x hx; exact⟨u,v1,v3⟩⟩
    obtain⟨u,v1,v2,-⟩:=k2 j _ (List.getElem?_eq_getElem (by omega))
    rw [v1]; exact hk _ _ v2
 have hp:∀j,j<vs.length→∃g o s,vs[j]?.getD undef= .pointer (some ⟨g,o,none⟩)∧(a0.map (·.name))[j]? =some s∧cx.we.cell? ⟨g,o,none⟩=some (.string s):=fun j hj=>by
  have hx:a0[j]? =some a0[j] :=List.getElem?_eq_getElem (by omega)
  obtain⟨u,v1,v2⟩:=hvs j _ hx
  simp only [Rep] at v2
  obtain⟨g,o,rfl,hr⟩:=v2
  rw [Binder.ds_eq] at hr
  simp only [RepC,Rep] at hr
  obtain⟨⟨u0,c1,rfl,-⟩,-⟩:=hr
  exact⟨g,o,_,by rw [v1]; rfl,by rw [List.getElem?_map,hx]; rfl,hk _ _ c1⟩
 have hcon:=callsIn_wide.1 (Bw.find_in Fence.wide 5 trivial trivial trivial rfl (by omega) a a0.length c vs (a0.map (·.name)) a1 cx.we hvl (by omega) hI hp)
 refine(show Calls Tryz.prog 124 #[.slice a a0.length c,.string a1] cx.we _ from hcon).mono ?_
 rintro e w' ⟨⟨rfl,hno⟩|⟨k,s,hkl,rfl,hs1,hs2,hs3⟩,hb⟩
 ·refine⟨_,γ,rfl,hs.below hb,?_⟩
  have:findB a0 a1=none:=OQ fun j t ht=>hno j t ht (by
   have:=(List.getElem?_eq_some_iff.1 ht).1
   rw [List.length_map] at this; omega)
  rw [this]
  simp only [nop,VSim]
 ·have hx:a0[k]? =some a0[k] :=List.getElem?_eq_getElem (by omega)
  have e1:a0[k].name =s:=by
   rw [List.getElem?_map,hx] at hs1
   exact Option.some.inj hs1
  have hf:findB a0 a1=some a0[k] :=Sy hx (by rw [e1]; exact hs2) fun j t hj ht=>hs3 j t hj ht (by
   have:=(List.getElem?_eq_some_iff.1 ht).1
   rw [List.length_map] at this; omega)
  obtain⟨u,v1,v2⟩:=hvs k _ hx
  refine⟨_,γ,rfl,hs.below hb,?_⟩
  rw [hf,v1]
  have:=VSim.of_rep (γ:=γ) v2
  rw [ofD,Binder.nopx.a] at this
  exact this
section
variable {cx:Cx} {γ:Gh} {w:World}
theorem gU {w':World} (hs:OSim cx γ (look []) (look []) w) (hwe:w=cx.we) (hb:Below w.heap.size w w') (htl:∀t,¬γ.tl t) (hbl:∀b,¬γ.bl b):
  ∃W,AS γ.vw W∧OSim cx (γ.grow W) (look []) (look []) w'∧W.heap[w.heap.size]? =w'.heap[w.heap.size]? :=by
 have hg:=(hs.below hb).grow (F:=fun g=>g=w.heap.size) (T':=look []) (B':=look []) (fun _ _ _ h=>h) (fun _ _ _ h=>h) (fun g hg o=>Nt hs.vw.k (by omega)) (fun t _ ht=>absurd ht (htl t)) (fun b _ hb'=>absurd hb' (hbl b)) (fun g hg=>.inl (by subst hwe; omega))
 refine⟨_,SE (hs.below hb).vw.k fun g hg o=>Nt hs.vw.k (by omega),hg,P0 rfl⟩
end
theorem jg:(Tryz.prog.info? 76).map (fun i=>(i.zero,i.size,i.bytes))=some (some (.pointer none),1,8):=by kernel_rfl
theorem nJ:∃i0,Tryz.prog.info? 76=some i0∧i0.zero=some (.pointer none)∧i0.size=1∧i0.bytes=8:=by
 obtain⟨i,hi,hzz⟩:=Option.map_eq_some_iff.1 jg
 simp only [Prod.mk.injEq] at hzz
 exact⟨i,hi,hzz.1,hzz.2.1,hzz.2.2⟩
theorem qH (a:Option Addr) (n c:Nat) (w:World) (h1:n≤c) (h2:c≤9223372036854775807):
  Calls Tryz.prog 125 #[.slice a n c] w fun e w'=>e= .returned (.slice a n n)∧w'=w:=by
 have mixed:=Ab.mixed
 go_enter Tryz.func125,Tryz.ntmps125
 go_wp2
 go_ret
 exact⟨rfl,rfl⟩
theorem app_clip {ty:TypeId} (w:World) (t:TypeId) (ht:Tryz.prog.underlying t=some (.slice 76)) (a:Option Addr) (n:Nat) (a2:Option Addr) (m c:Nat) (us vs:List Value) (hul:us.length=n) (hvl:vs.length=m)
  (hn:a=none→n=0) (hu:∀p,a=some p→∀j v,us[j]? =some v→w.cell? (p.add j)=some v) (hv:∀p,a2=some p→∀j v,vs[j]? =some v→w.cell? (p.add j)=some v) (hm0:a2=none→m=0) (hbnd:n+m≤1000000):
  (m=0∧(Builtin.append_ #[t,t] ty #[.slice a n n,.slice a2 m c]).run Tryz.prog w= .ok (.slice a n n) w)∨
   (0<m∧∃ (cap:Nat) (cs:Array Value) (e:TypeId) (w':World),(Builtin.append_ #[t,t] ty #[.slice a n n,.slice a2 m c]).run Tryz.prog w= .ok (.slice (some ⟨w.heap.size,0,none⟩) (n+m) cap) w'∧n+m≤cap∧cap≤maxLen∧Below w.heap.size w w'∧w'.heap[w.heap.size]? =some (.cells cs e (0,0))∧∀ (j:Nat) (u:Value),(us++vs)[j]? =some u→cs[j]? =some u):=by
 obtain⟨i,hi,hz,hsz,hby⟩:=nJ
 have key:∀ob:Obj,(w.drew.alloc ob).heap[w.heap.size]? =some ob:=fun ob=>(Array.getElem?_push_size:(w.drew.heap.push ob)[w.drew.heap.size]? =some ob)
 have hbel:∀ob:Obj,Below w.heap.size w (w.drew.alloc ob):=fun ob=>((Below.refl _ _).drew).alloc (by simp) _
 by_cases h0:m=0
 ·refine .inl ⟨h0,?_⟩
  subst h0
  cases a <;> cases a2 <;> simp [Builtin.append_,run_underlying ht,sizeOf,typeInfo,hi,Builtin.lenOf,Builtin.firstCells,loadCells,loadCellsFrom,storeCells]
 ·refine .inr ⟨by omega,?_⟩
  cases a2 with
  |none=>exact absurd (hm0 rfl) h0
  | some p2=>
   cases a with
   |none=>
    obtain rfl:=hn rfl
    have hr:=run_append_nil (P:=Tryz.prog) w t ty 76 i (.pointer none) ht hi hz p2 m c vs (by rw [hsz,hvl]; omega) (hv p2 rfl) (by omega) (by omega) (by rw [hby]; omega)
    have hge:=grownCap_ge w m 0 76
    have hle:=grownCap_le_maxLen w m 0 76 (by unfold maxLen; omega)
    obtain rfl:=List.eq_nil_of_length_eq_zero hul
    refine⟨_,_,_,_,by rw [Nat.zero_add]; exact hr,by omega,hle,hbel _,key _,fun j u hu'=>?_⟩
    rw [List.nil_append] at hu'
    have hj:=(List.getElem?_eq_some_iff.1 hu').1
    rw [Array.getElem?_append_left (by simpa using hj)]
    simpa using hu'
   |some p=>
    have hr:=run_append_grow (P:=Tryz.prog) w t ty 76 i (.pointer none) ht hi hz p n n us (by rw [hsz,hul]; omega) (hu p rfl) p2 m c vs (by rw [hsz,hvl]; omega) (hv p2 rfl) (by omega) (by omega) (growslice_fits (by omega) (by rw [hby]; omega))
    have hge:=grownCap_ge w (n+m) n 76
    have hle:=grownCap_le_maxLen w (n+m) n 76 (by unfold maxLen; omega)
    refine⟨_,_,_,_,hr,hge,hle,hbel _,key _,fun j u hu'=>?_⟩
    have hj:=(List.getElem?_eq_some_iff.1 hu').1
    rw [Array.getElem?_append_left (by simpa using hj)]
    simpa using hu'
theorem PO {γ:Gh} {w:World} (hk:AS γ.vw w) {xs:List Binder} {v:Value} (hrep:Rep γ.vw (.sl (xs.map (pD Binder.ds))) v):
  ∃ (a:Option Addr) (c:Nat) (us:List Value),v= .slice a xs.length c∧xs.length≤c∧c≤maxLen∧us.length=xs.length∧(a=none→xs.length=0)∧(∀p:Addr,a=some p→∀ (j:Nat) (u:Value),us[j]? =some u→w.cell? (p.add j)=some u)∧(∀ (j:Nat) (x:Binder),xs[j]? =some x→∃u,us[j]? =some u∧Rep γ.vw (.ptr (Binder.ds x)) u):=by
 simp only [Rep] at hrep
 obtain⟨a,c,rfl,h1,h2,h3⟩:=hrep
 rw [List.length_map] at h1 ⊢
 rcases h3 with h3|⟨sz,b,off,rfl,hr⟩
 ·obtain rfl:=List.map_eq_nil_iff.1 h3
  exact⟨a,c,[],rfl,h1,h2,rfl,fun _=>rfl,fun p _ j u hu=>(List.not_mem_nil (List.mem_of_getElem? hu)).elim,fun j x hx=>(List.not_mem_nil (List.mem_of_getElem? hx)).elim⟩
 ·obtain⟨vs,k1,k2⟩:=Sz hr
  refine⟨_,c,vs,rfl,h1,h2,k1,fun h=>(by cases h),fun p hp j u hu=>?_,fun j x hx=>by obtain⟨u,v1,-,v3⟩:=k2 j x hx; exact⟨u,v1,v3⟩⟩
  cases hp
  have hj:=(List.getElem?_eq_some_iff.1 hu).1
  obtain⟨u',v1,v2,-⟩:=k2 j _ (List.getElem?_eq_getElem (by omega))
  rw [v1] at hu; cases hu
  rw [Addr.add_lit]; exact hk _ _ v2
theorem gV:Tryz.prog.underlying 128=some (.slice 76):=by kernel_rfl
set_option maxHeartbeats 1000000 in
theorem Ae (a0 a1:List Binder) (r:List Binder) (h:DH a0 a1=some r):
  AG Tryz.prog 79 [.ro (a0.map (pD Binder.ds)),.ro (a1.map (pD Binder.ds))] [] [] (.ro (r.map (pD Binder.ds))) [] [] :=by
 unfold DH at h
 split at h
 case isFalse=>cases h
 rename_i hlen
 cases h
 refine⟨by kernel_rfl,fun cx γ us hP hg0 htl hbl hs hv=>?_⟩
 have htl':∀t,¬γ.tl t:=fun t h=>by have:=(htl t).1 h; simp [look] at this
 have hbl':∀t,¬γ.bl t:=fun t h=>by have:=(hbl t).1 h; simp [look] at this
 simp only [AI,VSim] at hv
 obtain⟨u,us',rfl,hrep,u2,us2,rfl,hrep2,rfl⟩:=hv
 have hk:=hs.vw.k
 obtain⟨a,c,vs,rfl,h1,h2,h3,h4,h5,h6⟩:=PO hk hrep
 obtain⟨b,d,ws,rfl,k1,k2,k3,k4,k5,k6⟩:=PO hk hrep2
 have hcon:Calls Tryz.prog 79 #[.slice a a0.length c,.slice b a1.length d] cx.we fun e w'=>
   (a1.length=0∧e= .returned (.slice a a0.length a0.length)∧w'=cx.we)∨
    (0<a1.length∧∃ (cap:Nat) (cs:Array Value) (e0:TypeId),e= .returned (.slice (some ⟨cx.we.heap.size,0,none⟩) (a0.length+a1.length) cap)∧a0.length+a1.length≤cap∧cap≤maxLen∧Below cx.we.heap.size cx.we w'∧w'.heap[cx.we.heap.size]? =some (.cells cs e0 (0,0))∧∀ (j:Nat) (u:Value),(vs++ws)[j]? =some u→cs[j]? =some u):=by
  have mixed:=Ab.mixed
  have hclip:=qH a a0.length c cx.we h1 (by unfold maxLen at h2; omega)
  rcases app_clip (ty:=128) cx.we 128 gV a a0.length b a1.length d vs ws h3 k3 h4 h5 k5 k4 hlen with ⟨hm,hr⟩|⟨hm,cap,cs,e0,w',hr,q1,q2,q3,q4,q5⟩
  ·have hm2:¬ ¬a1.length=0:=fun h=>h hm
   clear hm
   go_enter Tryz.func79,Tryz.ntmps79
   go_wp2_with (first|(go_at_call 125; refine hclip.mono ?_; rintro e w1 ⟨rfl,rfl⟩)|(at_builtin; refine Lib.wpList_append_run _ rfl _ _ _ _ rfl _ _ rfl rfl _ _ hr ?_))
   go_ret
   exact .inl ⟨by omega,rfl,rfl⟩
  ·skip
   go_enter Tryz.func79,Tryz.ntmps79
   go_wp2_with (first|(go_at_call 125; refine hclip.mono ?_; rintro e w1 ⟨rfl,rfl⟩)|(at_builtin; refine Lib.wpList_append_run _ rfl _ _ _ _ rfl _ _ rfl rfl _ _ hr ?_))
   go_ret
   exact .inr ⟨hm,cap,cs,e0,rfl,q1,q2,q3,q4,q5⟩
 refine hcon.mono ?_
 rintro e w' (⟨hm,rfl,rfl⟩|⟨hm,cap,cs,e0,rfl,q1,q2,q3,q4,q5⟩)
 ·obtain rfl:=List.eq_nil_of_length_eq_zero hm
  refine⟨_,γ,rfl,hs,?_⟩
  rw [List.append_nil]
  simp only [VSim,Rep] at hrep ⊢
  obtain⟨a',c',e1,e2,e3,e4⟩:=hrep
  simp only [Value.slice.injEq] at e1
  obtain⟨rfl,-,rfl⟩:=e1
  exact⟨_,_,by rw [List.length_map],by rw [List.length_map]; exact Nat.le_refl _,by omega,e4⟩
 ·obtain⟨W,g1,g2,g3⟩:=gU hs rfl q3 htl' hbl'
  refine⟨_,γ.grow W,rfl,g2,?_⟩
  simp only [VSim,Rep]
  refine⟨_,_,by rw [List.length_map,List.length_append],by rw [List.length_map,List.length_append]; exact q1,q2,.inr ⟨1,_,0,rfl,XG fun j x hx=>?_⟩⟩
  have hcell:∀u,cs[j]? =some u→W.cell? ⟨cx.we.heap.size,0+j,none⟩=some u:=fun u hu=>by
   rw [Nat.zero_add]
   simp [World.cell?,g3,q4,hu]
  have hu:∃u,(vs++ws)[j]? =some u∧Rep γ.vw (.ptr (Binder.ds x)) u:=by
   by_cases hj:j<a0.length
   ·rw [List.getElem?_append_left hj] at hx
    rw [List.getElem?_append_left (by omega)]
    exact h6 j x hx
   ·rw [List.getElem?_append_right (by omega)] at hx
    rw [List.getElem?_append_right (by omega),h3]
    exact k6 _ x hx
  obtain⟨u,u1,u2⟩:=hu
  exact⟨u,hcell u (q5 j u u1),Rep.keep g1 _ _ u2⟩
end Go.Proofs.YtnfgeocnolheoaaGreat.Ab
