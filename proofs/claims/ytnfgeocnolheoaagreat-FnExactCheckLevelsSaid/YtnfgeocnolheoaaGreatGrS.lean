/-
  slices.Grow of nothing over []string: what the walk asks of it.
-/
import Derived.Test.YtnfgeocnolheoaaGreatShL
import Derived.Test.YtnfgeocnolheoaaGreatMod
import Derived.Test.YtnfgeocnolheoaaGreatTi2
import Derived.Shelf.Spec.SlicesGrow
namespace Go.Proofs.YtnfgeocnolheoaaGreat.Ab
set_option linter.unusedVariables false
set_option linter.unusedSimpArgs false
set_option maxRecDepth 20000
open Go Go.Proofs Go.RowKit Go.Shelf
theorem jK:(Tryz.prog.info? 9).map (fun i=>(i.zero,i.size,i.bytes))=some (some (.string (ByteArray.mk #[])),1,16):=by kernel_rfl
theorem nA:∃i0,Tryz.prog.info? 9=some i0∧i0.zero=some (.string (ByteArray.mk #[]))∧i0.size=1∧i0.bytes=16:=by
 obtain⟨i,hi,hzz⟩:=Option.map_eq_some_iff.1 jK
 simp only [Prod.mk.injEq] at hzz
 exact⟨i,hi,hzz.1,hzz.2.1,hzz.2.2⟩
section
variable {cx:Cx} {γ:Gh} {w w':World}
theorem dL {T:Nat→Option Tok} {B:Nat→Option (List AV)} {W:Nat→Prop} {t n:Nat} {tk tk':Tok} {v:Value} {fp:List Nat} (hs:OSim cx γ T B w) (htl:γ.tl t) (hTt:T t=some tk)
  (hW:∀g,W g→g ∈ γ.tf t) (hfp:∀g ∈ fp,g ∈ γ.tf t) (hnd:fp.Nodup) (hc:Chg w w' W) (hok:A4 γ.vw w' tk' v fp) (hn:¬γ.tl n):
  OSim cx (γ.tok w' n v fp tk'.gen) (fun x=>if x=n then some tk' else none) B w':=by
 have hs0:OSim cx γ (fun _=>none) B w:=hs.tables (fun _ _ _ h=>by cases h) fun _ _ _ h=>h
 have hfr:∀g ∈ γ.tf t,Free cx γ (fun _=>none) B g:=fun g hg=>⟨fun _ _ _ h=>(by cases h),fun b vs h1 h2 e=>hs.btd b t vs tk h1 htl h2 hTt (by rw [e]; exact hg),hs.tfr t tk htl hTt g hg,hs.vw.t t tk htl hTt g hg⟩
 have hs1:=hs0.change hc fun g hg=>hfr g (hW g hg)
 exact hs1.putTok (t:=n) (tk:=tk') rfl (fun hl=>absurd hl hn) hok hnd (fun g hg=>hfr g (hfp g hg)) (fun hl=>absurd hl hn) (fun hl=>absurd hl hn)
theorem aY {T:Nat→Option Tok} {n:Nat} {tk':Tok} {v:Value} {g:Nat} (hs:OSim cx γ T (look []) w) (hwe:w=cx.we) (hb:Below w.heap.size w w') (hg:w.heap.size≤g) (hok:A4 γ.vw w' tk' v [g]) (hn:¬γ.tl n):
  OSim cx (γ.tok w' n v [g] tk'.gen) (fun x=>if x=n then some tk' else none) (look []) w':=by
 have hs0:OSim cx γ (fun _=>none) (look []) w':=(hs.below hb).tables (fun _ _ _ h=>by cases h) fun _ _ _ h=>h
 refine hs0.putTok (t:=n) (tk:=tk') rfl (fun h=>absurd h hn) hok (by simp) (fun x hx=>⟨fun _ _ _ h=>(by cases h),fun b vs h1 h2=>(by cases h2),.inl (by simp only [List.mem_singleton] at hx; subst hwe; omega),?_⟩) (fun h=>absurd h hn) (fun h=>absurd h hn)
 simp only [List.mem_singleton] at hx
 intro o
 exact Nt hs.vw.k (by omega)
end
theorem YB {V w:World} {g c e:Nat} {cs:Array Value} (hb:w.heap[g]? =some (.cells cs e (0,0))) (hc:c≤cs.size) (hm:c≤maxLen):A4 V w ⟨List.map strD [],some 1,0,false⟩ (.slice (some ⟨g,0,none⟩) 0 c) [g] :=by
 refine .inr ⟨g,0,c,e,cs.toList,[],rfl,Nat.zero_le _,hm,by unfold Blk; rw [Array.toArray_toList]; exact hb,by rw [Array.length_toList]; omega,?_,rfl⟩
 simp [OwnR]
set_option maxHeartbeats 1000000 in
theorem O4 (a0:List ByteArray) (a1:Int) (r:List ByteArray) (h:Fr a0 a1=some r):
  AG Tryz.prog 185 [.own 1001,.int .i64 a1] [(1001,⟨List.map strD a0,some 1,0,false⟩)] [] (.own 1501) [(1501,⟨List.map strD r,some 1,0,false⟩)] [] :=by
 unfold Fr at h
 split at h
 case isFalse=>cases h
 rename_i hc0
 obtain⟨hl0,hn0,hn1⟩:=hc0
 cases h
 obtain rfl:=List.eq_nil_of_length_eq_zero hl0
 obtain⟨n,rfl⟩:∃n:Nat,a1=n:=⟨a1.toNat,by omega⟩
 refine⟨by kernel_rfl,fun cx γ us hP hg0 htl hbl hs hv=>?_⟩
 simp only [AI,VSim] at hv
 obtain⟨u,us',rfl,⟨⟨hl1,-⟩,rfl⟩,u2,us2,rfl,⟨rfl,-⟩,rfl⟩:=hv
 have hT1:look [(1001,(⟨List.map strD [],some 1,0,false⟩:Tok))] 1001=some ⟨List.map strD [],some 1,0,false⟩:=rfl
 have hnl:¬γ.tl 1501:=fun hl=>by
  have:=(htl 1501).1 hl
  simp [look] at this
 have htok:=hs.tok 1001 _ hl1 hT1
 have e1:∀q:Tok,look [(1501,q)] =fun x=>if x=1501 then some q else none:=fun q=>by
  funext x; simp only [look]
 obtain⟨a,c,hsv,hcm,cs,hcl,hnil,hcs⟩:∃a c,γ.tv 1001= .slice a 0 c∧c≤maxLen∧∃cs:List Value,cs.length=c*1∧(a=none→c=0)∧∀ad,a=some ad→∀j v,cs[j]? =some v→cx.we.cell? (ad.add j)=some v:=by
  rcases htok with ⟨-,⟨a',h1⟩,-⟩|⟨g,o,c',e,cs,fps,h1,h2,h3,h4,h5,h6,h7⟩
  ·exact⟨a',0,h1,Nat.zero_le _,[],rfl,fun _=>rfl,fun ad _ j v hv=>by simp at hv⟩
  ·refine⟨_,c',h1,h3,(cs.drop o).take c',by rw [List.length_take,List.length_drop]; omega,fun h=>(by cases h),fun ad had j v hv=>?_⟩
   cases had
   have hj:j<c':=by
    have:=(List.getElem?_eq_some_iff.1 hv).1
    rw [List.length_take] at this; omega
   rw [List.getElem?_take_of_lt hj,List.getElem?_drop] at hv
   unfold Blk at h4
   rw [Addr.add_lit]
   simp [World.cell?,h4,hv]
 have htok:=hs.tok 1001 _ hl1 hT1
 rw [hsv]
 by_cases hroom:n≤c
 ·have hcon:=Any8.slices_Grow_room Tryz.layGrow a 0 c n cx.we (Nat.zero_le _) (by unfold maxLen at hcm; omega) (by omega) (by omega)
  refine(show Calls Tryz.prog 185 #[.slice a 0 c,.int .i64 n] cx.we _ from hcon).mono ?_
  rintro e w' ⟨rfl,rfl⟩
  rw [hsv] at htok
  have hfin:=dL (n:=1501) hs hl1 hT1 (W:=fun _=>False) (fun g hg=>hg.elim) (fun g hg=>hg) (hs.tnd 1001 _ hl1 hT1) (Chg.refl _ _) htok hnl
  refine⟨_,γ.tok cx.we 1501 (.slice a 0 c) (γ.tf 1001) 0,rfl,by rw [e1]; exact hfin,?_⟩
  simp only [VSim]
  have e2:(γ.tok cx.we 1501 (.slice a 0 c) (γ.tf 1001) 0).tv 1501= .slice a 0 c:=by simp [Gh.tok]
  rw [e2]
  exact⟨⟨.inr rfl,a,0,c,rfl⟩,rfl⟩
 · -- new memory
  obtain⟨i0,hi,hz0,hz1,hz2⟩:=nA
  have hcon:=Any8.slices_Grow_grow Tryz.layGrow i0 (.string (ByteArray.mk #[])) hi hz0 (by omega) a 0 c n cs cx.we (Nat.zero_le _) (by omega) (by rw [hz2]; omega) (by omega) (by rw [hz1]; exact hcl) hnil hcs
  refine(show Calls Tryz.prog 185 #[.slice a 0 c,.int .i64 n] cx.we _ from hcon).mono ?_
  rintro e w' ⟨rfl,hw⟩
  generalize hG:grownCap cx.we (0+n) c (Tryz.layGrow_ren.t 25)=G at hw
  have hGm:G≤maxLen:=by rw [← hG]; exact grownCap_le_maxLen _ _ _ _ (by unfold maxLen; omega)
  have hGn:0+n≤G:=by rw [← hG]; exact grownCap_ge _ _ _ _
  have hb:Below cx.we.heap.size cx.we w':=by rw [hw]; exact((Below.refl _ _).drew).alloc (by simp) _
  have key:∀ob:Obj,w'=cx.we.drew.alloc ob→w'.heap[cx.we.heap.size]? =some ob:=fun ob h=>by
   rw [h]
   exact(Array.getElem?_push_size:(cx.we.drew.heap.push ob)[cx.we.drew.heap.size]? =some ob)
  have hnew:=key _ hw
  have hok:=YB (V:=γ.vw) (c:=G) hnew (by
   simp only [Array.size_append,List.size_toArray,size_zeroCells]
   have:(Value.string (ByteArray.mk #[])).cells.size =1:=rfl
   rw [this]; omega) hGm
  have hfin:=aY (n:=1501) hs rfl hb (Nat.le_refl _) hok hnl
  refine⟨_,γ.tok w' 1501 (.slice (some ⟨cx.we.heap.size,0,none⟩) 0 G) [cx.we.heap.size] 0,rfl,by rw [e1]; exact hfin,?_⟩
  simp only [VSim]
  have e2:(γ.tok w' 1501 (.slice (some ⟨cx.we.heap.size,0,none⟩) 0 G) [cx.we.heap.size] 0).tv 1501= .slice (some ⟨cx.we.heap.size,0,none⟩) 0 G:=by simp [Gh.tok]
  rw [e2]
  exact⟨⟨.inr rfl,_,_,_,rfl⟩,rfl⟩
end Go.Proofs.YtnfgeocnolheoaaGreat.Ab
