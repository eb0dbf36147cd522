/-
  From the form's own reading of an argument ('DataW.trod') to this seat's 'Rep': what reads as data of a plain type (numbers, bools, strings, slices and structs of these) is a datum of that type, and lies so in memory.
-/
import Derived.Test.YtoncbhomocgmcaaGreatDoorLib
import Derived.ProofKit
import Derived.OpenShut
import Derived.ShutString
import Derived.ChangeOld
import Derived.Below
namespace Go.Proofs.YtoncbhomocgmcaaGreatDoor
set_option linter.unusedVariables false
set_option maxHeartbeats 1000000
open Go.RowKit
def MU (T:TypeId→List D→Prop):List Field→List D→Prop
 | [],ds=>ds=[]
 |f::fs,ds=>∃d1 d2,T f.type d1∧MU T fs d2∧ds=d1++d2
def Dg (P:Program):Nat→TypeId→List D→Prop
 |0,_,_=>False
 |n+1,t,ds=>
  match P.underlying t with
  |some .bool =>∃b,ds=[.bool b]
  |some (.int k)=>∃z,ds=[.int k z]
  |some .string =>∃s,ds=[.str s]
  |some (.slice e)=>∃xs,ds=[.sl (P.cellsOf e) xs] ∧∀x ∈ xs,Dg P n e x
  |some (.struct fs)=>MU (Dg P n) fs.toList ds
  |_=>False
def Iu (P:Program):Nat→Nat→List Field→Bool
 |off,size,[] =>off == size
 |off,size,f::fs=>f.offset == off&&Iu P (off+P.cellsOf f.type) size fs
def T6 (P:Program) (S:List TypeId) (t:TypeId):Bool:=
 match P.underlying t with
 |some .bool =>P.cellsOf t == 1
 |some (.int _)=>P.cellsOf t == 1
 |some .string =>P.cellsOf t == 1
 |some (.slice e)=>P.cellsOf t == 1&& !(P.cellsOf e == 0)&&S.contains e
 |some (.struct fs)=>Iu P 0 (P.cellsOf t) fs.toList&&fs.toList.all fun f=>S.contains f.type
 |_=>false
def Qd (P:Program) (S:List TypeId):Bool:=S.all (T6 P S)
theorem Reps.append {w}:∀ {d1} {c1} {d2} {c2},Reps w d1 c1→Reps w d2 c2→Reps w (d1++d2) (c1++c2)
 | [],[],_,_,_,h=>h
 |_::_,_::_,_,_,h,k=>⟨h.1,Reps.append h.2 k⟩
 | [],_::_,_,_,h,_=>h.elim
 |_::_,[],_,_,h,_=>h.elim
theorem Reps.length {w}:∀ {ds} {vs},Reps w ds vs→ds.length=vs.length
 | [],[],_=>rfl
 |_::_,_::_,h=>by simp [Reps.length h.2]
 | [],_::_,h=>h.elim
 |_::_,[],h=>h.elim
theorem Qr {α β:Type} {f:α→Option β}:∀ {l:List α} {r:List β},l.mapM f=some r→r.length=l.length∧∀i (h:i<l.length) (h':i<r.length),f l[i] =some r[i]
 | [],r,h=>by
  simp at h; subst h; exact⟨rfl,fun i h=>by simp at h⟩
 |a::l,r,h=>by
  simp only [List.mapM_cons,Option.pure_def,Option.bind_eq_bind,Option.bind_eq_some_iff,Option.some.injEq] at h
  obtain⟨b,hb,bs,hbs,rfl⟩:=h
  have ih:=Qr hbs
  refine⟨by simp [ih.1],fun i h h'=>?_⟩
  cases i with
  |zero=>exact hb
  |succ i=>exact ih.2 i (by simpa using h) (by simpa using h')
theorem JT {w} {b}:∀ {ds} {cs} {off},Reps w ds cs→(∀i (h:i<cs.length),w.cell? ⟨b,off+i,none⟩=some cs[i])→RepC w b off ds
 | [],[],_,_,_=>by simp [RepC]
 |d::ds,c::cs,off,h,hc=>by
  simp only [RepC]
  refine⟨⟨c,by have:=hc 0 (by simp); simpa only [Nat.add_zero,List.getElem_cons_zero] using this,h.1⟩,JT h.2 fun i hi=>?_⟩
  have:=hc (i+1) (by simpa using hi)
  simpa [Nat.add_assoc,Nat.add_comm 1 i] using this
 | [],_::_,_,h,_=>h.elim
 |_::_,[],_,h,_=>h.elim
section
variable {H:Type} {enc:TypeId × Value→H} {P:Program} {w:World} {base:Nat} {spare:Nat→Bool} {held:Bool}
theorem WO {a:Addr} {n:Nat} {cs:List Value} (h:w.cells? base a n=some cs):cs.length=n∧∀i (hi:i<cs.length),w.cell? (a.add i)=some cs[i] :=by
 unfold World.cells? at h
 split at h
 ·have:=Qr h
  refine⟨by simpa using this.1,fun i hi=>?_⟩
  have h2:=this.2 i (by simpa [this.1] using hi) hi
  simpa using h2
 ·cases h
theorem Hn {a:Addr} (h:a.spot=none) (n:Nat):a.add n=⟨a.block,a.off+n,none⟩:=by
 obtain⟨b,o,s⟩:=a
 simp only at h
 subst h
 unfold Addr.add
 split <;> simp_all
theorem MY (S:List TypeId) (n:Nat) (ih:∀t cs x,S.contains t=true→DataW.trod enc P w base spare held n t cs=some x→∃ds,Dg P n t ds∧Reps w ds cs) (cs:List Value):
  ∀ (fs:List Field) (off:Nat) (ys:List (DataW H × List MemPlace)),Iu P off cs.length fs=true→fs.all (fun f=>S.contains f.type)=true→off≤cs.length→
   fs.mapM (fun f=>DataW.trod enc P w base spare held n f.type ((cs.drop f.offset).take (P.cellsOf f.type)))=some ys→∃ds,MU (Dg P n) fs ds∧Reps w ds (cs.drop off)
 | [],off,ys,hp,_,_,_=>by
  simp_all [Iu,MU,Reps]
 | f::fs,off,ys,hp,hs,hle,hm=>by
  simp only [Iu,Bool.and_eq_true,beq_iff_eq] at hp
  simp only [List.all_cons,Bool.and_eq_true] at hs
  simp only [List.mapM_cons,Option.pure_def,Option.bind_eq_bind,Option.bind_eq_some_iff,Option.some.injEq] at hm
  obtain⟨y,hy,ys',hys,rfl⟩:=hm
  obtain⟨d1,ht1,hr1⟩:=ih _ _ _ hs.1 hy
  rw [hp.1] at hr1
  have hoff:off+P.cellsOf f.type≤cs.length:=by
   have key:∀ (fs:List Field) (o:Nat),Iu P o cs.length fs=true→o≤cs.length:=by
    intro fs
    induction fs with
    |nil=>intro o h; simp [Iu] at h; omega
    |cons g gs ihg=>intro o h; simp only [Iu,Bool.and_eq_true,beq_iff_eq] at h; have:=ihg _ h.2; omega
   exact key _ _ hp.2
  obtain⟨d2,ht2,hr2⟩:=MY S n ih cs fs _ ys' hp.2 hs.2 hoff hys
  refine⟨d1++d2,⟨d1,d2,ht1,ht2,rfl⟩,?_⟩
  have:=Reps.append hr1 hr2
  rwa [← List.drop_drop,List.take_append_drop] at this
theorem Gl (S:List TypeId) (hS:Qd P S=true):∀ (n:Nat) (t:TypeId) (cs:List Value) (x:DataW H × List MemPlace),S.contains t=true→
  DataW.trod enc P w base spare held n t cs=some x→∃ds,Dg P n t ds∧Reps w ds cs
 |0,t,cs,x,_,h=>by simp [DataW.trod] at h
 | n + 1,t,cs,x,ht,h=>by
  have hok:T6 P S t=true:=by
   have:=hS
   simp only [Qd,List.all_eq_true] at this
   exact this t (by simpa using ht)
  unfold T6 at hok
  unfold DataW.trod at h
  unfold Dg
  split at hok
  ·rename_i hu
   rw [hu] at h
   split at h <;> simp_all [Reps,Rep]
  ·rename_i k hu
   rw [hu] at h
   split at h <;> simp_all
   exact⟨_,⟨_,rfl⟩,⟨rfl,h.1.2⟩,trivial⟩
  ·rename_i hu
   rw [hu] at h
   split at h <;> simp_all
   exact⟨_,⟨_,rfl⟩,⟨rfl,h.1⟩,trivial⟩
  ·rename_i e hu
   rw [hu] at h
   simp only [Bool.and_eq_true] at hok
   split at h <;> first|(exfalso; simp_all; done)|skip
   ·exact⟨[.sl (P.cellsOf e) []],⟨[],rfl,by simp⟩,⟨none,0,by simp,by simp,by simp,.inl rfl⟩,trivial⟩
   ·rename_i e' a len cap he
    simp only [Option.some.injEq,TypeDesc.slice.injEq] at he
    subst he
    dsimp only at h
    split at h
    ·rename_i hc
     simp only [Option.bind_eq_some_iff,Option.map_eq_some_iff] at h
     obtain⟨elems,hel,rest,hrest,-⟩:=h
     have hel':=Qr hel
     simp only [List.length_range,List.getElem_range] at hel'
     have key:∀i,i<len→∃ds,Dg P n e ds∧∃ecs:List Value,ecs.length=P.cellsOf e∧Reps w ds ecs∧∀j (h:j<ecs.length),w.cell? ((a.add (i*P.cellsOf e)).add j)=some ecs[j] :=by
      intro i hi
      have:=hel'.2 i hi (by omega)
      simp only [Option.bind_eq_some_iff] at this
      obtain⟨ecs,hecs,htr⟩:=this
      obtain⟨ds,hty,hre⟩:=Gl S hS n e ecs _ hok.2 htr
      have hc2:=WO hecs
      exact⟨ds,hty,ecs,hc2.1,hre,hc2.2⟩
     have key2:∃xs:List (List D),xs.length=len∧∀i (h:i<xs.length),Dg P n e xs[i] ∧∃ecs:List Value,ecs.length=P.cellsOf e∧Reps w xs[i] ecs∧∀j (h:j<ecs.length),w.cell? ((a.add (i*P.cellsOf e)).add j)=some ecs[j] :=by
      have step:∀m,m≤len→∃xs:List (List D),xs.length=m∧∀i (h:i<xs.length),Dg P n e xs[i] ∧∃ecs:List Value,ecs.length=P.cellsOf e∧Reps w xs[i] ecs∧∀j (h:j<ecs.length),w.cell? ((a.add (i*P.cellsOf e)).add j)=some ecs[j] :=by
       intro m
       induction m with
       |zero=>intro _; exact⟨[],rfl,fun i h=>by simp at h⟩
       | succ m ihm=>
        intro hm
        obtain⟨xs,hl,hx⟩:=ihm (by omega)
        obtain⟨ds,hds⟩:=key m (by omega)
        refine⟨xs++[ds],by simp [hl],fun i hi=>?_⟩
        by_cases hlt:i<xs.length
        ·rw [List.getElem_append_left hlt]; exact hx i hlt
        ·have:i=m:=by simp at hi; omega
         subst this
         rw [List.getElem_append_right (by omega)]
         simpa [hl] using hds
      exact step len (Nat.le_refl _)
     obtain⟨xs,hxl,hxs⟩:=key2
     refine⟨[.sl (P.cellsOf e) xs],⟨xs,rfl,fun x hx=>?_⟩,?_,trivial⟩
     ·obtain⟨i,hi,rfl⟩:=List.getElem_of_mem hx
      exact(hxs i hi).1
     ·simp only [Rep]
      refine⟨some a,cap,by rw [hxl],by omega,by omega,?_⟩
      by_cases h0:xs=[]
      ·exact .inl h0
      ·have hz:¬P.cellsOf e=0:=by simpa using hok.1.2
       have hpos:0<xs.length:=List.length_pos_iff.2 h0
       have hspot:a.spot=none:=by
        obtain⟨-,ecs,hl,-,hcc⟩:=hxs 0 hpos
        have:=World.cell?_spot (hcc 0 (by omega))
        simpa [Addr.add] using this
       obtain⟨ab,ao,as⟩:=a
       simp only at hspot
       subst hspot
       refine .inr ⟨ab,ao,rfl,RepR.mk fun i hi=>?_⟩
       obtain⟨-,ecs,hl,hre,hcc⟩:=hxs i hi
       refine⟨by rw [← hl]; exact hre.length,JT hre fun j hj=>?_⟩
       have:=hcc j hj
       rw [Hn (by rw [Hn rfl]),Hn rfl] at this
       exact this
    ·cases h
  ·rename_i fs hu
   rw [hu] at h
   simp only [Bool.and_eq_true] at hok
   split at h <;> first|(exfalso; simp_all; done)|skip
   rename_i fs' hfs
   simp only [Option.some.injEq,TypeDesc.struct.injEq] at hfs
   subst hfs
   split at h
   ·rename_i hl
    simp only [Option.map_eq_some_iff] at h
    obtain⟨ys,hys,-⟩:=h
    have:=MY (enc:=enc) (base:=base) (spare:=spare) (held:=held) (w:=w) S n (fun t cs x h1 h2=>Gl S hS n t cs x h1 h2) _ fs.toList 0 ys (by rw [hl]; exact hok.1) hok.2 (Nat.zero_le _) hys
    simpa using this
   ·cases h
  ·simp at hok
end
theorem Oh {P} {W} {r} {base} {t} {v} (hs:(match P.underlying t with|some (.struct _)=>true|_=>false)=true) (h:Value.okWide P W r base t v):
  ∃cs,v= .agg cs∧cs.size=P.cellsOf t∧Row.okWide P W r base t cs:=by
 unfold Value.okWide at h
 split at hs
 ·rename_i hu; rw [hu] at h; exact h
 ·cases hs
end Go.Proofs.YtoncbhomocgmcaaGreatDoor
