/- From the form's own reading of an argument. -/
import Derived.Test.YthenkmapmnkelaaGreatDoorLib
import Derived.ProofKit
import Derived.OpenShut
import Derived.ShutString
import Derived.ChangeOld
import Derived.Below
namespace Go.Proofs.YthenkmapmnkelaaGreatDoor
set_option linter.unusedVariables false
set_option maxHeartbeats 1000000
open Go.RowKit
def Rz (T:TypeId→List D→Prop):List Field→List D→Prop
 | [],ds=>ds=[]
 |f::fs,ds=>∃d1 d2,T f.type d1∧Rz T fs d2∧ds=d1++d2
def E6 (P:Program):Nat→TypeId→List D→Prop
 |0,_,_=>False
 |n+1,t,ds=>
  match P.underlying t with
  |some .bool =>∃b,ds=[.bool b]
  |some (.int k)=>∃z,ds=[.int k z]
  |some .string =>∃s,ds=[.str s]
  |some (.slice e)=>∃xs,ds=[.sl (P.cellsOf e) xs] ∧∀x ∈ xs,E6 P n e x
  |some (.struct fs)=>Rz (E6 P n) fs.toList ds
  |_=>False
def packed (P:Program):Nat→Nat→List Field→Bool
 |off,size,[] =>off == size
 |off,size,f::fs=>f.offset == off&&packed P (off+P.cellsOf f.type) size fs
def bJ (P:Program) (S:List TypeId) (t:TypeId):Bool:=
 match P.underlying t with
 |some .bool =>P.cellsOf t == 1
 |some (.int _)=>P.cellsOf t == 1
 |some .string =>P.cellsOf t == 1
 |some (.slice e)=>P.cellsOf t == 1&& !(P.cellsOf e == 0)&&S.contains e
 |some (.struct fs)=>packed P 0 (P.cellsOf t) fs.toList&&fs.toList.all fun f=>S.contains f.type
 |_=>false
def W5 (P:Program) (S:List TypeId):Bool:=S.all (bJ P S)
theorem Reps.append {w}:∀ {d1} {c1} {d2} {c2},Reps w d1 c1→Reps w d2 c2→Reps w (d1++d2) (c1++c2)
 | [],[],_,_,_,h=>h
 |_::_,_::_,_,_,h,k=>⟨h.1,Reps.append h.2 k⟩
 | [],_::_,_,_,h,_=>h.elim
 |_::_,[],_,_,h,_=>h.elim
theorem Reps.length {w}:∀ {ds} {vs},Reps w ds vs→ds.length=vs.length
 | [],[],_=>rfl
 |_::_,_::_,h=>by simp [Reps.length h.2]
 | [],_::_,h=>h.elim
 |_::_,[],h=>h.elim
theorem XR {α β:Type} {f:α→Option β}:∀ {l:List α} {r:List β},l.mapM f=some r→r.length=l.length∧∀i (h:i<l.length) (q:i<r.length),f l[i] =some r[i]
 | [],r,h=>by
  simp at h; subst h; exact⟨rfl,fun i h=>by simp at h⟩
 |a::l,r,h=>by
  simp only [List.mapM_cons,Option.pure_def,Option.bind_eq_bind,Option.bind_eq_some_iff,Option.some.injEq] at h
  obtain⟨b,u,bs,j,rfl⟩:=h
  have p:=XR j
  refine⟨by simp [p.1],fun i h q=>?_⟩
  cases i with
  |zero=>exact u
  |succ i=>exact p.2 i (by simpa using h) (by simpa using q)
theorem N9 {w} {b}:∀ {ds} {cs} {off},Reps w ds cs→(∀i (h:i<cs.length),w.cell? ⟨b,off+i,none⟩=some cs[i])→RepC w b off ds
 | [],[],_,_,_=>by simp [RepC]
 |d::ds,c::cs,off,h,hc=>by
  simp only [RepC]
  refine⟨⟨c,by have:=hc 0 (by simp); simpa only [Nat.add_zero,List.getElem_cons_zero] using this,h.1⟩,N9 h.2 fun i j=>?_⟩
  have:=hc (i+1) (by simpa using j)
  simpa [Nat.add_assoc,Nat.add_comm 1 i] using this
 | [],_::_,_,h,_=>h.elim
 |_::_,[],_,h,_=>h.elim
section
variable {H:Type} {enc:TypeId × Value→H} {P:Program} {w:World} {base:Nat} {spare:Nat→Bool} {held:Bool}
theorem fS {a:Addr} {n:Nat} {cs:List Value} (h:w.cells? base a n=some cs):cs.length=n∧∀i (j:i<cs.length),w.cell? (a.add i)=some cs[i] :=by
 unfold World.cells? at h
 split at h
 ·have:=XR h
  refine⟨by simpa using this.1,fun i j=>?_⟩
  have h2:=this.2 i (by simpa [this.1] using j) j
  simpa using h2
 ·cases h
theorem Lm {a:Addr} (h:a.spot=none) (n:Nat):a.add n=⟨a.block,a.off+n,none⟩:=by
 obtain⟨b,o,s⟩:=a
 simp only at h
 subst h
 unfold Addr.add
 split <;> simp_all
theorem R7 (S:List TypeId) (n:Nat) (ih:∀t cs x,S.contains t=true→DataW.trod enc P w base spare held n t cs=some x→∃ds,E6 P n t ds∧Reps w ds cs) (cs:List Value):
  ∀ (fs:List Field) (off:Nat) (ys:List (DataW H × List MemPlace)),packed P off cs.length fs=true→fs.all (fun f=>S.contains f.type)=true→off≤cs.length→
   fs.mapM (fun f=>DataW.trod enc P w base spare held n f.type ((cs.drop f.offset).take (P.cellsOf f.type)))=some ys→∃ds,Rz (E6 P n) fs ds∧Reps w ds (cs.drop off)
 | [],off,ys,hp,_,_,_=>by
  simp_all [packed,Rz,Reps]
 | f::fs,off,ys,hp,hs,hle,hm=>by
  simp only [packed,Bool.and_eq_true,beq_iff_eq] at hp
  simp only [List.all_cons,Bool.and_eq_true] at hs
  simp only [List.mapM_cons,Option.pure_def,Option.bind_eq_bind,Option.bind_eq_some_iff,Option.some.injEq] at hm
  obtain⟨y,hy,C,u,rfl⟩:=hm
  obtain⟨G,q,j⟩:=ih _ _ _ hs.1 hy
  rw [hp.1] at j
  have p:off+P.cellsOf f.type≤cs.length:=by
   have key:∀ (fs:List Field) (o:Nat),packed P o cs.length fs=true→o≤cs.length:=by
    intro fs
    induction fs with
    |nil=>intro o h; simp [packed] at h; omega
    |cons g gs ihg=>intro o h; simp only [packed,Bool.and_eq_true,beq_iff_eq] at h; have:=ihg _ h.2; omega
   exact key _ _ hp.2
  obtain⟨I,F,v⟩:=R7 S n ih cs fs _ C hp.2 hs.2 p u
  refine⟨G++I,⟨G,I,q,F,rfl⟩,?_⟩
  have:=Reps.append j v
  rwa [← List.drop_drop,List.take_append_drop] at this
theorem GY (S:List TypeId) (hS:W5 P S=true):∀ (n:Nat) (t:TypeId) (cs:List Value) (x:DataW H × List MemPlace),S.contains t=true→
  DataW.trod enc P w base spare held n t cs=some x→∃G,E6 P n t G∧Reps w G cs
 |0,t,cs,x,_,h=>by simp [DataW.trod] at h
 | n + 1,t,cs,x,ht,h=>by
  have q:bJ P S t=true:=by
   have:=hS
   simp only [W5,List.all_eq_true] at this
   exact this t (by simpa using ht)
  unfold bJ at q
  unfold DataW.trod at h
  unfold E6
  split at q
  ·rename_i C
   rw [C] at h
   split at h <;> simp_all [Reps,Rep]
  ·rename_i k C
   rw [C] at h
   split at h <;> simp_all
   exact⟨_,⟨_,rfl⟩,⟨rfl,h.1.2⟩,trivial⟩
  ·rename_i C
   rw [C] at h
   split at h <;> simp_all
   exact⟨_,⟨_,rfl⟩,⟨rfl,h.1⟩,trivial⟩
  ·rename_i e C
   rw [C] at h
   simp only [Bool.and_eq_true] at q
   split at h <;> first|(exfalso; simp_all; done)|skip
   ·exact⟨[.sl (P.cellsOf e) []],⟨[],rfl,by simp⟩,⟨none,0,by simp,by simp,by simp,.inl rfl⟩,trivial⟩
   ·rename_i e' a len cap he
    simp only [Option.some.injEq,TypeDesc.slice.injEq] at he
    subst he
    dsimp only at h
    split at h
    ·rename_i hc
     simp only [Option.bind_eq_some_iff,Option.map_eq_some_iff] at h
     obtain⟨elems,hel,rest,hrest,-⟩:=h
     have I:=XR hel
     simp only [List.length_range,List.getElem_range] at I
     have key:∀i,i<len→∃G,E6 P n e G∧∃p:List Value,p.length=P.cellsOf e∧Reps w G p∧∀j (h:j<p.length),w.cell? ((a.add (i*P.cellsOf e)).add j)=some p[j] :=by
      intro i U
      have:=I.2 i U (by omega)
      simp only [Option.bind_eq_some_iff] at this
      obtain⟨p,hecs,htr⟩:=this
      obtain⟨G,hty,F⟩:=GY S hS n e p _ q.2 htr
      have hc2:=fS hecs
      exact⟨G,hty,p,hc2.1,F,hc2.2⟩
     have key2:∃u:List (List D),u.length=len∧∀i (h:i<u.length),E6 P n e u[i] ∧∃p:List Value,p.length=P.cellsOf e∧Reps w u[i] p∧∀j (h:j<p.length),w.cell? ((a.add (i*P.cellsOf e)).add j)=some p[j] :=by
      have step:∀m,m≤len→∃u:List (List D),u.length=m∧∀i (h:i<u.length),E6 P n e u[i] ∧∃p:List Value,p.length=P.cellsOf e∧Reps w u[i] p∧∀j (h:j<p.length),w.cell? ((a.add (i*P.cellsOf e)).add j)=some p[j] :=by
       intro m
       induction m with
       |zero=>intro _; exact⟨[],rfl,fun i h=>by simp at h⟩
       | succ m ihm=>
        intro hm
        obtain⟨u,W,hx⟩:=ihm (by omega)
        obtain⟨G,hds⟩:=key m (by omega)
        refine⟨u++[G],by simp [W],fun i U=>?_⟩
        by_cases hlt:i<u.length
        ·rw [List.getElem_append_left hlt]; exact hx i hlt
        ·have:i=m:=by simp at U; omega
         subst this
         rw [List.getElem_append_right (by omega)]
         simpa [W] using hds
      exact step len (Nat.le_refl _)
     obtain⟨u,hxl,J⟩:=key2
     refine⟨[.sl (P.cellsOf e) u],⟨u,rfl,fun x hx=>?_⟩,?_,trivial⟩
     ·obtain⟨i,U,rfl⟩:=List.getElem_of_mem hx
      exact(J i U).1
     ·simp only [Rep]
      refine⟨some a,cap,by rw [hxl],by omega,by omega,?_⟩
      by_cases h0:u=[]
      ·exact .inl h0
      ·have hz:¬P.cellsOf e=0:=by simpa using q.1.2
       have Y:0<u.length:=List.length_pos_iff.2 h0
       have v:a.spot=none:=by
        obtain⟨-,p,W,-,O⟩:=J 0 Y
        have:=World.cell?_spot (O 0 (by omega))
        simpa [Addr.add] using this
       obtain⟨ab,ao,as⟩:=a
       simp only at v
       subst v
       refine .inr ⟨ab,ao,rfl,RepR.mk fun i U=>?_⟩
       obtain⟨-,p,W,F,O⟩:=J i U
       refine⟨by rw [← W]; exact F.length,N9 F fun j hj=>?_⟩
       have:=O j hj
       rw [Lm (by rw [Lm rfl]),Lm rfl] at this
       exact this
    ·cases h
  ·rename_i fs C
   rw [C] at h
   simp only [Bool.and_eq_true] at q
   split at h <;> first|(exfalso; simp_all; done)|skip
   rename_i fs' hfs
   simp only [Option.some.injEq,TypeDesc.struct.injEq] at hfs
   subst hfs
   split at h
   ·rename_i W
    simp only [Option.map_eq_some_iff] at h
    obtain⟨ys,hys,-⟩:=h
    have:=R7 (enc:=enc) (base:=base) (spare:=spare) (held:=held) (w:=w) S n (fun t cs x h1 h2=>GY S hS n t cs x h1 h2) _ fs.toList 0 ys (by rw [W]; exact q.1) q.2 (Nat.zero_le _) hys
    simpa using this
   ·cases h
  ·simp at q
end
theorem U3 {P} {W} {r} {base} {t} {v} (hs:(match P.underlying t with|some (.struct _)=>true|_=>false)=true) (h:Value.okWide P W r base t v):
  ∃cs,v= .agg cs∧cs.size=P.cellsOf t∧Row.okWide P W r base t cs:=by
 unfold Value.okWide at h
 split at hs
 ·rename_i j; rw [j] at h; exact h
 ·cases hs
end Go.Proofs.YthenkmapmnkelaaGreatDoor
