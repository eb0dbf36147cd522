/- The common ground of this seat's proofs. -/
import Derived.WalkKit
import Derived.WalkSpells
import Derived.WalkLawsBesides
import Derived.Lib.Hide
import Derived.Deep.QuietTactic
import Derived.BigQuiet
namespace Go.Proofs.YthenkmapmnkelaaGreatDoor
set_option linter.unusedVariables false
set_option maxHeartbeats 1000000
open Go.RowKit
inductive D where
 |int (k:IntKind) (n:Int)
 |bool (b:Bool)
 |str (s:ByteArray)
 |sl (sz:Nat) (xs:List (List D))
mutual
def Rep (w:World):D→Value→Prop
 | .int k n,v=>v= .int k n∧(Lit.int k n).wf =true
 | .bool b,v=>v= .bool b
 | .str s,v=>v= .string s∧s.size≤maxLen
 | .sl sz xs,v=>∃a c,v= .slice a xs.length c∧xs.length≤c∧c≤maxLen∧(xs=[] ∨∃b off,a=some ⟨b,off,none⟩∧RepR w sz b off xs)
def RepR (w:World) (sz b:Nat):Nat→List (List D)→Prop
 |_,[] =>True
 |off,x::xs=>x.length=sz∧RepC w b off x∧RepR w sz b (off+sz) xs
def RepC (w:World) (b:Nat):Nat→List D→Prop
 |_,[] =>True
 |off,d::ds=>(∃u,w.cell? ⟨b,off,none⟩=some u∧Rep w d u)∧RepC w b (off+1) ds
end
def PF (w:World) (b:Nat):Prop:=∃c e,w.heap[b]? =some (.cells c e (0,0))
theorem PF.of {w w':World} {b:Nat} (h:PF w b) (e:w'.heap[b]? =w.heap[b]?):PF w' b:=by
 obtain⟨c,t,h⟩:=h
 exact⟨c,t,e.trans h⟩
structure Keeps (w w':World):Prop where
 cl:∀a u,w.cell? a=some u→w'.cell? a=some u
 pf:∀a u,w.cell? a=some u→PF w a.block→PF w' a.block
instance {w w':World}:CoeFun (Keeps w w') fun _=>∀a u,w.cell? a=some u→w'.cell? a=some u:=⟨Keeps.cl⟩
theorem Keeps.mk' {w w':World} (h:∀a u,w.cell? a=some u→w'.heap[a.block]? =w.heap[a.block]?):Keeps w w':=
 ⟨fun a u hu=>by unfold World.cell? at hu ⊢; rw [h a u hu]; exact hu,fun a u hu k=>k.of (h a u hu)⟩
theorem Keeps.on {V w w':World} (hk:Keeps V w) (h:∀a u,V.cell? a=some u→w'.heap[a.block]? =w.heap[a.block]?):Keeps V w':=
 ⟨fun a u hu=>by have k:=hk.cl a u hu; unfold World.cell? at k ⊢; rw [h a u hu]; exact k,fun a u hu p=>(hk.pf a u hu p).of (h a u hu)⟩
theorem Keeps.of_below {w w'} (h:Below w.heap.size w w'):Keeps w w':=.mk' fun a u hu=>h.block _ (World.block_lt_of_cell? w a hu)
theorem N5 {w} {B} (n:Nat):Below B w (w.drewN n):=⟨rfl,rfl,rfl,Nat.le_refl _,fun _ _=>rfl⟩
theorem Keeps.refl (w:World):Keeps w w:=⟨fun _ _ h=>h,fun _ _ _ h=>h⟩
theorem Keeps.trans {a b c} (h:Keeps a b) (k:Keeps b c):Keeps a c:=⟨fun x u hu=>k x u (h x u hu),fun x u hu p=>k.pf x u (h x u hu) (h.pf x u hu p)⟩
mutual
theorem Rep.keep {w w'} (hk:Keeps w w'):∀ (d:D) (v:Value),Rep w d v→Rep w' d v
 | .int _ _,_,h=>by grind [Rep]
 | .bool _,_,h=>by grind [Rep]
 | .str _,_,h=>by grind [Rep]
 | .sl sz xs,v,h=>by
  simp only [Rep] at h ⊢
  obtain⟨a,c,hv,h1,h2,h3⟩:=h
  refine⟨a,c,hv,h1,h2,?_⟩
  rcases h3 with h3|⟨b,off,ha,hr⟩
  ·exact .inl h3
  ·exact .inr ⟨b,off,ha,RepR.keep hk sz b off xs hr⟩
theorem RepR.keep {w w'} (hk:Keeps w w') (sz b:Nat):∀ (off:Nat) (xs:List (List D)),RepR w sz b off xs→RepR w' sz b off xs
 |_,[],_=>by simp [RepR]
 |off,x::xs,h=>by
  simp only [RepR] at h ⊢
  exact⟨h.1,RepC.keep hk b off x h.2.1,RepR.keep hk sz b (off+sz) xs h.2.2⟩
theorem RepC.keep {w w'} (hk:Keeps w w') (b:Nat):∀ (off:Nat) (ds:List D),RepC w b off ds→RepC w' b off ds
 |_,[],_=>by simp [RepC]
 |off,d::ds,h=>by
  simp only [RepC] at h ⊢
  obtain⟨⟨u,hu,hr⟩,h2⟩:=h
  exact⟨⟨u,hk _ _ hu,Rep.keep hk d u hr⟩,RepC.keep hk b (off+1) ds h2⟩
end
theorem Rep.kept {w w'} {d} {v} (h:Rep w d v) (hk:Keeps w w'):Rep w' d v:=Rep.keep hk d v h
theorem Rep.below {w w'} {d} {v} (h:Rep w d v) (hk:Below w.heap.size w w'):Rep w' d v:=Rep.keep (Keeps.of_below hk) d v h
theorem RepR.at {w} {sz b}:∀ {off} {xs},RepR w sz b off xs→∀i (h:i<xs.length),xs[i].length =sz∧RepC w b (off+i*sz) xs[i]
 |_,[],_,i,h=>by grind
 |off,x::xs,hr,0,_=>by grind [RepR]
 |off,x::xs,hr,i+1,h=>by
  simp only [RepR] at hr
  have:=RepR.at hr.2.2 i (by simpa using h)
  simp only [List.getElem_cons_succ]
  rw [show off+(i+1)*sz=off+sz+i*sz from by rw [Nat.add_mul]; omega]
  exact this
theorem RepR.mk {w} {sz b}:∀ {off} {xs},(∀i (h:i<xs.length),xs[i].length =sz∧RepC w b (off+i*sz) xs[i])→RepR w sz b off xs
 |_,[],_=>by simp [RepR]
 |off,x::xs,h=>by
  simp only [RepR]
  have h0:=h 0 (by simp)
  refine⟨by simpa using h0.1,by simpa using h0.2,RepR.mk fun i hi=>?_⟩
  have:=h (i+1) (by simpa using hi)
  simp only [List.getElem_cons_succ] at this
  rw [show off+(i+1)*sz=off+sz+i*sz from by rw [Nat.add_mul]; omega] at this
  exact this
def Reps (w:World):List D→List Value→Prop
 | [],[] =>True
 |d::ds,v::vs=>Rep w d v∧Reps w ds vs
 |_,_=>False
theorem Reps.keep {w w'} (hk:Keeps w w'):∀ {ds} {vs},Reps w ds vs→Reps w' ds vs
 | [],[],_=>trivial
 |d::_,v::_,h=>⟨Rep.keep hk d v h.1,Reps.keep hk h.2⟩
 | [],_::_,h=>h.elim
 |_::_,[],h=>h.elim
def Blk (w:World) (g:Nat) (e:TypeId) (cs:List Value):Prop:=w.heap[g]? =some (.cells cs.toArray e (0,0))
theorem Blk.lt {w} {g} {e} {cs} (h:Blk w g e cs):g<w.heap.size:=lt_of_block h
theorem Blk.cell {w} {g} {e} {cs} (h:Blk w g e cs) (i:Nat):w.cell? ⟨g,i,none⟩=cs[i]? :=by
 grind [Blk,World.cell?]
theorem Blk.set {w} {g} {e} {cs} (h:Blk w g e cs) (i:Nat) (v:Value):Blk (w.setCell ⟨g,i,none⟩ v) g e (cs.set i v):=by
 have hlt:=h.lt
 unfold Blk at h ⊢
 have h':w.heap[g] = .cells cs.toArray e (0,0):=by grind
 show (w.heap.modify g _)[g]? =_
 rw [Array.getElem?_eq_getElem (by grind),Array.getElem_modify_self,h']
 simp
theorem Blk.other {w} {g} {e} {cs} (h:Blk w g e cs) {a} (ha:a.block≠g) (v:Value):Blk (w.setCell a v) g e cs:=by
 grind [Blk,Below.heap_setCell]
theorem Blk.alloc {w} {g} {e} {cs} (h:Blk w g e cs) (o:Obj):Blk (w.alloc o) g e cs:=by
 grind [Blk,Below.heap_alloc]
theorem Blk.new (w:World) (e:TypeId) (cs:List Value):Blk (w.alloc (.cells cs.toArray e)) w.heap.size e cs:=heap_alloc_new w _
theorem Blk.below {w w'} {g} {e} {cs} (h:Blk w g e cs) {B} (hb:Below B w w') (hg:g<B):Blk w' g e cs:=by
 unfold Blk at h ⊢
 rw [hb.block g hg]; exact h
theorem Blk.drewN {w} {g} {e} {cs} (h:Blk w g e cs) (n:Nat):Blk (w.drewN n) g e cs:=h
def Pq (w w':World) (v v':Value):Prop:=(v'.ownBlock=v.ownBlock∨∃g,v'.ownBlock=some g∧w.heap.size≤g)∧w.grownBy w' v.ownBlock
theorem Pq.refl (w:World) (v:Value):Pq w w v v:=⟨.inl rfl,rfl,rfl,rfl,Nat.le_refl _,fun _ _ _=>rfl⟩
theorem Pq.trans {a b c} {u v x} (h:Pq a b u v) (k:Pq b c v x):Pq a c u x:=by
 obtain⟨h1,hg⟩:=h
 obtain⟨k1,kg⟩:=k
 have hs:=hg.size
 have ks:=kg.size
 refine⟨?_,kg.os.trans hg.os,kg.tape.trans hg.tape,kg.output.trans hg.output,Nat.le_trans hs ks,fun i hi hne=>?_⟩
 ·grind
 ·rw [kg.block i (by omega) ?_,hg.block i hi hne]
  grind
theorem Pq.pre {a b c} {v x} (h:Below a.heap.size a b) (k:Pq b c v x):Pq a c v x:=by
 obtain⟨k1,kg⟩:=k
 have hs:=h.size
 refine⟨?_,kg.os.trans h.os,kg.tape.trans h.tape,kg.output.trans h.output,Nat.le_trans hs kg.size,fun i hi hne=>?_⟩
 ·grind
 ·rw [kg.block i (by omega) hne,h.block i hi]
theorem Pq.alloc {a b} {u v} (h:Pq a b u v) (o:Obj):Pq a (b.alloc o) u v:=by
 obtain⟨h1,hg⟩:=h
 exact⟨h1,hg.os,hg.tape,hg.output,by simp only [World.size_alloc]; have:=hg.size; omega,fun i hi hne=>by rw [Below.heap_alloc _ _ _ (by have:=hg.size; omega)]; exact hg.block i hi hne⟩
theorem Pq.below {w w'} {v v'} (h:Pq w w' v v') {B} (hB:B≤w.heap.size) (hv:∀g,v.ownBlock=some g→B≤g):Below B w w':=
 ⟨h.2.os,h.2.tape,h.2.output,h.2.size,fun i hi=>h.2.block i (by omega) (fun e=>by grind)⟩
section
variable {P:Program} {w:World}
end
structure Only (fp:List Nat) (w w':World):Prop where
 os:w'.os=w.os
 tape:w'.tape=w.tape
 output:w'.output=w.output
 size:w.heap.size≤w'.heap.size
 block:∀k,k<w.heap.size→k ∉ fp→w'.heap[k]? =w.heap[k]?
theorem Only.refl (fp:List Nat) (w:World):Only fp w w:=⟨rfl,rfl,rfl,Nat.le_refl _,fun _ _ _=>rfl⟩
theorem Only.trans {fp} {a b c} (h:Only fp a b) (k:Only fp b c):Only fp a c:=
 ⟨k.os.trans h.os,k.tape.trans h.tape,k.output.trans h.output,Nat.le_trans h.size k.size,fun i hi hn=>(k.block i (Nat.lt_of_lt_of_le hi h.size) hn).trans (h.block i hi hn)⟩
theorem Only.mono {fp fq} {a b} (h:Only fp a b) (hs:∀x ∈ fp,x ∈ fq):Only fq a b:=
 ⟨h.os,h.tape,h.output,h.size,fun i hi hn=>h.block i hi fun hm=>hn (hs i hm)⟩
theorem Only.of_below {w w'} (h:Below w.heap.size w w') (fp:List Nat):Only fp w w':=⟨h.os,h.tape,h.output,h.size,fun i hi _=>h.block i hi⟩
theorem Only.below {fp} {w w'} (h:Only fp w w') {B} (hB:B≤w.heap.size) (hf:∀x ∈ fp,B≤x):Below B w w':=
 ⟨h.os,h.tape,h.output,h.size,fun i hi=>h.block i (by omega) fun hm=>by grind⟩
theorem Only.alloc {fp} {a w} (h:Only fp a w) (o:Obj):Only fp a (w.alloc o):=
 h.trans (Only.of_below ((Below.refl _ _).alloc (Nat.le_refl _) o) fp)
theorem Only.drewN {fp} {a w} (h:Only fp a w) (n:Nat):Only fp a (w.drewN n):=h.trans (Only.of_below (N5 n) fp)
theorem Only.setCell {fp} {a w} (h:Only fp a w) {p} (hp:p.block ∈ fp) (u:Value):Only fp a (w.setCell p u):=
 h.trans ⟨rfl,rfl,rfl,by simp_all,fun k _ hn=>Below.heap_setCell _ _ _ _ (fun e=>hn (e ▸ hp))⟩
theorem Blk.only {w w'} {g} {e} {cs} (h:Blk w g e cs) {fp} (ho:Only fp w w') (hg:g ∉ fp):Blk w' g e cs:=by
 have hlt:=h.lt
 unfold Blk at h ⊢
 rw [ho.block g hlt hg]; exact h
end Go.Proofs.YthenkmapmnkelaaGreatDoor
