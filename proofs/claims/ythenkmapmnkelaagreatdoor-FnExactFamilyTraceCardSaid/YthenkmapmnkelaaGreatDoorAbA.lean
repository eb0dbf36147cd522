/- The abstract walk, first part. -/
import Derived.Test.YthenkmapmnkelaaGreatDoorLib
import Derived.Laws.Sem
namespace Go.Proofs.YthenkmapmnkelaaGreatDoor.Ab
set_option linter.unusedVariables false
set_option maxHeartbeats 1000000
open Go.RowKit
inductive D where
 |int (k:IntKind) (n:Int)
 |bool (b:Bool)
 |str (s:ByteArray)
 |sl (rows:List (List D))
 |gone
 |fz (rows:List (List D))
 |ptr (ds:List D)
 |nilp
 |nl
instance:Inhabited D:=⟨.bool false⟩
def D.pt:D→Bool
 | .ptr _| .nilp =>true
 |_=>false
mutual
def Rep (w:World):D→Value→Prop
 | .gone,_=>True
 | .int k n,v=>v= .int k n∧(Lit.int k n).wf =true
 | .bool b,v=>v= .bool b
 | .str s,v=>v= .string s∧s.size≤maxLen
 | .sl rows,v=>∃a c,v= .slice a rows.length c∧rows.length≤c∧c≤maxLen∧(rows=[] ∨∃sz b off,a=some ⟨b,off,none⟩∧RepR w sz b off rows)
 | .fz rows,v=>∃a c,v= .slice a rows.length c∧rows.length≤c∧c≤maxLen∧(rows=[] ∨∃sz b off,a=some ⟨b,off,none⟩∧RepR w sz b off rows)
 | .ptr ds,v=>∃b off,v= .pointer (some ⟨b,off,none⟩)∧RepC w b off ds
 | .nilp,v=>v= .pointer none
 | .nl,v=>∃a,v= .slice a 0 0
def RepR (w:World) (sz b:Nat):Nat→List (List D)→Prop
 |_,[] =>True
 |off,x::xs=>x.length=sz∧RepC w b off x∧RepR w sz b (off+sz) xs
def RepC (w:World) (b:Nat):Nat→List D→Prop
 |_,[] =>True
 |off,d::ds=>((∃u,w.cell? ⟨b,off,none⟩=some u∧Rep w d u)∧(d.pt=true→PF w b))∧RepC w b (off+1) ds
end
mutual
theorem Rep.keep {w w'} (hk:Keeps w w'):∀ (d:D) (v:Value),Rep w d v→Rep w' d v
 | .gone,_,h=>by simp [Rep]
 | .int _ _,_,h=>by grind [Rep]
 | .bool _,_,h=>by grind [Rep]
 | .str _,_,h=>by grind [Rep]
 | .sl rows,v,h=>by
  simp only [Rep] at h ⊢
  obtain⟨a,c,hv,h1,h2,h3⟩:=h
  refine⟨a,c,hv,h1,h2,?_⟩
  rcases h3 with h3|⟨sz,b,off,ha,hr⟩
  ·grind
  ·exact .inr ⟨sz,b,off,ha,RepR.keep hk sz b off rows hr⟩
 | .fz rows,v,h=>by
  simp only [Rep] at h ⊢
  obtain⟨a,c,hv,h1,h2,h3⟩:=h
  refine⟨a,c,hv,h1,h2,?_⟩
  rcases h3 with h3|⟨sz,b,off,ha,hr⟩
  ·grind
  ·exact .inr ⟨sz,b,off,ha,RepR.keep hk sz b off rows hr⟩
 | .ptr ds,v,h=>by
  simp only [Rep] at h ⊢
  obtain⟨b,off,hv,j⟩:=h
  exact⟨b,off,hv,RepC.keep hk b off ds j⟩
 | .nilp,_,h=>by grind [Rep]
 | .nl,_,h=>by grind [Rep]
theorem RepR.keep {w w'} (hk:Keeps w w') (sz b:Nat):∀ (off:Nat) (xs:List (List D)),RepR w sz b off xs→RepR w' sz b off xs
 |_,[],_=>by simp [RepR]
 |off,x::xs,h=>by
  simp only [RepR] at h ⊢
  exact⟨h.1,RepC.keep hk b off x h.2.1,RepR.keep hk sz b (off+sz) xs h.2.2⟩
theorem RepC.keep {w w'} (hk:Keeps w w') (b:Nat):∀ (off:Nat) (ds:List D),RepC w b off ds→RepC w' b off ds
 |_,[],_=>by simp [RepC]
 |off,d::ds,h=>by
  simp only [RepC] at h ⊢
  obtain⟨⟨⟨u,j,p⟩,hp⟩,h2⟩:=h
  exact⟨⟨⟨u,hk _ _ j,Rep.keep hk d u p⟩,fun e=>hk.pf _ _ j (hp e)⟩,RepC.keep hk b (off+1) ds h2⟩
end
theorem RepC.pf {w} {b}:∀ {off} {ds},RepC w b off ds→∀d ∈ ds,d.pt=true→PF w b
 |_,[],_,d,h,_=>by cases h
 |off,x::ds,hr,d,h,e=>by
  simp only [RepC] at hr
  rcases List.mem_cons.1 h with rfl|h
  ·exact hr.1.2 e
  ·exact RepC.pf hr.2 d h e
theorem RepR.at {w} {sz b}:∀ {off} {xs},RepR w sz b off xs→∀i (h:i<xs.length),xs[i].length =sz∧RepC w b (off+i*sz) xs[i]
 |_,[],_,i,h=>by grind
 |off,x::xs,hr,0,_=>by grind [RepR]
 |off,x::xs,hr,i+1,h=>by
  simp only [RepR] at hr
  have:=RepR.at hr.2.2 i (by simpa using h)
  simp only [List.getElem_cons_succ]
  rw [show off+(i+1)*sz=off+sz+i*sz from by rw [Nat.add_mul]; omega]
  exact this
theorem RepR.mk {w} {sz b}:∀ {off} {xs},(∀i (h:i<xs.length),xs[i].length =sz∧RepC w b (off+i*sz) xs[i])→RepR w sz b off xs
 |_,[],_=>by simp [RepR]
 |off,x::xs,h=>by
  simp only [RepR]
  have j:=h 0 (by simp)
  refine⟨by simpa using j.1,by simpa using j.2,RepR.mk fun i p=>?_⟩
  have:=h (i+1) (by simpa using p)
  simp only [List.getElem_cons_succ] at this
  rw [show off+(i+1)*sz=off+sz+i*sz from by rw [Nat.add_mul]; omega] at this
  exact this
theorem RepC.at {w} {b}:∀ {off} {ds},RepC w b off ds→∀i (h:i<ds.length),∃u,w.cell? ⟨b,off+i,none⟩=some u∧Rep w ds[i] u
 |_,[],_,i,h=>by grind
 |off,d::ds,hr,0,_=>by grind [RepC]
 |off,d::ds,hr,i+1,h=>by
  simp only [RepC] at hr
  have:=RepC.at hr.2 i (by simpa using h)
  simpa [Nat.add_assoc,Nat.add_comm 1 i] using this
theorem RepC.mk {w} {b}:∀ {off} {ds},(∀d ∈ ds,d.pt=true→PF w b)→(∀i (h:i<ds.length),∃u,w.cell? ⟨b,off+i,none⟩=some u∧Rep w ds[i] u)→RepC w b off ds
 |_,[],_,_=>by simp [RepC]
 |off,d::ds,hp,h=>by
  simp only [RepC]
  have j:=h 0 (by simp)
  rw [Nat.add_zero,List.getElem_cons_zero] at j
  refine⟨⟨j,hp d (by simp)⟩,RepC.mk (fun x hx=>hp x (by simp [hx])) fun i p=>?_⟩
  have:=h (i+1) (by simpa using p)
  simpa [Nat.add_assoc,Nat.add_comm 1 i] using this
mutual
def Own (V w:World):D→Value→List Nat→Prop
 | .gone,v,fp=>v.oneCell'=true∧fp=[]
 | .int k n,v,fp=>v= .int k n∧(Lit.int k n).wf =true∧fp=[]
 | .bool b,v,fp=>v= .bool b∧fp=[]
 | .str s,v,fp=>v= .string s∧s.size≤maxLen∧fp=[]
 | .sl rows,v,fp=>(rows=[] ∧(∃a c,v= .slice a 0 c∧c≤maxLen)∧fp=[])∨
   ∃sz g o c e cs fps,v= .slice (some ⟨g,o,none⟩) rows.length c∧rows.length≤c∧c≤maxLen∧Blk w g e cs∧o+c*sz≤cs.length∧OwnR V w cs sz o rows fps∧fp=g::fps
 | .fz rows,v,fp=>Rep V (.sl rows) v∧fp=[]
 | .ptr ds,v,fp=>Rep V (.ptr ds) v∧fp=[]
 | .nilp,v,fp=>v= .pointer none∧fp=[]
 | .nl,v,fp=>(∃a,v= .slice a 0 0)∧fp=[]
def OwnR (V w:World) (cs:List Value) (sz:Nat):Nat→List (List D)→List Nat→Prop
 |_,[],fp=>fp=[]
 |o,x::xs,fp=>∃f1 f2,x.length=sz∧OwnC V w cs o x f1∧OwnR V w cs sz (o+sz) xs f2∧fp=f1++f2
def OwnC (V w:World) (cs:List Value):Nat→List D→List Nat→Prop
 |_,[],fp=>fp=[]
 |o,d::ds,fp=>∃u f1 f2,cs[o]? =some u∧Own V w d u f1∧OwnC V w cs (o+1) ds f2∧fp=f1++f2
end
mutual
theorem Own.keep {V w w'}:∀ {d} {v} {fp},Own V w d v fp→(∀g ∈ fp,w'.heap[g]? =w.heap[g]?)→Own V w' d v fp
 | .gone,_,_,h,_=>by grind [Own]
 | .int _ _,_,_,h,_=>by grind [Own]
 | .bool _,_,_,h,_=>by grind [Own]
 | .str _,_,_,h,_=>by grind [Own]
 | .sl rows,v,fp,h,hk=>by
  simp only [Own] at h ⊢
  rcases h with h|⟨sz,g,o,c,e,cs,fps,hv,h1,h2,hb,h3,hr,rfl⟩
  ·grind
  ·exact .inr ⟨sz,g,o,c,e,cs,fps,hv,h1,h2,by grind [Blk],h3,OwnR.keep hr fun g hg=>hk g (by grind),rfl⟩
 | .fz _,_,_,h,_=>by grind [Own]
 | .ptr _,_,_,h,_=>by grind [Own]
 | .nilp,_,_,h,_=>by grind [Own]
 | .nl,_,_,h,_=>by grind [Own]
theorem OwnR.keep {V w w'} {cs} {sz}:∀ {o} {xs} {fp},OwnR V w cs sz o xs fp→(∀g ∈ fp,w'.heap[g]? =w.heap[g]?)→OwnR V w' cs sz o xs fp
 |_,[],_,h,_=>by grind [OwnR]
 |o,x::xs,fp,h,hk=>by
  simp only [OwnR] at h ⊢
  obtain⟨p,v,u,q,j,rfl⟩:=h
  exact⟨p,v,u,OwnC.keep q fun g hg=>hk g (by simp [hg]),OwnR.keep j fun g hg=>hk g (by simp [hg]),rfl⟩
theorem OwnC.keep {V w w'} {cs}:∀ {o} {ds} {fp},OwnC V w cs o ds fp→(∀g ∈ fp,w'.heap[g]? =w.heap[g]?)→OwnC V w' cs o ds fp
 |_,[],_,h,_=>by grind [OwnC]
 |o,d::ds,fp,h,hk=>by
  simp only [OwnC] at h ⊢
  obtain⟨u,v,j,p,ho,q,rfl⟩:=h
  exact⟨u,v,j,p,Own.keep ho fun g hg=>hk g (by simp [hg]),OwnC.keep q fun g hg=>hk g (by simp [hg]),rfl⟩
end
mutual
theorem Own.mono {V V' w} (hk:Keeps V V'):∀ {d} {v} {fp},Own V w d v fp→Own V' w d v fp
 | .gone,_,_,h=>by grind [Own]
 | .int _ _,_,_,h=>by grind [Own]
 | .bool _,_,_,h=>by grind [Own]
 | .str _,_,_,h=>by grind [Own]
 | .sl rows,v,fp,h=>by
  simp only [Own] at h ⊢
  rcases h with h|⟨sz,g,o,c,e,cs,fps,hv,h1,h2,hb,h3,hr,rfl⟩
  ·grind
  ·exact .inr ⟨sz,g,o,c,e,cs,fps,hv,h1,h2,hb,h3,OwnR.mono hk hr,rfl⟩
 | .fz _,_,_,h=>by grind [Own,Rep.keep]
 | .ptr _,_,_,h=>by grind [Own,Rep.keep]
 | .nilp,_,_,h=>by grind [Own]
 | .nl,_,_,h=>by grind [Own]
theorem OwnR.mono {V V' w} (hk:Keeps V V') {cs} {sz}:∀ {o} {xs} {fp},OwnR V w cs sz o xs fp→OwnR V' w cs sz o xs fp
 |_,[],_,h=>by grind [OwnR]
 |o,x::xs,fp,h=>by
  simp only [OwnR] at h ⊢
  obtain⟨p,v,u,q,j,rfl⟩:=h
  exact⟨p,v,u,OwnC.mono hk q,OwnR.mono hk j,rfl⟩
theorem OwnC.mono {V V' w} (hk:Keeps V V') {cs}:∀ {o} {ds} {fp},OwnC V w cs o ds fp→OwnC V' w cs o ds fp
 |_,[],_,h=>by grind [OwnC]
 |o,d::ds,fp,h=>by
  simp only [OwnC] at h ⊢
  obtain⟨u,v,j,p,ho,q,rfl⟩:=h
  exact⟨u,v,j,p,Own.mono hk ho,OwnC.mono hk q,rfl⟩
end
mutual
theorem OwnR.cells {V w} {cs cs'} {sz}:∀ {o} {xs} {fp},OwnR V w cs sz o xs fp→(∀i,o≤i→i<o+xs.length*sz→cs'[i]? =cs[i]?)→OwnR V w cs' sz o xs fp
 |_,[],_,h,_=>by grind [OwnR]
 |o,x::xs,fp,h,hk=>by
  simp only [OwnR] at h ⊢
  obtain⟨p,v,u,q,j,rfl⟩:=h
  have e:(x::xs).length *sz=sz+xs.length*sz:=by rw [List.length_cons,Nat.add_mul]; omega
  rw [e] at hk
  exact⟨p,v,u,OwnC.cells q fun i h1 h2=>hk i h1 (by omega),OwnR.cells j fun i h1 h2=>hk i (by omega) (by omega),rfl⟩
theorem OwnC.cells {V w} {cs cs'}:∀ {o} {ds} {fp},OwnC V w cs o ds fp→(∀i,o≤i→i<o+ds.length→cs'[i]? =cs[i]?)→OwnC V w cs' o ds fp
 |_,[],_,h,_=>by grind [OwnC]
 |o,d::ds,fp,h,hk=>by
  simp only [OwnC] at h ⊢
  obtain⟨u,v,j,p,ho,q,rfl⟩:=h
  exact⟨u,v,j,by rw [hk o (Nat.le_refl _) (by simp)]; exact p,ho,OwnC.cells q fun i h1 h2=>hk i (by omega) (by simp at h2 ⊢; omega),rfl⟩
end
theorem BU {α:Type} {l:List α} {i:Nat} {u:α} (h:l[i]? =some u):i<l.length:=by
 grind
mutual
theorem Own.rep {V w} (hk:Keeps V w):∀ {d} {v} {fp},Own V w d v fp→Rep w d v
 | .gone,_,_,h=>by simp [Rep]
 | .int _ _,_,_,h=>by simp only [Own] at h; exact⟨h.1,h.2.1⟩
 | .bool _,_,_,h=>by simp only [Own] at h; exact h.1
 | .str _,_,_,h=>by simp only [Own] at h; exact⟨h.1,h.2.1⟩
 | .sl rows,v,fp,h=>by
  simp only [Own] at h
  simp only [Rep]
  rcases h with ⟨rfl,⟨a,c,hv,hc⟩,-⟩|⟨sz,g,o,c,e,cs,fps,hv,h1,h2,hb,h3,hr,rfl⟩
  ·grind
  ·exact⟨_,c,hv,h1,h2,.inr ⟨sz,g,o,rfl,OwnR.rep hk ⟨_,_,hb⟩ hr fun i u j=>by rw [hb.cell]; exact j⟩⟩
 | .fz rows,v,fp,h=>by
  grind [Own,Rep.keep,Rep]
 | .ptr _,_,_,h=>by grind [Own,Rep.keep]
 | .nilp,_,_,h=>by grind [Own,Rep]
 | .nl,_,_,h=>by grind [Own,Rep]
theorem OwnR.rep {V w} (hk:Keeps V w) {cs} {sz g} (hp:PF w g):∀ {o} {xs} {fp},OwnR V w cs sz o xs fp→(∀i u,cs[i]? =some u→w.cell? ⟨g,i,none⟩=some u)→RepR w sz g o xs
 |_,[],_,_,_=>by simp [RepR]
 |o,x::xs,fp,h,hc=>by
  simp only [OwnR] at h
  obtain⟨v,q,p,ho,j,rfl⟩:=h
  simp only [RepR]
  exact⟨p,OwnC.rep hk hp ho hc,OwnR.rep hk hp j hc⟩
theorem OwnC.rep {V w} (hk:Keeps V w) {cs} {g} (hp:PF w g):∀ {o} {ds} {fp},OwnC V w cs o ds fp→(∀i u,cs[i]? =some u→w.cell? ⟨g,i,none⟩=some u)→RepC w g o ds
 |_,[],_,_,_=>by simp [RepC]
 |o,d::ds,fp,h,hc=>by
  simp only [OwnC] at h
  obtain⟨u,v,q,p,ho,j,rfl⟩:=h
  simp only [RepC]
  exact⟨⟨⟨u,hc o u p,Own.rep hk ho⟩,fun _=>hp⟩,OwnC.rep hk hp j hc⟩
end
mutual
def er:D→D
 | .sl rows=>.sl (erR rows)
 | .fz rows=>.sl rows
 | .int k n=>.int k n
 | .bool b=>.bool b
 | .str s=>.str s
 | .gone =>.gone
 | .ptr ds=>.ptr ds
 | .nilp =>.nilp
 | .nl =>.sl []
def erR:List (List D)→List (List D)
 | [] =>[]
 |x::xs=>erC x::erR xs
def erC:List D→List D
 | [] =>[]
 |d::ds=>er d::erC ds
end
theorem OC:∀xs:List (List D),(erR xs).length =xs.length
 | [] =>rfl
 |x::xs=>by simp only [erR,List.length_cons,OC xs]
theorem S6:∀xs:List D,(erC xs).length =xs.length
 | [] =>rfl
 |x::xs=>by simp only [erC,List.length_cons,S6 xs]
mutual
theorem Rep.er {w}:∀ {d} {v},Rep w d v→Rep w (er d) v
 | .gone,_,h=>by grind [Ab.er]
 | .int _ _,_,h=>by grind [Ab.er]
 | .bool _,_,h=>by grind [Ab.er]
 | .str _,_,h=>by grind [Ab.er]
 | .ptr _,_,h=>by grind [Ab.er]
 | .nilp,_,h=>by grind [Ab.er]
 | .nl,_,h=>by simp only [Rep] at h; obtain⟨a,h⟩:=h; exact⟨a,0,h,Nat.le_refl _,Nat.zero_le _,.inl rfl⟩
 | .fz rows,v,h=>by grind [Ab.er,Rep]
 | .sl rows,v,h=>by
  simp only [Ab.er,Rep] at h ⊢
  obtain⟨a,c,hv,h1,h2,h3⟩:=h
  refine⟨a,c,by rw [OC]; exact hv,by rw [OC]; exact h1,h2,?_⟩
  rcases h3 with rfl|⟨sz,b,off,ha,hr⟩
  ·exact .inl rfl
  ·exact .inr ⟨sz,b,off,ha,RepR.er hr⟩
theorem RepR.er {w} {sz b}:∀ {off} {xs},RepR w sz b off xs→RepR w sz b off (erR xs)
 |_,[],h=>by grind [erR]
 |off,x::xs,h=>by
  simp only [erR,RepR] at h ⊢
  exact⟨by rw [S6]; exact h.1,RepC.er h.2.1,RepR.er h.2.2⟩
theorem RepC.er {w} {b}:∀ {off} {ds},RepC w b off ds→RepC w b off (erC ds)
 |_,[],h=>by grind [erC]
 |off,d::ds,h=>by
  simp only [erC,RepC] at h ⊢
  obtain⟨⟨⟨u,h1,h2⟩,hp⟩,h3⟩:=h
  exact⟨⟨⟨u,h1,Rep.er h2⟩,fun e=>hp (by cases d <;> first|exact e|cases e)⟩,RepC.er h3⟩
end
mutual
theorem Own.lt {V w}:∀ {d} {v} {fp},Own V w d v fp→∀g ∈ fp,g<w.heap.size
 | .gone,_,_,h=>by grind [Own]
 | .int _ _,_,_,h=>by grind [Own]
 | .bool _,_,_,h=>by grind [Own]
 | .str _,_,_,h=>by grind [Own]
 | .sl rows,v,fp,h=>by
  simp only [Own] at h
  rcases h with ⟨-,-,rfl⟩|⟨sz,g,o,c,e,cs,fps,hv,h1,h2,hb,h3,hr,rfl⟩
  ·simp
  ·intro x hx
   rcases List.mem_cons.1 hx with rfl|hx
   ·exact hb.lt
   ·exact OwnR.lt hr x hx
 | .fz _,_,_,h=>by grind [Own]
 | .ptr _,_,_,h=>by grind [Own]
 | .nilp,_,_,h=>by grind [Own]
 | .nl,_,_,h=>by grind [Own]
theorem OwnR.lt {V w} {cs} {sz}:∀ {o} {xs} {fp},OwnR V w cs sz o xs fp→∀g ∈ fp,g<w.heap.size
 |_,[],_,h=>by grind [OwnR]
 |o,x::xs,fp,h=>by
  simp only [OwnR] at h
  obtain⟨q,v,u,p,j,rfl⟩:=h
  intro g hg
  rcases List.mem_append.1 hg with hg|hg
  ·exact OwnC.lt p g hg
  ·exact OwnR.lt j g hg
theorem OwnC.lt {V w} {cs}:∀ {o} {ds} {fp},OwnC V w cs o ds fp→∀g ∈ fp,g<w.heap.size
 |_,[],_,h=>by grind [OwnC]
 |o,d::ds,fp,h=>by
  simp only [OwnC] at h
  obtain⟨u,v,p,q,ho,j,rfl⟩:=h
  intro g hg
  rcases List.mem_append.1 hg with hg|hg
  ·exact Own.lt ho g hg
  ·exact OwnC.lt j g hg
end
theorem OwnR.snoc {V w} {cs} {sz}:∀ {o} {xs} {fp} {x} {f1},OwnR V w cs sz o xs fp→x.length=sz→OwnC V w cs (o+xs.length*sz) x f1→OwnR V w cs sz o (xs++[x]) (fp++f1)
 |o,[],_,x,f1,h,hl,hc=>by
  grind [OwnR]
 |o,y::ys,_,x,f1,h,hl,hc=>by
  simp only [OwnR] at h
  obtain⟨q,u,j,ho,p,rfl⟩:=h
  simp only [List.cons_append,OwnR]
  refine⟨q,u++f1,j,ho,OwnR.snoc p hl ?_,by simp⟩
  rw [show o+sz+ys.length*sz=o+(y::ys).length *sz from by rw [List.length_cons,Nat.add_mul]; omega]
  exact hc
theorem OwnR.append {V w} {cs} {sz}:∀ {o} {xs ys} {fp f1},OwnR V w cs sz o xs fp→OwnR V w cs sz (o+xs.length*sz) ys f1→OwnR V w cs sz o (xs++ys) (fp++f1)
 |o,[],ys,_,f1,h,hc=>by
  grind [OwnR]
 |o,y::xs,ys,_,f1,h,hc=>by
  simp only [OwnR] at h
  obtain⟨q,u,j,ho,p,rfl⟩:=h
  simp only [List.cons_append,OwnR]
  refine⟨q,u++f1,j,ho,OwnR.append p ?_,by simp⟩
  rw [show o+sz+xs.length*sz=o+(y::xs).length *sz from by rw [List.length_cons,Nat.add_mul]; omega]
  exact hc
theorem OwnR.split {V w} {cs} {sz}:∀ {o} {xs} {fp} (i:Nat) (hi:i<xs.length),OwnR V w cs sz o xs fp→
  ∃ v G u,fp=v++(G++u)∧xs[i].length =sz∧OwnC V w cs (o+i*sz) xs[i] G∧
   ∀ (w':World) (q:List Value) (x:List D) (p:List Nat),x.length=sz→(∀g ∈ v++u,w'.heap[g]? =w.heap[g]?)→
    (∀j,(j<o+i*sz∨o+(i+1)*sz≤j)→q[j]? =cs[j]?)→OwnC V w' q (o+i*sz) x p→OwnR V w' q sz o (xs.set i x) (v++(p++u))
 |o,[],_,i,hi,_=>by grind
 |o,y::ys,_,0,_,h=>by
  simp only [OwnR] at h
  obtain⟨C,O,J,ho,I,rfl⟩:=h
  refine⟨[],C,O,rfl,by grind,by grind,fun w' q x p hx hk F U=>?_⟩
  simp only [List.set_cons_zero,OwnR,List.nil_append]
  refine⟨p,O,hx,by grind,?_,rfl⟩
  exact(OwnR.keep I fun g hg=>hk g (by grind)).cells fun j h1 h2=>F j (.inr (by omega))
 | o,y::ys,_,i+1,hi,h=>by
  simp only [OwnR] at h
  obtain⟨C,O,J,ho,I,rfl⟩:=h
  obtain⟨v,G,u,rfl,h1,h2,h3⟩:=OwnR.split i (by simpa using hi) I
  have e:o+sz+i*sz=o+(i+1)*sz:=by rw [Nat.add_mul]; omega
  have W:o+sz+(i+1)*sz=o+(i+1+1)*sz:=by rw [Nat.add_mul (i+1) 1]; omega
  have Y:sz≤(i+1)*sz:=Nat.le_mul_of_pos_left _ (Nat.succ_pos _)
  rw [e] at h2 h3
  rw [W] at h3
  refine⟨C++v,G,u,by simp,by simpa using h1,by simpa using h2,fun w' q x p hx hk F U=>?_⟩
  simp only [List.set_cons_succ,OwnR]
  refine⟨C,v++(p++u),J,?_,h3 w' q x p hx (fun g hg=>hk g ?_) F U,by simp⟩
  ·refine(OwnC.keep ho fun g hg=>hk g (by simp [hg])).cells fun j h1 h2=>F j (.inl ?_)
   rw [J] at h2
   omega
  ·simp only [List.mem_append] at hg ⊢
   rcases hg with hg|hg
   ·exact .inl (.inr hg)
   ·exact .inr hg
theorem OwnC.split {V w} {cs}:∀ {o} {ds} {fp} (i:Nat) (hi:i<ds.length),OwnC V w cs o ds fp→
  ∃ u C O v,fp=C++(O++v)∧cs[o+i]? =some u∧Own V w ds[i] u O∧
   ∀ (w':World) (q:List Value) (d:D) (F:Value) (p:List Nat),(∀g ∈ C++v,w'.heap[g]? =w.heap[g]?)→
    (∀j,j≠o+i→q[j]? =cs[j]?)→q[o+i]? =some F→Own V w' d F p→OwnC V w' q o (ds.set i d) (C++(p++v))
 |o,[],_,i,hi,_=>by grind
 |o,y::ys,_,0,_,h=>by
  simp only [OwnC] at h
  obtain⟨u,I,Y,hu,ho,U,rfl⟩:=h
  refine⟨u,[],I,Y,rfl,by omega,by grind,fun w' q d F p hk J G W=>?_⟩
  simp only [List.set_cons_zero,OwnC,List.nil_append]
  refine⟨F,p,Y,by omega,W,?_,rfl⟩
  exact(OwnC.keep U fun g hg=>hk g (by grind)).cells fun j h1 h2=>J j (by omega)
 |o,y::ys,_,i+1,hi,h=>by
  simp only [OwnC] at h
  obtain⟨u,I,Y,hu,ho,U,rfl⟩:=h
  obtain⟨u1,C,O,v,rfl,h1,h2,h3⟩:=OwnC.split i (by simpa using hi) U
  rw [show o+1+i=o+(i+1) from by omega] at h1 h3
  refine⟨u1,I++C,O,v,by simp,h1,by simpa using h2,fun w' q d F p hk J G W=>?_⟩
  simp only [List.set_cons_succ,OwnC]
  refine⟨u,I,C++(p++v),by rw [J o (by omega)]; exact hu,Own.keep ho fun g hg=>hk g (by simp [hg]),h3 w' q d F p (fun g hg=>hk g ?_) J G W,by simp⟩
  simp only [List.mem_append] at hg ⊢
  rcases hg with hg|hg
  ·exact .inl (.inr hg)
  ·exact .inr hg
abbrev Pth:=List (Nat × Nat × Nat)
def hdr (w:World):Value→Pth→Value
 |v,[] =>v
 | .slice (some a) n c,(sz,i,j)::p=>match w.cell? ⟨a.block,a.off+(i*sz+j),none⟩ with
  |some u=>hdr w u p
  |none=>.tuple #[]
 |_,_::_=>.tuple #[]
def Hf:D→Option (List (List D))
 | .sl r=>some r
 | .nl =>some []
 |_=>none
def isSl (d:D):Prop:=(Hf d).isSome =true
theorem isSl.cases {d} (h:isSl d):(∃r,d= .sl r)∨d= .nl :=by
 cases d <;> simp_all [isSl,Hf]
theorem Sy {r}:isSl (.sl r):=rfl
def At:Pth→D→D→Prop
 | [],d,d'=>d=d'
 |(sz,i,j)::p,.sl rows,d'=>∃row d1,rows[i]? =some row∧row.length=sz∧row[j]? =some d1∧At p d1 d'
 |_::_,_,_=>False
def put:Pth→D→D→D
 | [],_,d'=>d'
 | (sz,i,j)::p,.sl rows,d'=>match rows[i]? with
  |some row=>match row[j]? with
   |some d1=>.sl (rows.set i (row.set j (put p d1 d')))
   |none=>.sl rows
  |none=>.sl rows
 |_::_,d,_=>d
theorem At.trans {p q} {d d1 d2}:At p d d1→At q d1 d2→At (p++q) d d2:=by
 induction p generalizing d with
 |nil=>grind [At]
 |cons s p ih=>
  obtain⟨sz,i,j⟩:=s
  intro h k
  cases d <;> simp only [At] at h
  obtain⟨u,e,h1,h2,h3,v⟩:=h
  exact⟨u,e,h1,h2,h3,ih v k⟩
theorem Own.path {V w:World}:∀ {p:Pth} {d d1:D} {v:Value} {fp:List Nat},Own V w d v fp→At p d d1→
  ∃f1 f2 f3,fp=f1++(f2++f3)∧Own V w d1 (hdr w v p) f2∧
   ∀ (w':World) (q:D) (F:List Nat),(∀g ∈ f1++f3,w'.heap[g]? =w.heap[g]?)→Own V w' q (hdr w v p) F→Own V w' (put p d q) v (f1++(F++f3))
 | [],d,d1,v,fp,h,ha=>by
  simp only [At] at ha
  subst ha
  exact⟨[],fp,[],by simp,by grind [hdr],fun w' q F _ h'=>by grind [put,hdr]⟩
 | (sz,i,j)::p,d,d1,v,fp,h,ha=>by
  cases d <;> simp only [At] at ha
  rename_i C
  obtain⟨G,e,h1,h2,h3,h4⟩:=ha
  have hi:=BU h1
  have hj:=BU h3
  simp only [Own] at h
  rcases h with ⟨rfl,-,-⟩|⟨sz',g,o,c,te,cs,fps,hv,hn,hc,hb,hlen,hr,rfl⟩
  ·grind
  ·have hri:C[i] =G:=by rw [List.getElem?_eq_getElem hi] at h1; grind
   obtain⟨a1,a2,a3,rfl,hl,hoc,O⟩:=OwnR.split i hi hr
   rw [hri] at hl hoc
   have hsz:sz'=sz:=by rw [← hl,h2]
   subst hsz
   have hrj:G[j] =e:=by rw [List.getElem?_eq_getElem hj] at h3; grind
   obtain⟨u,b1,b2,b3,rfl,hu,hob,I⟩:=OwnC.split j hj hoc
   rw [hrj] at hob
   obtain⟨c1,c2,c3,rfl,hown,J⟩:=Own.path hob h4
   have hhd:hdr w v ((sz',i,j)::p)=hdr w u p:=by
    rw [hv,hdr,hb.cell,← Nat.add_assoc,hu]
   refine⟨g::(a1++(b1++c1)),c2,c3++b3++a3,by simp,by rw [hhd]; omega,fun w' q F hk h'=>?_⟩
   rw [hhd] at h'
   have Y:put ((sz',i,j)::p) (.sl C) q= .sl (C.set i (G.set j (put p e q))):=by
    rw [put,h1]; simp only; rw [h3]
   rw [Y]
   have hg:w'.heap[g]? =w.heap[g]? :=hk g (by simp)
   have hb':Blk w' g te cs:=by grind [Blk]
   have hin:=J w' q F (fun x hx=>hk x (by rcases List.mem_append.1 hx with h|h <;> simp [h])) h'
   have U:=I w' cs (put p e q) u _ (fun x hx=>hk x (by rcases List.mem_append.1 hx with h|h <;> simp [h])) (fun _ _=>rfl) hu hin
   have W:=O w' cs (G.set j (put p e q)) _ (by rw [List.length_set]; exact h2) (fun x hx=>hk x (by rcases List.mem_append.1 hx with h|h <;> simp [h])) (fun _ _=>rfl) U
   simp only [Own]
   refine .inr ⟨sz',g,o,c,te,cs,_,by rw [List.length_set]; exact hv,by rw [List.length_set]; exact hn,hc,hb',hlen,W,by simp⟩
theorem PC {V w w':World}:∀ {p:Pth} {d:D} {v:Value} {fp:List Nat} {d1:D},Own V w d v fp→At p d d1→isSl d1→
  (∀g ∈ fp,∀ (o:Nat) (a:Option Addr) (n c:Nat),w.cell? ⟨g,o,none⟩=some (.slice a n c)→w'.cell? ⟨g,o,none⟩=some (.slice a n c))→hdr w' v p=hdr w v p
 | [],d,v,fp,d1,_,_,_,_=>by rfl
 | (sz,i,j)::p,d,v,fp,d1,h,ha,hs,hk=>by
  cases d <;> simp only [At] at ha
  rename_i G
  obtain⟨I,e,h1,h2,h3,O⟩:=ha
  have hi:=BU h1
  have hj:=BU h3
  simp only [Own] at h
  rcases h with ⟨rfl,-,-⟩|⟨sz',g,o,c,te,cs,fps,hv,hn,hc,hb,hlen,hr,rfl⟩
  ·simp at h1
  ·have W:G[i] =I:=by rw [List.getElem?_eq_getElem hi] at h1; exact Option.some.inj h1
   obtain⟨a1,a2,a3,rfl,hl,J,-⟩:=OwnR.split i hi hr
   rw [W] at hl J
   have U:sz'=sz:=by rw [← hl,h2]
   subst U
   have Y:I[j] =e:=by rw [List.getElem?_eq_getElem hj] at h3; exact Option.some.inj h3
   obtain⟨u,b1,b2,b3,rfl,hu,q,-⟩:=OwnC.split j hj J
   rw [Y] at q
   have hus:∃a n c,u= .slice a n c:=by
    have:isSl e:=by
     cases p with
     |nil=>simp only [At] at O; rw [O]; exact hs
     |cons s p=>obtain⟨_,_,_⟩:=s; cases e <;> simp only [At] at O; exact rfl
    rcases this.cases with ⟨rows',rfl⟩|rfl
    ·simp only [Own] at q
     rcases q with ⟨-,⟨a,c,hv,-⟩,-⟩|⟨_,_,_,_,_,_,_,hv,-⟩
     ·exact⟨_,_,_,hv⟩
     ·exact⟨_,_,_,hv⟩
    ·simp only [Own] at q
     exact⟨_,_,_,q.1.choose_spec⟩
   obtain⟨a,n',c',rfl⟩:=hus
   have C:w.cell? ⟨g,o+(i*sz'+j),none⟩=some (.slice a n' c'):=by rw [hb.cell,← Nat.add_assoc]; exact hu
   have F:=hk g (by simp) _ _ _ _ C
   rw [hv,hdr,hdr]
   simp only
   rw [C,F]
   exact PC q O hs fun x hx=>hk x (by simp [hx])
theorem At.put {p:Pth}:∀ {d u q:D},At p d u→At p (put p d q) q:=by
 induction p with
 |nil=>grind [At,Ab.put]
 |cons s p ih=>
  obtain⟨sz,i,j⟩:=s
  intro d u q h
  cases d <;> simp only [At] at h
  grind [Ab.put,At]
theorem At.put_inv:∀ {q p:Pth} {d d1 d1' d2:D},At p d d1→At q (Ab.put p d d1') d2→isSl d2→(∃d2',At q d d2'∧isSl d2')∨∃q2,q=p++q2∧At q2 d1' d2
 |q,[],d,d1,d1',d2,hp,hq,hs=>.inr ⟨q,rfl,by grind [Ab.put]⟩
 | [],(sz,i,j)::p,d,d1,d1',d2,hp,hq,hs=>by
  cases d <;> simp only [At] at hp
  exact .inl ⟨_,rfl,rfl⟩
 | (sz,i,j)::q,(sz2,i2,j2)::p,d,d1,d1',d2,hp,hq,hs=>by
  cases d <;> simp only [At] at hp
  rename_i u
  obtain⟨v,e,h1,h2,h3,I⟩:=hp
  have F:Ab.put ((sz2,i2,j2)::p) (.sl u) d1'= .sl (u.set i2 (v.set j2 (Ab.put p e d1'))):=by
   rw [Ab.put,h1]; simp only; rw [h3]
  rw [F] at hq
  simp only [At] at hq
  obtain⟨C,G,k1,k2,k3,k4⟩:=hq
  by_cases hii:i2=i
  ·subst hii
   rw [List.getElem?_set_self (BU h1)] at k1
   obtain rfl:=Option.some.inj k1
   rw [List.length_set] at k2
   by_cases hjj:j2=j
   ·subst hjj
    rw [List.getElem?_set_self (BU h3)] at k3
    obtain rfl:=Option.some.inj k3
    rcases At.put_inv I k4 hs with ⟨r',hr',hs'⟩|⟨q2,rfl,hq2⟩
    ·exact .inl ⟨r',⟨v,e,h1,k2,h3,hr'⟩,hs'⟩
    ·exact .inr ⟨q2,by rw [show sz=sz2 from by omega]; rfl,hq2⟩
   ·rw [List.getElem?_set_ne hjj] at k3
    exact .inl ⟨d2,⟨v,G,h1,k2,k3,k4⟩,hs⟩
  ·rw [List.getElem?_set_ne hii] at k1
   exact .inl ⟨d2,⟨C,G,k1,k2,k3,k4⟩,hs⟩
theorem fV {V w w':World}:∀ {p:Pth} {d d1:D} {v:Value} {fp:List Nat},Own V w d v fp→At p d d1→(∀g ∈ fp,w'.heap[g]? =w.heap[g]?)→hdr w' v p=hdr w v p
 | [],d,d1,v,fp,_,_,_=>by rfl
 | (sz,i,j)::p,d,d1,v,fp,h,ha,hk=>by
  cases d <;> simp only [At] at ha
  rename_i F
  obtain⟨I,e,h1,h2,h3,h4⟩:=ha
  have Y:=BU h1
  have hj:=BU h3
  simp only [Own] at h
  rcases h with ⟨rfl,-,-⟩|⟨sz',g,o,c,te,cs,fps,hv,hn,hc,hb,hlen,hr,rfl⟩
  ·grind
  ·have U:F[i] =I:=by rw [List.getElem?_eq_getElem Y] at h1; grind
   obtain⟨a1,a2,a3,rfl,hl,J,-⟩:=OwnR.split i Y hr
   rw [U] at hl J
   have W:sz'=sz:=by rw [← hl,h2]
   subst W
   have O:I[j] =e:=by rw [List.getElem?_eq_getElem hj] at h3; grind
   obtain⟨u,b1,b2,b3,rfl,hu,G,-⟩:=OwnC.split j hj J
   rw [O] at G
   have C:w.cell? ⟨g,o+(i*sz'+j),none⟩=some u:=by rw [hb.cell,← Nat.add_assoc]; exact hu
   have q:w'.cell? ⟨g,o+(i*sz'+j),none⟩=some u:=by
    grind [World.cell?]
   rw [hv,hdr,hdr]
   simp only
   rw [C,q]
   exact fV G h4 fun x hx=>hk x (by simp [hx])
theorem Own.row_len {V w:World} {rows:List (List D)} {v:Value} {fp:List Nat} (h:Own V w (.sl rows) v fp) {i:Nat} {row:List D} (hi:rows[i]? =some row):
  ∃g o c e cs fps,v= .slice (some ⟨g,o,none⟩) rows.length c∧rows.length≤c∧c≤maxLen∧Blk w g e cs∧o+c*row.length≤cs.length∧OwnR V w cs row.length o rows fps∧fp=g::fps:=by
 have j:=BU hi
 simp only [Own] at h
 rcases h with ⟨rfl,-,-⟩|⟨sz',g,o,c,te,cs,fps,hv,hn,hc,hb,hlen,hr,rfl⟩
 ·grind
 ·obtain⟨C,q,u,rfl,p,-,-⟩:=OwnR.split i j hr
  rw [List.getElem?_eq_getElem j] at hi
  rw [Option.some.inj hi] at p
  subst p
  exact⟨g,o,c,te,cs,_,hv,hn,hc,hb,hlen,hr,rfl⟩
theorem At.flat {q:Pth}:∀ {p:Pth} {d G u:D} {r:List (List D)},At p d G→(∀x,G≠ .sl x)→(∀x,u≠ .sl x)→At q (Ab.put p d u) (.sl r)→∃r',At q d (.sl r'):=by
 induction q with
 |nil=>
  intro p d G u r hp h W C
  simp only [At] at C
  cases p with
  |nil=>grind [Ab.put]
  |cons s p=>obtain⟨_,_,_⟩:=s; cases d <;> simp only [At] at hp; exact⟨_,rfl⟩
 | cons s q ih=>
  obtain⟨sz,i,j⟩:=s
  intro p d G u r hp h W C
  cases p with
  |nil=>
   simp only [Ab.put] at C
   cases u <;> simp only [At] at C
   grind
  | cons t p=>
   obtain⟨I,U,O⟩:=t
   cases d <;> simp only [At] at hp
   rename_i v
   obtain⟨J,e,h1,h2,h3,Y⟩:=hp
   have F:Ab.put ((I,U,O)::p) (.sl v) u= .sl (v.set U (J.set O (Ab.put p e u))):=by
    rw [Ab.put,h1]; simp only; rw [h3]
   rw [F] at C
   grind [At]
end Go.Proofs.YthenkmapmnkelaaGreatDoor.Ab
