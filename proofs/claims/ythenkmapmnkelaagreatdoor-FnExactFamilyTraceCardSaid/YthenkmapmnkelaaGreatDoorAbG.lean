/- The abstract walk, seventh part. -/
import Derived.Test.YthenkmapmnkelaaGreatDoorAbF
namespace Go.Proofs.YthenkmapmnkelaaGreatDoor.Ab
set_option linter.unusedVariables false
set_option maxHeartbeats 1000000
set_option linter.unusedSimpArgs false
open Go.RowKit
theorem Fc {w0} {γ} {a} {u} {vs} (ha:VSim w0 γ a u) (h:cellsOf a=some vs):AH w0 γ vs u.cells.toList:=by
 cases a with
 |any=>grind [cellsOf]
 |tup vs=>grind [cellsOf]
 |agg vs'=>
  grind [cellsOf,VSim,Value.cells]
 |mpc q rows=>grind [cellsOf]
 |mpr b=>grind [cellsOf,VSim,AH,Value.cells]
 |int k n=>grind [cellsOf,VSim,AH,Value.cells]
 |bool b=>grind [cellsOf,VSim,AH,Value.cells]
 |str s=>grind [cellsOf,VSim,AH,Value.cells]
 |nilp=>grind [cellsOf,VSim,AH,Value.cells]
 |nils=>grind [cellsOf,VSim,AH,Value.cells]
 |box b off=>grind [cellsOf,VSim,AH,Value.cells]
 |bsl b n sz=>grind [cellsOf,VSim,AH,Value.cells]
 |ro rows=>grind [cellsOf,VSim,Rep,AH,Value.cells]
 |rop ds off=>grind [cellsOf,VSim,AH,Value.cells]
 |elt t sz i off=>grind [cellsOf,VSim,AH,Value.cells]
 |par t sz i n=>grind [cellsOf,VSim,AH,Value.cells]
 |els t g p sz i off=>grind [cellsOf,VSim,AH,Value.cells]
 |sub t g p=>grind [cellsOf,VSim,AH,Value.cells]
 |fn f caps=>simp only [cellsOf,Option.some.injEq] at h; subst h; have h2:=ha; simp only [VSim] at ha; obtain⟨_,j,-⟩:=ha; rcases j with ⟨-,rfl⟩|⟨_,_,-,rfl⟩ <;> (simp only [AH,Value.cells]; exact⟨_,_,rfl,h2,rfl⟩)
 |own t=>grind [cellsOf,VSim,AH,Value.cells]
theorem TU {a} {vs} (h:cellsOf a=some vs):PD vs=true:=by
 cases a with
 |agg vs'=>
  grind [cellsOf]
 |any=>grind [cellsOf]
 |tup vs=>grind [cellsOf]
 |mpc q rows=>grind [cellsOf]
 |_=>simp only [cellsOf,Option.some.injEq] at h; subst h; rfl
theorem fk {a b}:PD (a++b)=(PD a&&PD b):=by simp [PD]
theorem KX {w0} {γ} (u:Value):VSim w0 γ (zAV u) u:=by
 unfold zAV
 split
 ·rename_i k n
  split
  ·rename_i h; subst h; exact DQ (by cases k <;> simp [Lit.wf,IntKind.min,IntKind.max,IntKind.signed,IntKind.bits])
  ·trivial
 ·rfl
 ·split
  ·grind [We]
  ·trivial
 ·rfl
 ·rfl
 ·trivial
theorem Qg:∀ (cs:List Value) (k:Nat) (A B C:List Value) (off:Nat),A.length=off+k→B.length=cs.length→
  (cs.zipIdx k).foldl (fun (acc:Array Value) (x:Value × Nat)=>acc.setIfInBounds (off+x.2) x.1) (A++(B++C)).toArray =(A++(cs++C)).toArray
 | [],k,A,B,C,off,hA,hB=>by
  simp_all
 | c::cs,k,A,B,C,off,hA,hB=>by
  match B,hB with
  | b::B,hB=>
   simp only [List.zipIdx_cons,List.foldl_cons]
   have e:(A++(b::B++C)).toArray.setIfInBounds (off+k) c=((A++[c])++(B++C)).toArray :=by
    rw [List.setIfInBounds_toArray,← hA,List.set_append_right _ _ (Nat.le_refl _),Nat.sub_self]
    simp
   rw [e,Qg cs (k+1) (A++[c]) B C off (by simp; omega) (by simpa using hB)]
   simp
theorem X4 (sz:Nat):∀ (vs:List Value) (k:Nat) (A B:List Value),(∀v ∈ vs,v.cells.size=sz)→A.length=k*sz→B.length=vs.length*sz→
  Instr.fill (fun i=>some (i*sz,sz)) (A++B).toArray ((vs.zipIdx k).map fun x=>(x.2,x.1))=some (A++(vs.map fun v=>v.cells.toList).flatten).toArray
 | [],k,A,B,hv,hA,hB=>by
  simp_all [Instr.fill]
 | v::vs,k,A,B,hv,hA,hB=>by
  have hs:=hv v (by simp)
  rw [List.length_cons,Nat.add_mul] at hB
  have q:v.cells.toList.length=sz:=by simpa using hs
  have key:Array.foldl (fun cs x=>match x with|(c,j)=>cs.setIfInBounds (k*sz+j) c) (A++B).toArray v.cells.zipIdx=((A++v.cells.toList)++B.drop sz).toArray :=by
   have p:=Qg v.cells.toList 0 A (B.take sz) (B.drop sz) (k*sz) (by omega) (by rw [List.length_take]; omega)
   rw [List.take_append_drop] at p
   rw [← Array.foldl_toList,Array.toList_zipIdx,List.append_assoc]
   exact p
  simp only [List.zipIdx_cons,List.map_cons,Instr.fill]
  rw [if_neg]
  ·rw [key,X4 sz vs (k+1) (A++v.cells.toList) (B.drop sz) (fun x hx=>hv x (by simp [hx])) (by rw [List.length_append,Nat.add_mul]; omega) (by rw [List.length_drop]; omega)]
   simp
  ·simp only [hs,ne_eq,not_true_eq_false,decide_false,Bool.false_or,decide_eq_true_eq]
   simp only [List.size_toArray,List.length_append]
   omega
theorem EI {α:Type}:∀ (cs vs:List α) (off:Nat),off+cs.length≤vs.length→splice vs off cs=vs.take off++(cs++vs.drop (off+cs.length))
 | [],vs,off,h=>by simp [splice]
 | c::cs,vs,off,h=>by
  rw [List.length_cons] at h
  rw [splice,EI cs (vs.set off c) (off+1) (by rw [List.length_set]; omega)]
  have h1:(vs.set off c).take (off+1)=vs.take off++[c] :=by
   rw [List.take_succ_eq_append_getElem (by rw [List.length_set]; omega)]
   simp [List.take_set_of_le]
  have h2:(vs.set off c).drop (off+1+cs.length)=vs.drop (off+(cs.length+1)):=by
   rw [List.drop_set_of_lt (by omega)]
   grind
  rw [h1,h2]
  simp
theorem AH.splice {w0} {γ}:∀ {cs vs} {us ws} {off},AH w0 γ vs us→AH w0 γ cs ws→AH w0 γ (Ab.splice vs off cs) (Ab.splice us off ws)
 | [],vs,us,ws,off,h,hc=>by simp only [AH] at hc; subst hc; exact h
 |c::cs,vs,us,ws,off,h,hc=>by
  simp only [AH] at hc
  obtain⟨u,j,rfl,h1,h2⟩:=hc
  rw [Ab.splice,Ab.splice]
  exact AH.splice (h.set h1 off) h2
theorem LQ {α:Type}:∀ (cs vs:List α) (off:Nat),(splice vs off cs).length =vs.length
 | [],vs,off=>rfl
 |c::cs,vs,off=>by rw [splice,LQ]; simp
theorem dM {pl} {us} {f off size} {v} {rest} (hp:pl f=some (off,size)) (hs:v.cells.size=size) (hl:off+v.cells.size≤us.length):
  Instr.fill pl us.toArray ((f,v)::rest)=Instr.fill pl (splice us off v.cells.toList).toArray rest:=by
 have key:Array.foldl (fun cs x=>match x with|(c,j)=>cs.setIfInBounds (off+j) c) us.toArray v.cells.zipIdx=(splice us off v.cells.toList).toArray :=by
  have p:v.cells.toList.length=v.cells.size:=Array.length_toList
  have q:=Qg v.cells.toList 0 (us.take off) ((us.drop off).take v.cells.size) (us.drop (off+v.cells.size)) off (by rw [List.length_take]; omega) (by rw [List.length_take,List.length_drop,p]; omega)
  have u:us.take off++((us.drop off).take v.cells.size++us.drop (off+v.cells.size))=us:=by
   rw [← List.drop_drop,List.take_append_drop,List.take_append_drop]
  rw [u] at q
  rw [EI _ _ _ (by rw [p]; exact hl),p,← Array.foldl_toList,Array.toList_zipIdx]
  exact q
 grind [Instr.fill]
theorem MU {P:Program} {w0:World} {γ:Gh} {e:Operand→AV} {ρ:Operand→Value} {fs:List (Nat × TypeId)} {pl:Nat→Option (Nat × Nat)} (hpl:∀f q,fs[f]? =some q→pl f=some (q.1,tsz P q.2)):
  ∀ {parts:List (Nat × Operand)} {vs ws:List AV} {us:List Value},(∀x ∈ parts,VSim w0 γ (e x.2) (ρ x.2))→AH w0 γ vs us→LK P fs vs (parts.map fun x=>(x.1,e x.2))=some ws→
   ∃j,Instr.fill pl us.toArray (parts.map fun x=>(x.1,ρ x.2))=some j.toArray∧AH w0 γ ws j
 | [],vs,ws,us,_,hv,h=>by
  simp only [List.map_nil,LK,Option.some.injEq] at h
  subst h
  exact⟨us,rfl,hv⟩
 | (f,x)::parts,vs,ws,us,hx,hv,h=>by
  simp only [List.map_cons,LK] at h
  cases hq:fs[f]? with
  |none=>grind
  | some q=>
   cases hc:cellsOf (e x) with
   |none=>grind
   | some cs=>
    simp only [hq,hc] at h
    split at h
    ·rename_i v
     have h1:=Fc (hx (f,x) (by simp)) hc
     have h2:=h1.length
     have h3:(ρ x).cells.toList.length =(ρ x).cells.size :=Array.length_toList
     have p:(ρ x).cells.toList.length =cs.length:=h2
     have u:=hv.length
     obtain⟨j,k1,k2⟩:=MU hpl (parts:=parts) (fun y hy=>hx y (by grind)) (hv.splice h1 (off:=q.1)) h
     grind [dM]
    grind
theorem mO {q} {V w} {u} {d} (h:zD q u=some d):Own V w d u [] :=by
 unfold zD at h
 split at h
 ·rename_i k n
  split at h
  ·rename_i j
   simp only [Option.some.injEq] at h; subst h; subst j
   rw [Own]
   exact⟨rfl,by cases k <;> simp [Lit.wf,IntKind.min,IntKind.max,IntKind.signed,IntKind.bits],rfl⟩
  grind
 ·grind [Own]
 ·grind [Own]
 ·cases h; cases q
  ·exact .inl ⟨rfl,⟨none,0,rfl,Nat.zero_le _⟩,rfl⟩
  ·exact⟨⟨none,0,rfl,Nat.le_refl _,Nat.zero_le _,.inl rfl⟩,rfl⟩
  ·exact⟨⟨none,rfl⟩,rfl⟩
 ·grind [Own]
 grind
theorem fl {q} {V w} {cs}:∀ (zs:List Value) (ds:List D) (o:Nat),zDs q zs=some ds→(∀j u,zs[j]? =some u→cs[o+j]? =some u)→OwnC V w cs o ds []
 | [],ds,o,h,_=>by grind [zDs,OwnC]
 | z::zs,ds,o,h,hc=>by
  simp only [zDs] at h
  cases h1:zD q z with
  |none=>simp [h1] at h
  | some d=>
   cases h2:zDs q zs with
   |none=>simp [h1,h2] at h
   |some ds'=>
    simp only [h1,h2,Option.some.injEq] at h
    subst h
    simp only [OwnC]
    refine⟨z,[],[],hc 0 z (by simp),mO h1,fl zs ds' (o+1) h2 fun j u hj=>?_,rfl⟩
    have:=hc (j+1) u (by simpa using hj)
    rw [← this]; congr 1; omega
theorem ba {q}:∀ {zs} {ds},zDs q zs=some ds→ds.length=zs.length
 | [],ds,h=>by grind [zDs]
 | z::zs,ds,h=>by
  simp only [zDs] at h
  split at h
  ·rename_i d j h1 h2
   simp only [Option.some.injEq] at h; subst h
   simp [ba h2]
  ·cases h
theorem fo {q} {V w} {cs zs} {ds} {sz} (hz:zDs q zs=some ds) (hl:zs.length=sz) (hsz:0<sz):∀ (n o:Nat),(∀j,j<n*sz→cs[o+j]? =zs[j % sz]?)→OwnR V w cs sz o (List.replicate n ds) []
 |0,o,_=>by rfl
 | n+1,o,h=>by
  rw [List.replicate_succ]
  simp only [OwnR]
  have v:(n+1)*sz=n*sz+sz:=Nat.succ_mul n sz
  refine⟨[],[],by rw [ba hz,hl],fl zs ds o hz fun j u hj=>?_,fo hz hl hsz n (o+sz) fun j hj=>?_,rfl⟩
  ·have p:j<sz:=by rw [← hl]; grind
   rw [h j (by omega),Nat.mod_eq_of_lt p]; exact hj
  ·have:=h (sz+j) (by omega)
   rw [Nat.add_mod_left] at this
   rw [← this]; grind
structure Chg (w w':World) (W:Nat→Prop):Prop where
 os:w'.os=w.os
 tape:w'.tape=w.tape
 output:w'.output=w.output
 size:w.heap.size≤w'.heap.size
 block:∀k,k<w.heap.size→¬W k→w'.heap[k]? =w.heap[k]?
 shape:∀b x,w.shape? b=some x→w'.shape? b=some x
theorem Chg.refl (w:World) (W:Nat→Prop):Chg w w W:=⟨rfl,rfl,rfl,Nat.le_refl _,fun _ _ _=>rfl,fun _ _ h=>h⟩
theorem Chg.below {w w'} (h:Below w.heap.size w w') (W:Nat→Prop):Chg w w' W:=⟨h.os,h.tape,h.output,h.size,fun k hk _=>h.block k hk,fun b x hx=>by
 have j:b<w.heap.size:=by
  grind [World.shape?]
 unfold World.shape? at hx ⊢
 rw [h.block b j]; exact hx⟩
theorem Chg.setRow {w} {g} {cur cs} {e} (hg:w.heap[g]? =some (.cells cur e (0,0))) (hl:cs.size=cur.size):Chg w (w.setRow g cs) (· =g):=
 ⟨rfl,rfl,rfl,by simp,fun k _ hk=>setRow_other w g k cs hk,fun b x hx=>by
  by_cases hb:b=g
  ·subst hb
   unfold World.shape? at hx ⊢
   rw [hg] at hx
   rw [setRow_heap w b cur cs e (0,0) hg]
   grind
  grind [World.shape?,setRow_other]⟩
theorem Rg {P:Program} {w w':World} (h:w.ShapedOpen P) (same:∀i,i<P.low→i<w.heap.size→w'.heap[i]? =w.heap[i]?) (hsh:∀b x,w.shape? b=some x→w'.shape? b=some x):w'.ShapedOpen P:=by
 refine⟨fun g zero t hg hz=>?_,fun k p j=>?_⟩
 ·obtain⟨cs,h1,h2,h3⟩:=h.1 g zero t hg hz
  have q:g<P.low:=by
   grind [Program.low]
  grind [Row.ok_of_shape]
 ·obtain⟨o,u,h1,h2,h3⟩:=h.2 k p j
  exact⟨o,u,(same k j (lt_of_block h1)).trans h1,h2,h3⟩
structure Free (cx:Cx) (γ:Gh) (T:Nat→Option Tok) (B:Nat→Option (List AV)) (g:Nat):Prop where
 t:∀t tk,γ.tl t→T t=some tk→g ∉ γ.tf t
 b:∀b vs,γ.bl b→B b=some vs→γ.bb b≠g
 fr:cx.we.heap.size≤g∨(cx.LF g∧∀x ∈ cx.L,x.1 ≠g)
 vw:∀o,γ.vw.cell? ⟨g,o,none⟩=none
section
variable {cx:Cx} {γ:Gh} {T:Nat→Option Tok} {B:Nat→Option (List AV)} {w w':World}
theorem OSim.change (hs:OSim cx γ T B w) {W:Nat→Prop} (hc:Chg w w' W) (hW:∀g,W g→Free cx γ T B g):OSim cx γ T B w':=by
 have p:∀t tk,γ.tl t→T t=some tk→∀g ∈ γ.tf t,w'.heap[g]? =w.heap[g]? :=fun t tk h1 h2 g hg=>
  hc.block g ((hs.tok t tk h1 h2).lt g hg) fun j=>(hW g j).t t tk h1 h2 hg
 refine⟨⟨?_,hc.os.trans hs.frm.os,hc.tape.trans hs.frm.tape,hc.output.trans hs.frm.output,Nat.le_trans hs.frm.size hc.size,fun k hk h1 h2=>?_,fun x hx=>?_⟩,fun t tk h1 h2=>(hs.tok t tk h1 h2).keep (p t tk h1 h2),hs.tnd,hs.tds,fun b vs h1 h2=>?_,hs.bds,hs.btd,hs.tfr,hs.bfr,fun t tk h1 h2=>(hs.hds t tk h1 h2).keep (hs.tok t tk h1 h2).own (p t tk h1 h2),hs.beg,⟨hs.vw.k.on fun a u q=>?_,hs.vw.t,hs.vw.b,hs.vw.f⟩⟩
 ·refine Rg hs.frm.sh (fun i J C=>hc.block i C fun j=>?_) hc.shape
  rcases (hW i j).fr with h|⟨h,-⟩
  ·have:=cx.lowe; omega
  ·have:=cx.low i (.inl h); omega
 ·rw [hc.block k (Nat.lt_of_lt_of_le hk hs.frm.size) ?_]
  ·exact hs.frm.block k hk h1 h2
  ·intro j
   rcases (hW k j).fr with h|⟨h,-⟩
   ·omega
   grind
 ·have F:=hs.frm.lent x hx
  refine F.keep (hc.block x.1 F.lt ?_)
  intro j
  rcases (hW x.1 j).fr with h|⟨-,h⟩
  ·have:=F.lt0; omega
  grind
 ·obtain⟨us,h3,G⟩:=hs.box b vs h1 h2
  exact⟨us,h3,G.keep (hc.block _ G.lt fun j=>(hW _ j).b b vs h1 h2 rfl)⟩
 ·have h1:=hs.vw.k a u q
  have v:=World.block_lt_of_cell? w a h1
  have I:=hc.block a.block v fun j=>by
   rw [KS q,(hW _ j).vw] at q; cases q
  exact I
open Classical in
noncomputable def hvp (γ:Gh) (w:World) (t:Nat) (v:Value) (k x g:Nat):Pth→Value:=if x=t∧g=k∧¬ (γ.tl t∧γ.gl t k) then hdr w v else γ.hv x g
theorem Wg {γ} {w} {t} {v} {k x g} (h:¬ (x=t∧g=k∧¬ (γ.tl t∧γ.gl t k))):hvp γ w t v k x g=γ.hv x g:=by unfold hvp; rw [if_neg h]
theorem jX {γ} {w} {t} {v} {k x g} (h:x=t∧g=k∧¬ (γ.tl t∧γ.gl t k)):hvp γ w t v k x g=hdr w v:=by unfold hvp; rw [if_pos h]
noncomputable def Gh.tok (γ:Gh) (w:World) (t:Nat) (v:Value) (fp:List Nat) (k:Nat):Gh:= {γ with
 tl:=fun x=>γ.tl x∨x=t,tv:=fun x=>if x=t then v else γ.tv x,tf:=fun x=>if x=t then fp else γ.tf x,
 gl:=fun x g=>if x=t then (γ.tl t∧γ.gl t g)∨g=k else γ.gl x g,
 hv:=hvp γ w t v k}
theorem Gh.tok_ext {γ} {w} {t} {v} {fp} {k} (h:γ.tl t→γ.tv t=v):Gh.Ext γ (γ.tok w t v fp k):=
 ⟨fun _ h=>.inl h,fun x hx=>by
  show (if x=t then _ else _)=_
  grind,fun _ h=>h,fun _ _=>rfl,fun _ _=>rfl,fun x g h1 h2=>by
  show (if x=t then _ else _)
  grind,fun x g h1 h2=>by
  exact Wg fun e=>by grind,Keeps.refl _⟩
theorem OSim.putTok (hs:OSim cx γ T B w) {t} {tk} {v} {fp} (hT:T t=none) (hv:γ.tl t→γ.tv t=v) (hok:Ae γ.vw w tk v fp) (hn:fp.Nodup) (hf:∀g ∈ fp,Free cx γ T B g)
  (hg1:γ.tl t→∀k,γ.gl t k→k≤tk.gen) (hg2:γ.tl t→γ.gl t tk.gen→∀q d,At q (.sl tk.rows) d→isSl d→hdr w v q=γ.hv t tk.gen q):
  OSim cx (γ.tok w t v fp tk.gen) (fun x=>if x=t then some tk else T x) B w:=by
 have he:=Gh.tok_ext (w:=w) (fp:=fp) (k:=tk.gen) hv
 have p:∀x,(γ.tok w t v fp tk.gen).tf x=if x=t then fp else γ.tf x:=fun _=>rfl
 have C:∀x,(γ.tok w t v fp tk.gen).tv x=if x=t then v else γ.tv x:=fun _=>rfl
 refine⟨hs.frm,fun x j h1 h2=>?_,fun x j h1 h2=>?_,fun x y F I O h1 h2 h3 u g hg=>?_,fun b vs h1 h2=>?_,hs.bds,fun b x vs j h1 h2 h3 u=>?_,fun x j h1 h2=>?_,hs.bfr,fun x j h1 h2=>?_,hs.beg.trans he,⟨hs.vw.k,fun x j h1 h2=>?_,hs.vw.b,hs.vw.f⟩⟩
 ·rw [p,C]
  by_cases hx:x=t
  ·simp only [if_pos hx,Option.some.injEq] at h2 ⊢; subst h2; exact hok
  ·simp only [if_neg hx] at h2 ⊢; exact hs.tok x j (h1.resolve_right hx) h2
 ·rw [p]
  by_cases hx:x=t
  ·grind
  ·simp only [if_neg hx] at h2 ⊢; exact hs.tnd x j (h1.resolve_right hx) h2
 ·rw [p] at hg ⊢
  by_cases hx:x=t
  ·have hy:y≠t:=fun e=>O (hx.trans e.symm)
   simp only [if_pos hx] at hg
   simp only [if_neg hy] at u ⊢
   exact(hf g hg).t y I (h2.resolve_right hy) u
  ·simp only [if_neg hx] at h3 hg
   by_cases hy:y=t
   ·simp only [if_pos hy]
    intro hm
    exact(hf g hm).t x F (h1.resolve_right hx) h3 hg
   ·simp only [if_neg hy] at u ⊢
    exact hs.tds x y F I O (h1.resolve_right hx) (h2.resolve_right hy) h3 u g hg
 ·obtain⟨us,h3,u⟩:=hs.box b vs h1 h2
  exact⟨us,AH.mono (Keeps.refl _) he h3,u⟩
 ·rw [p]
  by_cases hx:x=t
  ·simp only [if_pos hx]
   intro hm
   exact(hf _ hm).b b vs h1 h3 rfl
  ·simp only [if_neg hx] at u ⊢; exact hs.btd b x vs j h1 (h2.resolve_right hx) h3 u
 ·rw [p]
  by_cases hx:x=t
  ·simp only [if_pos hx]; exact fun g hg=>(hf g hg).fr
  ·simp only [if_neg hx] at h2 ⊢; exact hs.tfr x j (h1.resolve_right hx) h2
 ·by_cases hx:x=t
  ·subst hx
   have U:(if x=x then some tk else T x)=some j:=h2
   rw [if_pos rfl,Option.some.injEq] at U; subst U
   have G:∀g,(γ.tok w x v fp tk.gen).gl x g=((γ.tl x∧γ.gl x g)∨g=tk.gen):=fun g=>by show (if x=x then _ else _)=_; rw [if_pos rfl]
   refine⟨by rw [G]; omega,fun g hg=>?_,fun q r Y J=>?_⟩
   ·rw [G] at hg
    grind
   ·rw [C,if_pos rfl]
    show _=hvp γ w x v tk.gen x tk.gen q
    by_cases e:γ.tl x∧γ.gl x tk.gen
    ·rw [Wg fun h=>h.2.2 e]; grind
    ·rw [jX ⟨rfl,rfl,e⟩]
  ·simp only [if_neg hx] at h2
   have W:=hs.hds x j (h1.resolve_right hx) h2
   have G:∀g,(γ.tok w t v fp tk.gen).gl x g=γ.gl x g:=fun g=>by show (if x=t then _ else _)=_; rw [if_neg hx]
   have e2:∀g,(γ.tok w t v fp tk.gen).hv x g=γ.hv x g:=fun g=>Wg fun h=>hx h.1
   have e3:(γ.tok w t v fp tk.gen).tv x=γ.tv x:=by rw [C,if_neg hx]
   exact⟨by rw [G]; exact W.1,fun g hg=>by rw [G] at hg; exact W.2.1 g hg,fun q r Y J=>by rw [e2,e3]; exact W.2.2 q r Y J⟩
 ·rw [p]
  by_cases hx:x=t
  ·simp only [if_pos hx]; exact fun g hg=>(hf g hg).vw
  ·simp only [if_neg hx] at h2 ⊢; exact hs.vw.t x j (h1.resolve_right hx) h2
end
end Go.Proofs.YthenkmapmnkelaaGreatDoor.Ab
