/-
  The abstract walk, fourth part: each operation that reads, computes, makes memory or calls does in the model what 'Ev' says.
-/
import Derived.Test.YtclmbjbbojdojaaGreatAbC
namespace Go.Proofs.YtclmbjbbojdojaaGreat.Ab
set_option linter.unusedVariables false
set_option maxHeartbeats 1000000
set_option linter.unusedSimpArgs false
open Go.RowKit
section
variable {P:Program} {w:World}
theorem I3 {t e} (h:ti P t= .sl e):P.underlying t=some (.slice e):=by
 unfold ti at h; split at h <;> simp_all
theorem Zn {t} {k} (h:ti P t= .int k):P.underlying t=some (.int k):=by
 unfold ti at h; split at h <;> simp_all
theorem W5 {t} (h:ti P t= .str):P.underlying t=some .string :=by
 unfold ti at h; split at h <;> simp_all
theorem X8 {t} {fs} (h:ti P t= .st fs):∃gs,P.underlying t=some (.struct gs)∧fs=gs.toList.map fun f=>(f.offset,f.type):=by
 unfold ti at h; split at h <;> simp_all
theorem Zo {t e} {n} (h:ti P t= .arr n e):P.underlying t=some (.array n e):=by
 unfold ti at h; split at h <;> simp_all
theorem X9 {t} (h:(ti P t).isAgg =true):(isAgg t).run P w= .ok true w:=by
 unfold ti at h
 split at h <;> simp [TI.isAgg] at h
 ·simp_all [isAgg,run_underlying]
 simp_all [isAgg,run_underlying]
theorem bD {t} (h:(ti P t).sc =true):(isAgg t).run P w= .ok false w:=by
 unfold ti at h
 split at h <;> simp [TI.sc] at h <;> (rename_i hu; simp [isAgg,run_underlying hu])
theorem Mz {t} (h:0<tsz P t):∃i,P.info? t=some i∧i.size=tsz P t:=by
 unfold tsz at h ⊢
 cases hi:P.info? t with
 |none=>grind
 |some i=>grind
theorem DZ {t} (h:0<tsz P t):(sizeOf t).run P w= .ok (tsz P t) w:=by
 obtain⟨i,h1,h2⟩:=Mz h
 simp_all [sizeOf,typeInfo]
theorem T0 {t} (h:(ti P t).isAgg =true):(sizeOf t).run P w= .ok (tsz P t) w:=by
 have hi:∃i,P.info? t=some i:=by
  unfold ti at h
  split at h <;> simp [TI.isAgg] at h <;>
  ·rename_i hu
   unfold Program.underlying at hu
   cases hi:P.info? t with
   |none=>simp [hi] at hu
   |some i=>exact⟨i,rfl⟩
 obtain⟨i,hi⟩:=hi
 simp [sizeOf,typeInfo,hi,tsz]
theorem L2 {o} {a} {next} {Q} {v} {w'} (h:(execOp a.eval o).run P w= .ok (.value v) w') (k:next (a.put o.dst v) w'):o.wp P a w next Q:=by
 unfold Oper.wp; rw [h]; exact k
theorem Ko {t:TypeId} (h:(ti P t).isAgg =true) {b off:Nat} {us:List Value} (hl:us.length=tsz P t) (hc:∀j u,us[j]? =some u→w.cell? ⟨b,off+j,none⟩=some u):
  (Instr.loadAt t (.pointer (some ⟨b,off,none⟩))).run P w= .ok (.agg us.toArray) w:=by
 have h1:=run_loadCells_list (P:=P) (w:=w) ⟨b,off,none⟩ us (fun j u hu=>by rw [Addr.add_lit]; grind)
 rw [hl] at h1
 simp_all [Instr.loadAt,Instr.sureAddr,loadVar,X9,T0]
theorem O1 {t} (h:(ti P t).sc =true) {b off} {u} (hc:w.cell? ⟨b,off,none⟩=some u):
  (Instr.loadAt t (.pointer (some ⟨b,off,none⟩))).run P w= .ok u w:=by
 simp [Instr.loadAt,Instr.sureAddr,loadVar,bD h,hc]
end
mutual
theorem VSim.of_rep {w0} {γ}:∀ {d} {v},Rep w0 d v→VSim w0 γ (ofD d) v
 | .int k n,_,h=>by grind [ofD,VSim,Rep]
 | .bool b,_,h=>by grind [ofD,VSim,Rep]
 | .str s,_,h=>by grind [ofD,VSim,Rep]
 | .sl rows,_,h=>by grind [ofD,VSim]
 | .fz rows,_,h=>by grind [ofD,VSim,Rep]
 | .gone,_,_=>by grind [ofD,VSim]
 | .nilp,_,h=>by grind [ofD,VSim,Rep]
 | .nl,_,h=>by simp only [Rep] at h; obtain⟨a,h⟩:=h; exact⟨a,0,h,Nat.le_refl _,Nat.zero_le _,.inl rfl⟩
 | .ptr ds,_,h=>by
  simp only [Rep] at h
  obtain⟨b,off,rfl,hc⟩:=h
  obtain⟨us,h1,h2⟩:=O2 hc
  simp only [ofD,VSim]
  exact⟨b,off,us,rfl,h1,h2⟩
theorem O2 {w0} {γ} {b}:∀ {o} {ds},RepC w0 b o ds→∃us:List Value,AH w0 γ (Tn ds) us∧∀j u,us[j]? =some u→w0.cell? ⟨b,o+j,none⟩=some u
 |_,[],_=>⟨[],by rfl,fun j u h=>by grind⟩
 |o,d::ds,h=>by
  simp only [RepC] at h
  obtain⟨⟨u,hu,hr⟩,h2⟩:=h
  obtain⟨us,h3,h4⟩:=O2 h2
  refine⟨u::us,by simp only [Tn,AH]; exact⟨u,us,rfl,VSim.of_rep hr,h3⟩,fun j x hx=>?_⟩
  grind
end
theorem RT {w0} {γ} {b} {o} {ds} (h:RepC w0 b o ds):∃us:List Value,AH w0 γ (ds.map ofD) us∧∀j u,us[j]? =some u→w0.cell? ⟨b,o+j,none⟩=some u:=by
 rw [← a7]; exact O2 h
theorem AH.take_drop {w0} {γ} {vs} {us} (h:AH w0 γ vs us) (off n:Nat):AH w0 γ (GS vs off n) ((us.drop off).take n):=by
 have hl:=h.length
 refine AH.mk (by simp [GS,hl]) fun i a u h1 h2=>?_
 unfold GS at h1
 by_cases hi:i<n
 ·rw [List.getElem?_take_of_lt hi,List.getElem?_drop] at h1 h2
  obtain⟨u',h3,h4⟩:=h.get h1
  rw [h3] at h2; grind
 grind
theorem QB {w}:∀ (p q:Pth) (v:Value),hdr w v (p++q)=hdr w (hdr w v p) q
 | [],q,v=>by rfl
 | (sz,i,j)::p,q,v=>by
  have dead:hdr w (.tuple #[]) q= .tuple #[] :=by
   cases q with
   |nil=>rfl
   |cons s q=>rfl
  rw [List.cons_append]
  by_cases hv:∃a n c,v= .slice (some a) n c
  ·obtain⟨a,n,c,rfl⟩:=hv
   rw [hdr,hdr]
   cases w.cell? ⟨a.block,a.off+(i*sz+j),none⟩ with
   |none=>exact dead.symm
   |some u=>exact QB p q u
  ·have h1:∀r,hdr w v ((sz,i,j)::r)= .tuple #[] :=fun r=>by
    cases v with
    |slice a n c=>
     cases a with
     |none=>simp only [hdr]
     |some a=>exact absurd ⟨_,_,_,rfl⟩ hv
    |_=>simp only [hdr]
   rw [h1,h1,dead]
def AtR (p:Pth) (rows r:List (List D)):Prop:=∃d,At p (.sl rows) d∧Ie d=some r
theorem AtR.sl {p rows r} (h:AtR p rows r) (hr:r≠ []):At p (.sl rows) (.sl r):=by
 obtain⟨d,h1,h2⟩:=h
 cases d <;> simp_all [Ie]
theorem QC:∀ {p} {rows r},getP p rows=some r→AtR p rows r
 | [],rows,r,h=>⟨.sl rows,by grind [getP,At,Ie]⟩
 | (sz,i,j)::p,rows,r,h=>by
  rw [getP] at h
  split at h
  ·rename_i row hr
   split at h
   ·rename_i hl
    split at h
    ·rename_i r1 hj
     obtain⟨d0,hd,hd1⟩:=Option.bind_eq_some_iff.1 hj
     cases d0 <;> simp [Ie] at hd1
     ·subst hd1
      obtain⟨d,h1,h2⟩:=QC h
      exact⟨d,⟨row,_,hr,hl,hd,h1⟩,h2⟩
     ·subst hd1
      cases p with
      |nil=>rw [getP] at h; cases h; exact⟨.nl,⟨row,_,hr,hl,hd,rfl⟩,rfl⟩
      |cons q p=>obtain⟨_,_,_⟩:=q; simp [getP] at h
    ·cases h
   ·cases h
  ·cases h
theorem T1 {V w} {d} {v} {fp} {r} (h:Own V w d v fp) (hd:Ie d=some r):Own V w (.sl r) v fp:=by
 cases d <;> simp [Ie] at hd
 ·subst hd; exact h
 ·subst hd; simp only [Own] at h; obtain⟨⟨a,h⟩,h2⟩:=h; exact .inl ⟨rfl,⟨a,0,h,Nat.zero_le _⟩,h2⟩
theorem Kp {w0} {γ} {T} {B} {w} {t g} {p} {rows} (hs:VwOk w0 γ T B w) (htl:γ.tl t) (h:subR T t g p=some rows):
  ∃tk f1 f2 f3,T t=some tk∧tk.gen=g∧AtR p tk.rows rows∧γ.gl t g∧γ.tf t=f1++(f2++f3)∧Own (tk.vw w0) w (.sl rows) (γ.hv t g p) f2∧
   ∀ (w':World) (d':D) (f2':List Nat),(∀x ∈ f1++f3,w'.heap[x]? =w.heap[x]?)→Own (tk.vw w0) w' d' (γ.hv t g p) f2'→Own (tk.vw w0) w' (put p (.sl tk.rows) d') (γ.tv t) (f1++(f2'++f3)):=by
 unfold subR at h
 split at h
 ·rename_i tk hT
  split at h
  ·rename_i hg
   have ha:=QC h
   have ha0:=ha
   obtain⟨d1,ha,hd1⟩:=ha
   obtain⟨f1,f2,f3,h1,h2,h3⟩:=(hs.tok t tk htl hT).own.path ha
   have hh:=hs.hds t tk htl hT
   have he:=hh.2.2 p d1 ha (by simp [isSl,hd1])
   subst hg
   rw [he] at h2 h3
   refine⟨tk,f1,f2,f3,hT,rfl,ha0,hh.1,h1,T1 h2 hd1,h3⟩
  grind
 grind
theorem gz {w0} {γ} {T} {B} {w} {t} {tk} (hs:VwOk w0 γ T B w) (htl:γ.tl t) (hT:T t=some tk):subR T t tk.gen [] =some tk.rows∧γ.hv t tk.gen [] =γ.tv t:=by
 have h1:subR T t tk.gen [] =some tk.rows:=by grind [subR,getP]
 refine⟨h1,?_⟩
 have:=(hs.hds t tk htl hT).2.2 [] (.sl tk.rows) (by rfl) Td
 rw [← this]; rfl
theorem cY {cx} {γ} {T} {B} {w} {t g} {p} {rows} {i sz} {row} {b o n c} (hs:OSim cx γ T B w) (htl:γ.tl t) (h:subR T t g p=some rows)
  (hrow:rows[i]? =some row) (hlen:row.length=sz) (hv:γ.hv t g p= .slice (some ⟨b,o,none⟩) n c):
  ∃e cs,Blk w b e cs∧o+i*sz+sz≤cs.length∧∀j d,row[j]? =some d→∃u,cs[o+i*sz+j]? =some u∧VSim γ.vw γ (ofT t g p sz i j d) u:=by
 obtain⟨tk,f1,f2,f3,hT,hg,ha,hgl,-,hown,-⟩:=Kp hs.see htl h
 have hown0:=hown
 rw [hv] at hown
 simp only [Own] at hown
 have hi:=Bb hrow
 rcases hown with ⟨he,-,-⟩|⟨sz',g',o',c',e',cs,fps,hv',h1,h2,hb,h3,hr,-⟩
 ·rw [he] at hi; grind
 ·simp only [Value.slice.injEq,Option.some.injEq,Addr.mk.injEq,and_true] at hv'
  obtain⟨⟨rfl,rfl⟩,-,-⟩:=hv'
  obtain⟨a1,a2,a3,-,hl,hc,-⟩:=hr.split i hi
  rw [List.getElem?_eq_getElem hi] at hrow
  simp only [Option.some.injEq] at hrow
  rw [hrow] at hl hc
  have hsz:sz'=sz:=by omega
  subst hsz
  refine⟨e',cs,hb,?_,fun j d hj=>?_⟩
  ·have:(i+1)*sz'≤rows.length*sz':=Nat.mul_le_mul_right _ hi
   have h6:rows.length*sz'≤c'*sz':=Nat.mul_le_mul_right _ h1
   rw [Nat.add_mul] at this
   omega
  ·have hlt:=Bb hj
   obtain⟨u,_,fp,_,_,h4,h5,-⟩:=hc.split j hlt
   rw [List.getElem?_eq_getElem hlt] at hj
   simp only [Option.some.injEq] at hj
   rw [hj] at h5
   refine⟨u,h4,?_⟩
   cases d with
   |int k n=>grind [Own,ofT,VSim]
   |bool b=>grind [Own,ofT,VSim]
   |str s=>grind [Own,ofT,VSim]
   |gone=>trivial
   |fz rows=>simp only [Own] at h5; simp only [ofT,VSim]; exact Rep.keep (Tok.vwk (AS.refl _)) _ _ h5.1
   |ptr ds=>simp only [Own] at h5; exact VSim.of_rep (d:=.ptr ds) (Rep.keep (Tok.vwk (AS.refl _)) _ _ h5.1)
   |nilp=>grind [Own,ofT,VSim]
   | sl r=>
    have hat:At (p++[(sz',i,j)]) (.sl tk.rows) (.sl r):=(ha.sl (by intro e; rw [e] at hi; exact Nat.not_lt_zero _ hi)).trans (by
     simp only [At]
     grind)
    have hh:=hs.hds t tk htl hT
    have e1:=hh.2.2 _ _ hat rfl
    have e0:=hh.2.2 _ _ (ha.sl (by intro e; rw [e] at hi; exact Nat.not_lt_zero _ hi)) Td
    rw [QB,e0,hg,hv,hdr] at e1
    simp only at e1
    rw [hb.cell,← Nat.add_assoc,h4] at e1
    grind [hdr,ofT,VSim,Own]
   | nl=>
    have hat:At (p++[(sz',i,j)]) (.sl tk.rows) .nl :=(ha.sl (by intro e; rw [e] at hi; exact Nat.not_lt_zero _ hi)).trans (by
     simp only [At]
     grind)
    have hh:=hs.hds t tk htl hT
    have e1:=hh.2.2 _ _ hat rfl
    have e0:=hh.2.2 _ _ (ha.sl (by intro e; rw [e] at hi; exact Nat.not_lt_zero _ hi)) Td
    rw [QB,e0,hg,hv,hdr] at e1
    simp only at e1
    rw [hb.cell,← Nat.add_assoc,h4] at e1
    grind [hdr,ofT,VSim,Own]
theorem YA {t g} {p} {sz i}:∀ {ds} {j k},(X1 t g p sz i j ds)[k]? =(ds[k]?).map (ofT t g p sz i (j+k))
 | [],j,k=>by rfl
 |d::ds,j,0=>by rfl
 |d::ds,j,k+1=>by
  rw [X1,List.getElem?_cons_succ,YA,List.getElem?_cons_succ,show j+1+k=j+(k+1) from by omega]
theorem YB {t g} {p} {sz i}:∀ {ds} {j},(X1 t g p sz i j ds).length =ds.length
 | [],j=>rfl
 |d::ds,j=>by rw [X1,List.length_cons,List.length_cons,YB]
theorem YC {cx:Cx} {γ:Gh} {T:Nat→Option Tok} {B:Nat→Option (List AV)} {w:World} {t:TypeId} {v:AV} {t' g:Nat} {p:Pth} {rows:List (List D)} {i sz off:Nat} {row:List D} {b o n c:Nat} (hs:OSim cx γ T B w) (htl:γ.tl t') (hsub:subR T t' g p=some rows)
  (hrow:rows[i]? =some row) (hlen:row.length=sz) (hv:γ.hv t' g p= .slice (some ⟨b,o,none⟩) n c)
  (h:if (ti cx.P t).isAgg =true then off+tsz cx.P t≤sz∧v= .agg (Ow t' g p sz i row off (tsz cx.P t)) else (ti cx.P t).sc =true∧∃d,row[off]? =some d∧v=ofT t' g p sz i off d):
  ∃u,(Instr.loadAt t (.pointer (some ⟨b,o+i*sz+off,none⟩))).run cx.P w= .ok u w∧VSim γ.vw γ v u:=by
 obtain⟨e,cs,hb,hcl,hcell⟩:=cY hs htl hsub hrow hlen hv
 split at h
 ·rename_i hagg
  obtain⟨hle,rfl⟩:=h
  refine⟨.agg ((cs.drop (o+i*sz+off)).take (tsz cx.P t)).toArray,Ko hagg (by rw [List.length_take,List.length_drop]; omega) fun j u hu=>?_,?_⟩
  ·rw [List.getElem?_take] at hu
   split at hu
   ·rw [List.getElem?_drop] at hu
    rw [hb.cell]; exact hu
   grind
  grind [VSim,AH.mk,Ow,YB,YA]
 ·obtain⟨hsc,d,hd,rfl⟩:=h
  obtain⟨u,h4,h5⟩:=hcell off d hd
  exact⟨u,O1 hsc (by rw [hb.cell]; exact h4),h5⟩
theorem T2 {cx:Cx} {γ:Gh} {T:Nat→Option Tok} {B:Nat→Option (List AV)} {w:World} {t:TypeId} {av v:AV} {a:Value} (hs:OSim cx γ T B w) (ha:VSim γ.vw γ av a) (h:Jx cx.P T B t av v):
  ∃u,(Instr.loadAt t a).run cx.P w= .ok u w∧VSim γ.vw γ v u:=by
 unfold Jx at h
 split at h
 ·rename_i b off
  obtain⟨vs,hB,hm,h⟩:=h
  simp only [VSim] at ha
  obtain⟨hbl,rfl⟩:=ha
  obtain⟨us,h1,h2⟩:=hs.box b vs hbl hB
  replace h2:=h2.cells hm
  have hl:=h1.length
  split at h
  ·rename_i hagg
   obtain⟨hle,rfl⟩:=h
   refine⟨_,Ko hagg (us:=(us.drop off).take (tsz cx.P t)) (by grind) fun j u hu=>?_,?_⟩
   ·rw [List.getElem?_take] at hu
    split at hu
    ·rw [List.getElem?_drop] at hu
     rw [Nat.add_assoc]; exact h2.cell hu
    grind
   ·simp only [VSim]
    exact⟨_,rfl,h1.take_drop off _⟩
  ·obtain⟨hsc,hv⟩:=h
   obtain⟨u,h3,h4⟩:=h1.get hv
   exact⟨u,O1 hsc (h2.cell h3),h4⟩
 ·rename_i vs off
  simp only [VSim] at ha
  obtain⟨b,o,us,rfl,h1,hc⟩:=ha
  have hk:=hs.vw.k
  have hl:=h1.length
  split at h
  ·rename_i hagg
   obtain⟨hle,rfl⟩:=h
   refine⟨_,Ko hagg (us:=(us.drop off).take (tsz cx.P t)) (by grind) fun j u hu=>?_,?_⟩
   ·rw [List.getElem?_take] at hu
    split at hu
    ·rw [List.getElem?_drop] at hu
     rw [Nat.add_assoc]; exact hk _ _ (hc _ _ hu)
    grind
   ·simp only [VSim]
    exact⟨_,rfl,h1.take_drop off _⟩
  ·obtain⟨hsc,hv⟩:=h
   obtain⟨u,h3,h4⟩:=h1.get hv
   exact⟨u,O1 hsc (hk _ _ (hc _ _ h3)),h4⟩
 ·rename_i t' sz i off
  obtain⟨tk,row,hT,hrow,hlen,h⟩:=h
  simp only [VSim] at ha
  obtain⟨htl,g,o,n,c,htv,rfl⟩:=ha
  obtain⟨h1,h2⟩:=gz hs.see htl hT
  exact YC hs htl h1 hrow hlen (h2.trans htv) h
 ·rename_i t' g p sz i off
  obtain⟨rows,row,hsub,hrow,hlen,h⟩:=h
  simp only [VSim] at ha
  obtain⟨⟨htl,-⟩,b,o,n,c,hv,rfl⟩:=ha
  exact YC hs htl hsub hrow hlen hv h
 grind
end Go.Proofs.YtclmbjbbojdojaaGreat.Ab
namespace Go.Proofs.YtclmbjbbojdojaaGreat.Ab
set_option linter.unusedVariables false
set_option maxHeartbeats 1000000
set_option linter.unusedSimpArgs false
open Go.RowKit
theorem Tok.rep_er {tk:Tok} {w:World} {r:List (List D)} {v:Value} (h:Rep w (.sl r) v):Rep w (.sl (tk.er r)) v:=by
 unfold Tok.er zer
 have:=h.er
 split
 ·grind [Ab.er]
 ·exact h
 ·grind [Ab.er]
theorem V7 {T} {t g} {p} {r} (h:subE T t g p=some r):∃rows tk,subR T t g p=some rows∧T t=some tk∧r=tk.er rows:=by
 unfold subE at h
 unfold subR
 cases hT:T t with
 |none=>grind
 | some tk=>
  simp only [hT] at h ⊢
  by_cases hg:tk.gen=g
  ·rw [if_pos hg] at h ⊢
   cases hp:getP p tk.rows with
   |none=>rw [hp] at h; cases h
   |some rows=>
    rw [hp] at h
    grind
  grind
mutual
theorem Nv {w0} {γ}:∀ {a} {u} {d},VSim w0 γ a u→unD a=some d→Rep w0 d u
 | .int k n,u,d,ha,h=>by grind [unD,VSim,Rep]
 | .bool b,u,d,ha,h=>by grind [unD,VSim,Rep]
 | .str s,u,d,ha,h=>by grind [unD,VSim,Rep]
 | .ro rows,u,d,ha,h=>by grind [unD,VSim]
 | .nilp,u,d,ha,h=>by grind [unD,VSim,Rep]
 | .rop vs 0,u,d,ha,h=>by
  simp only [unD] at h
  cases hu:unDs vs with
  |none=>rw [hu] at h; cases h
  |some ds=>
   rw [hu] at h
   simp only [Option.map_some,Option.some.injEq] at h
   subst h
   simp only [VSim] at ha
   obtain⟨b,o,us,rfl,h1,h2⟩:=ha
   simp only [Rep]
   exact⟨b,o,rfl,T3 h1 hu h2⟩
 | .rop vs (_+1),_,_,_,h=>by simp [unD] at h
 | .any,_,_,_,h=>by simp [unD] at h
 | .own _,_,_,_,h=>by simp [unD] at h
 | .box _ _,_,_,_,h=>by simp [unD] at h
 | .bsl _ _ _,_,_,_,h=>by simp [unD] at h
 | .elt _ _ _ _,_,_,_,h=>by simp [unD] at h
 | .sub _ _ _,_,_,_,h=>by simp [unD] at h
 | .par _ _ _ _,_,_,_,h=>by simp [unD] at h
 | .els _ _ _ _ _ _,_,_,_,h=>by simp [unD] at h
 | .agg _,_,_,_,h=>by simp [unD] at h
 | .tup _,_,_,_,h=>by simp [unD] at h
 | .fn _ _,_,_,_,h=>by simp [unD] at h
 | .nils,_,_,_,h=>by simp [unD] at h
 | .mpr _,_,_,_,h=>by simp [unD] at h
 | .mpc _ _,_,_,_,h=>by simp [unD] at h
theorem T3 {w0} {γ}:∀ {vs} {us} {ds},AH w0 γ vs us→unDs vs=some ds→∀ {b o},(∀j u,us[j]? =some u→w0.cell? ⟨b,o+j,none⟩=some u)→RepC w0 b o ds
 | [],us,ds,_,h,b,o,hc=>by grind [unDs,RepC]
 | a ::as,us,ds,hv,h,b,o,hc=>by
  simp only [AH] at hv
  obtain⟨u,us',rfl,h1,h2⟩:=hv
  simp only [unDs] at h
  cases ha:unD a with
  |none=>rw [ha] at h; cases h
  | some d=>
   cases has:unDs as with
   |none=>rw [ha,has] at h; cases h
   | some ds'=>
    rw [ha,has] at h
    simp only [Option.some.injEq] at h
    subst h
    simp only [RepC]
    exact⟨⟨u,hc 0 u rfl,Nv h1 ha⟩,T3 h2 has fun j x hx=>by
     have:=hc (j+1) x (by simpa using hx)
     rw [show o+1+j=o+(j+1) from by omega]; exact this⟩
end
theorem cZ {w0:World} {γ:Gh} {T:Nat→Option Tok} {B:Nat→Option (List AV)} {w:World} (hs:VwOk w0 γ T B w) {a:AV} {u:Value} {d:D} (ha:VSim w0 γ a u) (h:toD T a=some d):Rep w d u:=by
 cases a with
 |int k n=>grind [toD,VSim,Rep]
 |bool b=>grind [toD,VSim,Rep]
 |str s=>grind [toD,VSim,Rep]
 |ro rows=>simp only [toD,Option.some.injEq] at h; subst h; simp only [VSim] at ha; exact Rep.keep hs.keeps _ _ ha
 |nils=>simp only [toD,Option.some.injEq] at h; subst h; simp only [VSim] at ha; subst ha; exact⟨none,0,rfl,Nat.le_refl _,Nat.zero_le _,.inl rfl⟩
 | own t=>
  simp only [toD] at h
  cases hT:T t with
  |none=>grind
  |some tk=>
   simp only [hT,Option.map_some,Option.some.injEq] at h; subst h
   simp only [VSim] at ha
   obtain⟨h1,rfl⟩:=ha
   exact Tok.rep_er ((hs.tok t tk h1.1 hT).rep hs.keeps)
 |nilp=>grind [toD,VSim,Rep]
 |rop vs off=>simp only [toD] at h; exact Rep.keep hs.keeps _ _ (Nv ha h)
 |_=>simp [toD] at h
theorem T4 {w0} {γ} {T} {B} {w} (hs:VwOk w0 γ T B w):∀ {as} {us} {ds},AH w0 γ as us→toDs T as=some ds→ds.length=us.length∧∀ (i:Nat) (d:D) (u:Value),ds[i]? =some d→us[i]? =some u→Rep w d u
 | [],us,ds,h,hd=>by
  grind [AH,toDs]
 | a::as,us,ds,h,hd=>by
  simp only [AH] at h
  obtain⟨u,us',rfl,h1,h2⟩:=h
  simp only [toDs] at hd
  cases ha:toD T a with
  |none=>simp [ha] at hd
  | some d=>
   cases has:toDs T as with
   |none=>simp [ha,has] at hd
   |some ds'=>
    simp only [ha,has,Option.some.injEq] at hd
    subst hd
    obtain⟨h3,h4⟩:=T4 hs h2 has
    refine⟨by simp [h3],fun i d' u' h5 h6=>?_⟩
    cases i with
    |zero=>simp at h5 h6; subst h5 h6; exact cZ hs h1 ha
    |succ i=>exact h4 i d' u' (by simpa using h5) (by simpa using h6)
theorem ca {T} {B} {vs} {ds} (h:toAs T B vs=some ds):isMp vs=false:=by
 cases vs with
 |nil=>rfl
 |cons a l=>cases l with
  |nil=>cases a <;> simp [toAs,toA,isMp,AV.mp?] at h ⊢
  |cons b l=>rfl
theorem cc {T} {vs} {ds} (h:toDs T vs=some ds):isMp vs=false:=by
 cases vs with
 |nil=>rfl
 |cons a l=>cases l with
  |nil=>cases a <;> simp [toDs,toD,isMp,AV.mp?] at h ⊢
  |cons b l=>rfl
theorem bE {w0} {γ} {T} {B} {w} (hs:VwOk w0 γ T B w) {b} {vs} {ds} (hbl:γ.bl b) (hB:B b=some vs) (hd:toDs T vs=some ds):
  ds.length=vs.length∧RepC w (γ.bb b) (γ.bo b) ds:=by
 obtain⟨us,h1,h2⟩:=hs.box b vs hbl hB
 replace h2:=h2.cells (cc hd)
 obtain⟨h3,h4⟩:=T4 hs h1 hd
 have hl:=h1.length
 refine⟨by omega,RepC.mk fun i hi=>?_⟩
 have hi':i<us.length:=by omega
 exact⟨us[i],h2.cell (List.getElem?_eq_getElem hi'),h4 i _ _ (List.getElem?_eq_getElem hi) (List.getElem?_eq_getElem hi')⟩
theorem RepC.take {w} {b} {off} {ds} (h:RepC w b off ds) (n:Nat):RepC w b off (ds.take n):=
 RepC.mk fun i hi=>by
  have hi':i<ds.length:=by rw [List.length_take] at hi; omega
  rw [List.getElem_take]; exact h.at i hi'
theorem RepC.drop {w} {b} {off} {ds} (h:RepC w b off ds) (n:Nat):RepC w b (off+n) (ds.drop n):=
 RepC.mk fun i hi=>by
  have hi':n+i<ds.length:=by rw [List.length_drop] at hi; omega
  rw [List.getElem_drop,Nat.add_assoc]; exact h.at (n+i) hi'
theorem CE (sz:Nat):∀ (n:Nat) (ds:List D),(BR sz n ds).length =n
 |0,_=>rfl
 |n+1,ds=>by simp [BR,CE sz n]
theorem O3 {w} {b sz}:∀ {n} {off} {ds},ds.length=n*sz→RepC w b off ds→RepR w sz b off (BR sz n ds)
 |0,_,_,_,_=>by simp [BR,RepR]
 |n+1,off,ds,hl,h=>by
  rw [Nat.add_mul] at hl
  simp only [BR,RepR]
  exact⟨by rw [List.length_take]; omega,h.take sz,O3 (by rw [List.length_drop]; omega) (h.drop sz)⟩
mutual
theorem Ep {w0 w1} {γ γ'} (hk:AS w0 w1):∀ {a} {u},Gc a=true→VSim w0 γ a u→VSim w1 γ' a u
 | .int _ _,u,_,h=>by grind [VSim]
 | .bool _,u,_,h=>by grind [VSim]
 | .str _,u,_,h=>by grind [VSim]
 | .ro _,u,_,h=>by grind [VSim,Rep.keep]
 | .nilp,u,_,h=>by grind [VSim]
 | .rop vs off,u,hp,h=>by
  simp only [Gc] at hp
  simp only [VSim] at h ⊢
  obtain⟨b,o,us,hv,h1,hc⟩:=h
  exact⟨b,o,us,hv,H5 hk hp h1,fun j u hu=>hk _ _ (hc j u hu)⟩
 | .fn f vs,u,hp,h=>by
  simp only [Gc] at hp
  simp only [VSim] at h ⊢
  obtain⟨us,hv,h1⟩:=h
  exact⟨us,hv,H5 hk hp h1⟩
 | .agg vs,u,hp,h=>by
  simp only [Gc] at hp
  simp only [VSim] at h ⊢
  obtain⟨us,hv,h1⟩:=h
  exact⟨us,hv,H5 hk hp h1⟩
theorem H5 {w0 w1} {γ γ'} (hk:AS w0 w1):∀ {as} {us},E6 as=true→AH w0 γ as us→AH w1 γ' as us
 | [],us,_,h=>by grind [AH]
 |a::as,us,hp,h=>by
  simp only [E6,Bool.and_eq_true] at hp
  simp only [AH] at h ⊢
  obtain⟨u,us',rfl,h1,h2⟩:=h
  exact⟨u,us',rfl,Ep hk hp.1 h1,H5 hk hp.2 h2⟩
end
theorem cd {w0:World} {γ:Gh} {T:Nat→Option Tok} {B:Nat→Option (List AV)} {w:World} (hs:VwOk w0 γ T B w) {a:AV} {u:Value} {x:AV} (ha:VSim w0 γ a u) (h:toA T B a=some x):VSim w Gh.none x u:=by
 have hk:=hs.keeps
 cases a with
 | own t=>
  simp only [toA] at h
  cases hT:T t with
  |none=>grind
  |some tk=>
   simp only [hT,Option.map_some,Option.some.injEq] at h; subst h
   simp only [VSim] at ha ⊢
   obtain⟨h1,rfl⟩:=ha
   exact Tok.rep_er ((hs.tok t tk h1.1 hT).rep hs.keeps)
 |nils=>simp only [toA,Option.some.injEq] at h; subst h; simp only [VSim] at ha ⊢; subst ha; exact⟨none,0,rfl,Nat.le_refl _,Nat.zero_le _,.inl rfl⟩
 |int k n=>simp only [toA,Option.some.injEq] at h; subst h; exact Ep hk rfl ha
 |bool b=>simp only [toA,Option.some.injEq] at h; subst h; exact Ep hk rfl ha
 |str s=>simp only [toA,Option.some.injEq] at h; subst h; exact Ep hk rfl ha
 |ro rows=>simp only [toA,Option.some.injEq] at h; subst h; exact Ep hk rfl ha
 |nilp=>simp only [toA,Option.some.injEq] at h; subst h; exact Ep hk rfl ha
 |rop vs off=>
  grind [toA,Ep,Gc]
 |fn f vs=>
  grind [toA,Ep,Gc]
 |mpr b=>grind [toA,VSim]
 | sub t g p=>
  simp only [toA] at h
  simp only [VSim] at ha
  cases hse:subE T t g p with
  |none=>grind
  |some r=>
   simp only [hse,Option.map_some,Option.some.injEq] at h; subst h
   obtain⟨rows,tk',hsub,-,rfl⟩:=V7 hse
   obtain⟨tk,f1,f2,f3,-,-,-,-,-,hown,-⟩:=Kp hs ha.1.1 hsub
   rw [ha.2.2]
   simp only [VSim]
   exact Tok.rep_er (hown.rep (Tok.vwk hs.keeps))
 | bsl b n sz=>
  simp only [toA] at h
  simp only [VSim] at ha
  cases hB:B b with
  |none=>grind
  | some vs=>
   cases hd:toDs T vs with
   |none=>grind
   | some ds=>
    simp only [hB,hd] at h
    split at h
    ·rename_i hl
     simp only [Option.some.injEq] at h; subst h
     simp only [VSim,Rep,CE]
     exact⟨_,_,ha.2.2,Nat.le_refl _,ha.2.1,.inr ⟨sz,_,_,rfl,O3 hl (bE hs ha.1 hB hd).2⟩⟩
    grind
 |_=>simp [toA] at h
theorem T5 {w0} {γ} {T} {B} {w} (hs:VwOk w0 γ T B w):∀ {as} {us} {xs},AH w0 γ as us→toAs T B as=some xs→AH w Gh.none xs us
 | [],us,xs,h,hd=>by
  grind [toAs,AH]
 | a::as,us,xs,h,hd=>by
  simp only [AH] at h
  obtain⟨u,us',rfl,h1,h2⟩:=h
  simp only [toAs] at hd
  cases ha:toA T B a with
  |none=>simp [ha] at hd
  | some d=>
   cases has:toAs T B as with
   |none=>simp [ha,has] at hd
   |some ds'=>
    simp only [ha,has,Option.some.injEq] at hd
    subst hd
    simp only [AH]
    exact⟨u,us',rfl,cd hs h1 ha,T5 hs h2 has⟩
theorem bF {w} {sz b off i n} {rows} (h:RepR w sz b off rows):RepR w sz b (off+i*sz) ((rows.drop i).take n):=
 RepR.mk fun k hk=>by
  have hk':i+k<rows.length:=by rw [List.length_take,List.length_drop] at hk; omega
  have:=h.at (i+k) hk'
  rw [Nat.add_mul,← Nat.add_assoc] at this
  rw [List.getElem_take,List.getElem_drop]
  omega
theorem eV {w} {rows} {v} {a} {m c sz i n} {r} (h:Rep w (.sl rows) v) (hv:v= .slice a m c) (hp:parR sz i n rows=some r):Rep w (.sl r) (.slice (if c=i then a else a.map (·.add (i*sz))) n (c - i)):=by
 unfold parR at hp
 split at hp
 ·rename_i h0
  obtain⟨hrl,hn⟩:=h0
  cases hp
  subst hv
  simp only [Rep] at h ⊢
  obtain⟨a',c',hv,h1,h2,h3⟩:=h
  simp only [Value.slice.injEq] at hv
  obtain⟨rfl,rfl,rfl⟩:=hv
  have hlen:((rows.drop i).take n).length =n:=by rw [List.length_take,List.length_drop]; omega
  refine⟨_,_,by rw [hlen],by rw [hlen]; omega,by omega,?_⟩
  by_cases he:n=0
  ·grind
  ·rcases h3 with h3|⟨sz',b,off,rfl,hR⟩
   ·rw [h3] at hn; grind
   ·have h5:0<rows.length:=by omega
    have h6:=(hR.at 0 h5).1
    have h7:=hrl rows[0] (List.getElem_mem h5)
    have h8:sz'=sz:=by omega
    subst h8
    rw [if_neg (by omega)]
    refine .inr ⟨_,b,off+i*sz',?_,bF hR⟩
    grind [Addr.add]
 grind
mutual
theorem Jz {w0:World} {γ:Gh} {T:Nat→Option Tok} {B:Nat→Option (List AV)} {w:World} (hs:VwOk w0 γ T B w):∀ {a:AV} {u:Value} {x:AV},VSim w0 γ a u→cl T B a=some x→VSim w Gh.none x u
 | .int k n,u,x,ha,h=>by grind [cl,VSim]
 | .bool b,u,x,ha,h=>by grind [cl,VSim]
 | .str s,u,x,ha,h=>by grind [cl,VSim]
 | .ro rows,u,x,ha,h=>by simp only [cl,Option.some.injEq] at h; subst h; simp only [VSim] at ha ⊢; exact Rep.keep hs.keeps _ _ ha
 | .nils,u,x,ha,h=>by simp only [cl,Option.some.injEq] at h; subst h; simp only [VSim] at ha ⊢; subst ha; exact⟨none,0,rfl,Nat.le_refl _,Nat.zero_le _,.inl rfl⟩
 | .mpr b,u,x,ha,h=>by grind [cl,VSim]
 | .mpc _ rows,u,x,ha,h=>by grind [cl,VSim]
 | .nilp,u,x,ha,h=>by grind [cl,VSim]
 | .own t,u,x,ha,h=>by
  simp only [cl] at h
  cases hT:T t with
  |none=>grind
  |some tk=>
   simp only [hT,Option.map_some,Option.some.injEq] at h; subst h
   simp only [VSim] at ha ⊢
   obtain⟨h1,rfl⟩:=ha
   exact Tok.rep_er ((hs.tok t tk h1.1 hT).rep hs.keeps)
 | .rop vs off,u,x,ha,h=>by
  simp only [cl] at h
  simp only [VSim] at ha
  obtain⟨b,o,us,hv,h1,hc⟩:=ha
  cases hcl:cls T B vs with
  |none=>grind
  |some xs=>
   simp only [hcl,Option.map_some,Option.some.injEq] at h; subst h
   simp only [VSim]
   exact⟨b,o,us,hv,Jl hs h1 hcl,fun j u hu=>hs.keeps _ _ (hc j u hu)⟩
 | .box b off,u,x,ha,h=>by
  simp only [cl] at h
  simp only [VSim] at ha
  cases hB:B b with
  |none=>grind
  | some vs=>
   cases hd:toAs T B vs with
   |none=>grind
   |some ds=>
    simp only [hB,hd,Option.map_some,Option.some.injEq] at h; subst h
    obtain⟨us,h1,h2⟩:=hs.box b vs ha.1 hB
    simp only [VSim]
    exact⟨_,_,us,ha.2,T5 hs h1 hd,fun j u hu=>(h2.cells (ca hd)).cell hu⟩
 | .bsl b n sz,u,x,ha,h=>by
  simp only [cl] at h
  simp only [VSim] at ha
  cases hB:B b with
  |none=>grind
  | some vs=>
   cases hd:toDs T vs with
   |none=>grind
   | some ds=>
    simp only [hB,hd] at h
    split at h
    ·rename_i hl
     simp only [Option.some.injEq] at h; subst h
     simp only [VSim,Rep,CE]
     exact⟨_,_,ha.2.2,Nat.le_refl _,ha.2.1,.inr ⟨sz,_,_,rfl,O3 hl (bE hs ha.1 hB hd).2⟩⟩
    grind
 | .sub t g p,u,x,ha,h=>by
  simp only [cl] at h
  simp only [VSim] at ha
  cases hse:subE T t g p with
  |none=>grind
  |some r=>
   simp only [hse,Option.map_some,Option.some.injEq] at h; subst h
   obtain⟨rows,tk',hsub,-,rfl⟩:=V7 hse
   obtain⟨tk,f1,f2,f3,-,-,-,-,-,hown,-⟩:=Kp hs ha.1.1 hsub
   rw [ha.2.2]
   simp only [VSim]
   exact Tok.rep_er (hown.rep (Tok.vwk hs.keeps))
 | .par t sz i n,u,x,ha,h=>by
  simp only [cl] at h
  simp only [VSim] at ha
  obtain⟨htl,a,m,c,htv,rfl⟩:=ha
  cases hT:T t with
  |none=>grind
  | some tk=>
   simp only [hT] at h
   cases hp:parR sz i n tk.rows with
   |none=>grind
   |some r=>
    simp only [hp,Option.map_some,Option.some.injEq] at h; subst h
    simp only [VSim]
    exact Tok.rep_er (eV ((hs.tok t tk htl hT).rep hs.keeps) htv hp)
 | .els t g p sz i off,u,x,ha,h=>by
  simp only [cl] at h
  simp only [VSim] at ha
  obtain⟨⟨htl,-⟩,b,o,n,c,hv,rfl⟩:=ha
  cases hsub:subR T t g p with
  |none=>grind
  | some rows=>
   cases hr:rows[i]? with
   |none=>grind
   | some row=>
    simp only [hsub,hr] at h
    split at h
    ·rename_i hl
     simp only [Option.some.injEq] at h; subst h
     have hi:=Bb hr
     obtain⟨tk,f1,f2,f3,-,-,-,-,-,hown,-⟩:=Kp hs htl hsub
     have hrep:=hown.rep (Tok.vwk hs.keeps)
     rw [hv] at hrep
     simp only [Rep] at hrep
     obtain⟨a',c',hv',-,-,h3⟩:=hrep
     simp only [Value.slice.injEq] at hv'
     obtain⟨rfl,-,-⟩:=hv'
     rcases h3 with h3|⟨sz',b',o',he,hR⟩
     ·rw [h3] at hi; grind
     ·simp only [Option.some.injEq,Addr.mk.injEq,and_true] at he
      obtain⟨rfl,rfl⟩:=he
      have:=hR.at i hi
      rw [List.getElem?_eq_getElem hi] at hr
      simp only [Option.some.injEq] at hr
      rw [hr] at this
      obtain⟨us,h4,h5⟩:=RT (γ:=Gh.none) this.2
      simp only [VSim]
      exact⟨_,_,us,by rw [← this.1,hl],h4,h5⟩
    grind
 | .elt t sz i off,u,x,ha,h=>by
  simp only [cl] at h
  simp only [VSim] at ha
  obtain⟨htl,g,o,n,c,htv,rfl⟩:=ha
  cases hT:T t with
  |none=>grind
  | some tk=>
   cases hr:tk.rows[i]? with
   |none=>grind
   | some row=>
    simp only [hT,hr] at h
    split at h
    ·rename_i hl
     simp only [Option.some.injEq] at h; subst h
     have hi:=Bb hr
     have hown:=(hs.tok t tk htl hT).rep hs.keeps
     simp only [Rep,htv] at hown
     obtain⟨a',c',hv,-,-,h3⟩:=hown
     simp only [Value.slice.injEq] at hv
     obtain⟨rfl,-,-⟩:=hv
     rcases h3 with h3|⟨sz',b',o',he,hR⟩
     ·rw [h3] at hi; grind
     ·simp only [Option.some.injEq,Addr.mk.injEq,and_true] at he
      obtain⟨rfl,rfl⟩:=he
      have:=hR.at i hi
      rw [List.getElem?_eq_getElem hi] at hr
      simp only [Option.some.injEq] at hr
      rw [hr] at this
      have hsz:sz'=sz:=by omega
      subst hsz
      obtain⟨us,k1,k2⟩:=RT (γ:=Gh.none) this.2
      simp only [VSim]
      exact⟨_,_,us,rfl,k1,k2⟩
    grind
 | .agg vs,u,x,ha,h=>by
  simp only [cl] at h
  simp only [VSim] at ha
  obtain⟨us,rfl,h1⟩:=ha
  cases hc:cls T B vs with
  |none=>grind
  |some xs=>
   simp only [hc,Option.map_some,Option.some.injEq] at h; subst h
   simp only [VSim]
   exact⟨us,rfl,Jl hs h1 hc⟩
 | .fn f vs,u,x,ha,h=>by
  simp only [cl] at h
  simp only [VSim] at ha
  obtain⟨us,hf,h1⟩:=ha
  cases hc:cls T B vs with
  |none=>grind
  |some xs=>
   simp only [hc,Option.map_some,Option.some.injEq] at h; subst h
   simp only [VSim]
   exact⟨us,hf,Jl hs h1 hc⟩
 | .tup _,_,_,_,h=>by simp [cl] at h
 | .any,_,_,_,h=>by simp [cl] at h
theorem Jl {w0} {γ} {T} {B} {w} (hs:VwOk w0 γ T B w):∀ {as} {us} {xs},AH w0 γ as us→cls T B as=some xs→AH w Gh.none xs us
 | [],us,xs,h,hx=>by
  grind [cls,AH]
 | a::as,us,xs,h,hx=>by
  simp only [AH] at h
  obtain⟨u,us',rfl,h1,h2⟩:=h
  simp only [cls] at hx
  cases ha:cl T B a with
  |none=>simp [ha] at hx
  | some y=>
   cases has:cls T B as with
   |none=>simp [ha,has] at hx
   |some ys=>
    simp only [ha,has,Option.some.injEq] at hx; subst hx
    simp only [AH]
    exact⟨u,us',rfl,Jz hs h1 ha,Jl hs h2 has⟩
end
structure ConvOk (w:World) (n:Nat) (toks:List (Nat × Tok)) (tv:Nat→Value) (tf:Nat→List Nat) (fp:List Nat):Prop where
 ids:∀i x,toks[i]? =some x→x.1 =n+i
 ok:∀x ∈ toks,Aj default w x.2 (tv x.1) (tf x.1)∧(tf x.1).Nodup ∧∀g ∈ tf x.1,g ∈ fp
 dis:∀x ∈ toks,∀y ∈ toks,x.1 ≠y.1 →∀g ∈ tf x.1,g ∉ tf y.1
theorem ConvOk.nil (w:World) (n:Nat) (tv:Nat→Value) (tf:Nat→List Nat) (fp:List Nat):ConvOk w n [] tv tf fp:=⟨fun i x h=>by grind,fun x h=>by grind,fun x h=>by grind⟩
theorem ConvOk.lt {w} {n} {toks} {tv} {tf} {fp} (h:ConvOk w n toks tv tf fp) {x} (hx:x ∈ toks):n≤x.1 ∧x.1 <n+toks.length:=by
 obtain⟨i,hi,rfl⟩:=List.getElem_of_mem hx
 have:=h.ids i _ (List.getElem?_eq_getElem hi)
 omega
theorem ConvOk.append {w} {n} {t1 t2} {tv1 tv2} {tf1 tf2} {f1 f2} (h1:ConvOk w n t1 tv1 tf1 f1) (h2:ConvOk w (n+t1.length) t2 tv2 tf2 f2) (hd:∀g ∈ f1,g ∉ f2):
  ConvOk w n (t1++t2) (fun t=>if t<n+t1.length then tv1 t else tv2 t) (fun t=>if t<n+t1.length then tf1 t else tf2 t) (f1++f2):=by
 refine⟨fun i x hx=>?_,fun x hx=>?_,fun x hx y hy hne g hg=>?_⟩
 ·rw [List.getElem?_append] at hx
  split at hx
  ·exact h1.ids i x hx
  ·have:=h2.ids _ x hx; omega
 ·rcases List.mem_append.1 hx with hx|hx
  ·have hl:=h1.lt hx
   obtain⟨k1,k2,k3⟩:=h1.ok x hx
   grind
  ·have hl:=h2.lt hx
   obtain⟨k1,k2,k3⟩:=h2.ok x hx
   grind
 ·rcases List.mem_append.1 hx with hx|hx <;> rcases List.mem_append.1 hy with hy|hy
  ·have hl:=h1.lt hx
   have hm:=h1.lt hy
   simp only [if_pos hl.2,if_pos hm.2] at hg ⊢
   exact h1.dis x hx y hy hne g hg
  ·have hl:=h1.lt hx
   have hm:=h2.lt hy
   simp only [if_pos hl.2,if_neg (show ¬y.1 <n+t1.length by omega)] at hg ⊢
   exact fun h=>hd g ((h1.ok x hx).2.2 g hg) ((h2.ok y hy).2.2 g h)
  ·have hl:=h2.lt hx
   have hm:=h1.lt hy
   simp only [if_pos hm.2,if_neg (show ¬x.1 <n+t1.length by omega)] at hg ⊢
   exact fun h=>hd g ((h1.ok y hy).2.2 g h) ((h2.ok x hx).2.2 g hg)
  ·have hl:=h2.lt hx
   have hm:=h2.lt hy
   simp only [if_neg (show ¬x.1 <n+t1.length by omega),if_neg (show ¬y.1 <n+t1.length by omega)] at hg ⊢
   exact h2.dis x hx y hy hne g hg
def eW (γ:Gh) (toks:List (Nat × Tok)) (tv:Nat→Value):Prop:=∀x ∈ toks,γ.tl x.1 ∧γ.tv x.1 =tv x.1
mutual
theorem T6 {w} (w0:World):∀ {r} {v} {fp} (n:Nat),RSim w r v fp→fp.Nodup→∃tv tf,ConvOk w n (conv n r).2 tv tf fp∧∀γ,eW γ (conv n r).2 tv→VSim w0 γ (conv n r).1 v
 | .int k x,v,fp,n,h,hn=>by simp_all [RSim,ConvOk.nil,conv,VSim]
 | .bool b,v,fp,n,h,hn=>by simp_all [RSim,ConvOk.nil,conv,VSim]
 | .str s,v,fp,n,h,hn=>by simp_all [RSim,ConvOk.nil,conv,VSim]
 | .ow ap rows,v,fp,n,h,hn=>by
  simp only [RSim] at h
  refine⟨fun _=>v,fun _=>fp,⟨fun i x hx=>?_,fun x hx=>?_,fun x hx y hy hne=>?_⟩,fun γ hg=>?_⟩
  ·grind [conv]
  ·grind [conv]
  ·grind [conv]
  ·simp only [conv,VSim]
   have:=hg (n,⟨rows,ap,0,.no⟩) (by simp [conv])
   have hr:=h.rep (AS.void w)
   grind [Rep]
 | .ro rows,v,fp,n,h,hn=>⟨fun _=>undef,fun _=>[],ConvOk.nil _ _ _ _ _,fun γ _=>by grind [conv,VSim]⟩
 | .nilp,v,fp,n,h,hn=>by simp_all [RSim,ConvOk.nil,conv,VSim]
 | .agg vs,v,fp,n,h,hn=>by
  simp only [RSim] at h
  obtain⟨us,rfl,h⟩:=h
  obtain⟨tv,tf,h1,h2⟩:=M0 w0 n h hn
  grind [conv,VSim]
 | .tup vs,v,fp,n,h,hn=>by
  simp only [RSim] at h
  obtain⟨us,rfl,h⟩:=h
  obtain⟨tv,tf,h1,h2⟩:=M0 w0 n h hn
  grind [conv,VSim]
theorem M0 {w} (w0:World):∀ {rs} {us} {fp} (n:Nat),P3 w rs us fp→fp.Nodup→∃tv tf,ConvOk w n (H1 n rs).2 tv tf fp∧∀γ,eW γ (H1 n rs).2 tv→AH w0 γ (H1 n rs).1 us
 | [],us,fp,n,h,hn=>by simp_all [P3,ConvOk.nil,H1,AH]
 | r::rs,us,fp,n,h,hn=>by
  simp only [P3] at h
  obtain⟨u,us',f1,f2,rfl,h1,h2,rfl⟩:=h
  obtain⟨hn1,hn2,hd⟩:=List.nodup_append.1 hn
  obtain⟨tv1,tf1,k1,k2⟩:=T6 w0 n h1 hn1
  obtain⟨tv2,tf2,k3,k4⟩:=M0 w0 (n+(conv n r).2.length) h2 hn2
  refine⟨_,_,k1.append k3 (fun g hg hg'=>hd g hg g hg' rfl),fun γ hg=>?_⟩
  simp only [H1,AH]
  refine⟨u,us',rfl,k2 γ fun x hx=>?_,k4 γ fun x hx=>?_⟩
  ·have:=hg x (by simp [H1,hx])
   have hl:=k1.lt hx
   grind
  ·have:=hg x (by simp [H1,hx])
   have hl:=k3.lt hx
   grind
end
theorem Gx (k:IntKind) (n:Int):(Lit.int k (k.wrap n)).wf =true:=by
 cases k <;> simp [Lit.wf,IntKind.wrap,IntKind.min,IntKind.max,IntKind.signed,IntKind.bits] <;> first|omega|(split <;> omega)
theorem kY {k} {a} {n} (ha:(Lit.int k a).wf =true):(Lit.int k (a / 2 ^ n)).wf =true:=by
 simp only [Lit.wf,Bool.and_eq_true,decide_eq_true_eq] at ha ⊢
 have hmin:k.min≤0:=by cases k <;> simp [IntKind.min,IntKind.signed,IntKind.bits]
 have hmax:0≤k.max:=by cases k <;> simp [IntKind.max,IntKind.signed,IntKind.bits]
 have hp:(0:Int)<2 ^ n:=Int.pow_pos (by decide)
 rcases Int.le_total 0 a with h|h
 ·have:=Int.ediv_nonneg h (Int.le_of_lt hp)
  have:=Int.ediv_le_self (2 ^ n) h
  omega
 ·have h1:a≤a / 2 ^ n:=(Int.le_ediv_iff_mul_le hp).2 (by
   have:=Int.mul_le_mul_of_nonneg_left (show (1:Int)≤2 ^ n by omega) (show 0≤ -a by omega)
   rw [Int.neg_mul,Int.neg_mul] at this
   omega)
  have h2:a / 2 ^ n≤0:=by
   exact Int.le_of_lt_add_one ((Int.ediv_lt_iff_lt_mul hp).2 (by omega))
  omega
theorem g4 {k} {a b} (ha:(Lit.int k a).wf =true):(Lit.int k (a.tmod b)).wf =true:=by
 have h0:(a.tmod b).natAbs ≤a.natAbs:=by rw [Int.natAbs_tmod]; exact Nat.mod_le _ _
 have h3:0≤a→0≤a.tmod b:=fun h=>Int.tmod_nonneg b h
 have h4:a≤0→a.tmod b≤0:=fun h=>by
  have:=Int.tmod_nonneg b (show 0≤ -a by omega)
  rw [Int.neg_tmod] at this; omega
 grind [Lit.wf,IntKind.min,IntKind.max]
mutual
theorem YD:∀ (n:Nat) (r:RV),∀x ∈ (conv n r).2,x.2.gen =0
 |n,.int _ _,x,h=>by grind [conv]
 |n,.bool _,x,h=>by grind [conv]
 |n,.str _,x,h=>by grind [conv]
 |n,.ow ap rows,x,h=>by grind [conv]
 |n,.ro _,x,h=>by grind [conv]
 |n,.nilp,x,h=>by grind [conv]
 |n,.agg vs,x,h=>by simp only [conv] at h; exact RU n vs x h
 |n,.tup vs,x,h=>by simp only [conv] at h; exact RU n vs x h
theorem RU:∀ (n:Nat) (rs:List RV),∀x ∈ (H1 n rs).2,x.2.gen =0
 |n,[],x,h=>by grind [H1]
 |n,r::rs,x,h=>by
  simp only [H1,List.mem_append] at h
  rcases h with h|h
  ·exact YD n r x h
  ·exact RU _ rs x h
end
end Go.Proofs.YtclmbjbbojdojaaGreat.Ab
