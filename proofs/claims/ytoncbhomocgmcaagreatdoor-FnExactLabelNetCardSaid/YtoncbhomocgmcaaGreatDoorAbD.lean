/-
  The abstract walk, fourth part: each operation that reads, computes, makes memory or calls does in the model what 'Ev' says.
-/
import Derived.Test.YtoncbhomocgmcaaGreatDoorAbC
namespace Go.Proofs.YtoncbhomocgmcaaGreatDoor.Ab
set_option linter.unusedVariables false
set_option maxHeartbeats 1000000
set_option linter.unusedSimpArgs false
open Go.RowKit
section
variable {P:Program} {w:World}
theorem E4 {t e} (h:ti P t= .sl e):P.underlying t=some (.slice e):=by
 unfold ti at h; split at h <;> simp_all
theorem Sy {t} {k} (h:ti P t= .int k):P.underlying t=some (.int k):=by
 unfold ti at h; split at h <;> simp_all
theorem QE {t} (h:ti P t= .str):P.underlying t=some .string :=by
 unfold ti at h; split at h <;> simp_all
theorem UK {t} {fs} (h:ti P t= .st fs):∃gs,P.underlying t=some (.struct gs)∧fs=gs.toList.map fun f=>(f.offset,f.type):=by
 unfold ti at h; split at h <;> simp_all
theorem QF {t e} {n} (h:ti P t= .arr n e):P.underlying t=some (.array n e):=by
 unfold ti at h; split at h <;> simp_all
theorem RI {t} (h:(ti P t).isAgg =true):(isAgg t).run P w= .ok true w:=by
 unfold ti at h
 split at h <;> simp [TI.isAgg] at h
 ·simp_all [isAgg,run_underlying]
 simp_all [isAgg,run_underlying]
theorem RJ {t} (h:(ti P t).sc =true):(isAgg t).run P w= .ok false w:=by
 unfold ti at h
 split at h <;> simp [TI.sc] at h <;> (rename_i hu; simp [isAgg,run_underlying hu])
theorem Gu {t} (h:0<tsz P t):∃i,P.info? t=some i∧i.size=tsz P t:=by
 unfold tsz at h ⊢
 cases hi:P.info? t with
 |none=>grind
 |some i=>grind
theorem Bu {t} (h:0<tsz P t):(sizeOf t).run P w= .ok (tsz P t) w:=by
 obtain⟨i,h1,h2⟩:=Gu h
 simp_all [sizeOf,typeInfo]
theorem NQ {t} (h:(ti P t).isAgg =true):(sizeOf t).run P w= .ok (tsz P t) w:=by
 have hi:∃i,P.info? t=some i:=by
  unfold ti at h
  split at h <;> simp [TI.isAgg] at h <;>
  ·rename_i hu
   unfold Program.underlying at hu
   cases hi:P.info? t with
   |none=>simp [hi] at hu
   |some i=>exact⟨i,rfl⟩
 obtain⟨i,hi⟩:=hi
 simp [sizeOf,typeInfo,hi,tsz]
theorem HT {o} {a} {next} {Q} {v} {w'} (h:(execOp a.eval o).run P w= .ok (.value v) w') (k:next (a.put o.dst v) w'):o.wp P a w next Q:=by
 unfold Oper.wp; rw [h]; exact k
theorem IN {t:TypeId} (h:(ti P t).isAgg =true) {b off:Nat} {us:List Value} (hl:us.length=tsz P t) (hc:∀j u,us[j]? =some u→w.cell? ⟨b,off+j,none⟩=some u):
  (Instr.loadAt t (.pointer (some ⟨b,off,none⟩))).run P w= .ok (.agg us.toArray) w:=by
 have h1:=run_loadCells_list (P:=P) (w:=w) ⟨b,off,none⟩ us (fun j u hu=>by rw [Addr.add_lit]; grind)
 rw [hl] at h1
 simp_all [Instr.loadAt,Instr.sureAddr,loadVar,RI,NQ]
theorem Ji {t} (h:(ti P t).sc =true) {b off} {u} (hc:w.cell? ⟨b,off,none⟩=some u):
  (Instr.loadAt t (.pointer (some ⟨b,off,none⟩))).run P w= .ok u w:=by
 simp [Instr.loadAt,Instr.sureAddr,loadVar,RJ h,hc]
end
theorem IP {w:World} {b:Nat}:∀ {off:Nat} {ds:List D},RepC w b off ds→AV.pts (H0 ds)=true→PF w b
 |_,[],_,e=>by cases e
 |off,d::ds,h,e=>by
  simp only [RepC] at h
  simp only [H0,AV.pts,List.any_cons,Bool.or_eq_true] at e
  rcases e with e|e
  ·exact h.1.2 (by cases d <;> first|rfl|cases e)
  ·exact IP h.2 e
mutual
theorem VSim.of_rep {w0} {γ}:∀ {d} {v},Rep w0 d v→VSim w0 γ (ofD d) v
 | .int k n,_,h=>by grind [ofD,VSim,Rep]
 | .bool b,_,h=>by grind [ofD,VSim,Rep]
 | .str s,_,h=>by grind [ofD,VSim,Rep]
 | .sl rows,_,h=>by grind [ofD,VSim]
 | .fz rows,_,h=>by grind [ofD,VSim,Rep]
 | .gone,_,_=>by grind [ofD,VSim]
 | .nilp,_,h=>by grind [ofD,VSim,Rep]
 | .nl,_,h=>by simp only [Rep] at h; obtain⟨a,h⟩:=h; exact⟨a,0,h,Nat.le_refl _,Nat.zero_le _,.inl rfl⟩
 | .ptr ds,_,h=>by
  simp only [Rep] at h
  obtain⟨b,off,rfl,hc⟩:=h
  obtain⟨us,h1,h2⟩:=Jj hc
  simp only [ofD,VSim]
  exact⟨b,off,us,rfl,h1,fun e=>IP hc e,h2⟩
theorem Jj {w0} {γ} {b}:∀ {o} {ds},RepC w0 b o ds→∃us:List Value,AD w0 γ (H0 ds) us∧∀j u,us[j]? =some u→w0.cell? ⟨b,o+j,none⟩=some u
 |_,[],_=>⟨[],by rfl,fun j u h=>by grind⟩
 |o,d::ds,h=>by
  simp only [RepC] at h
  obtain⟨⟨⟨u,hu,hr⟩,-⟩,h2⟩:=h
  obtain⟨us,h3,h4⟩:=Jj h2
  refine⟨u::us,by simp only [H0,AD]; exact⟨u,us,rfl,VSim.of_rep hr,h3⟩,fun j x hx=>?_⟩
  grind
end
theorem LQ {w0} {γ} {b} {o} {ds} (h:RepC w0 b o ds):∃us:List Value,AD w0 γ (ds.map ofD) us∧∀j u,us[j]? =some u→w0.cell? ⟨b,o+j,none⟩=some u:=by
 rw [← KQ]; exact Jj h
theorem AD.take_drop {w0} {γ} {vs} {us} (h:AD w0 γ vs us) (off n:Nat):AD w0 γ (Db vs off n) ((us.drop off).take n):=by
 have hl:=h.length
 refine AD.mk (by simp [Db,hl]) fun i a u h1 h2=>?_
 unfold Db at h1
 by_cases hi:i<n
 ·rw [List.getElem?_take_of_lt hi,List.getElem?_drop] at h1 h2
  obtain⟨u',h3,h4⟩:=h.get h1
  rw [h3] at h2; grind
 grind
theorem KZ {w}:∀ (p q:Pth) (v:Value),hdr w v (p++q)=hdr w (hdr w v p) q
 | [],q,v=>by rfl
 | (sz,i,j)::p,q,v=>by
  have dead:hdr w (.tuple #[]) q= .tuple #[] :=by
   cases q with
   |nil=>rfl
   |cons s q=>rfl
  rw [List.cons_append]
  by_cases hv:∃a n c,v= .slice (some a) n c
  ·obtain⟨a,n,c,rfl⟩:=hv
   rw [hdr,hdr]
   cases w.cell? ⟨a.block,a.off+(i*sz+j),none⟩ with
   |none=>exact dead.symm
   |some u=>exact KZ p q u
  ·have h1:∀r,hdr w v ((sz,i,j)::r)= .tuple #[] :=fun r=>by
    cases v with
    |slice a n c=>
     cases a with
     |none=>simp only [hdr]
     |some a=>exact absurd ⟨_,_,_,rfl⟩ hv
    |_=>simp only [hdr]
   rw [h1,h1,dead]
def AtR (p:Pth) (rows r:List (List D)):Prop:=∃d,At p (.sl rows) d∧ES d=some r
theorem AtR.sl {p rows r} (h:AtR p rows r) (hr:r≠ []):At p (.sl rows) (.sl r):=by
 obtain⟨d,h1,h2⟩:=h
 cases d <;> simp_all [ES]
theorem Ka:∀ {p} {rows r},getP p rows=some r→AtR p rows r
 | [],rows,r,h=>⟨.sl rows,by grind [getP,At,ES]⟩
 | (sz,i,j)::p,rows,r,h=>by
  rw [getP] at h
  split at h
  ·rename_i row hr
   split at h
   ·rename_i hl
    split at h
    ·rename_i r1 hj
     obtain⟨d0,hd,hd1⟩:=Option.bind_eq_some_iff.1 hj
     cases d0 <;> simp [ES] at hd1
     ·subst hd1
      obtain⟨d,h1,h2⟩:=Ka h
      exact⟨d,⟨row,_,hr,hl,hd,h1⟩,h2⟩
     ·subst hd1
      cases p with
      |nil=>rw [getP] at h; cases h; exact⟨.nl,⟨row,_,hr,hl,hd,rfl⟩,rfl⟩
      |cons q p=>obtain⟨_,_,_⟩:=q; simp [getP] at h
    ·cases h
   ·cases h
  ·cases h
theorem NR {V w} {d} {v} {fp} {r} (h:Own V w d v fp) (hd:ES d=some r):Own V w (.sl r) v fp:=by
 cases d <;> simp [ES] at hd
 ·subst hd; exact h
 ·subst hd; simp only [Own] at h; obtain⟨⟨a,h⟩,h2⟩:=h; exact .inl ⟨rfl,⟨a,0,h,Nat.zero_le _⟩,h2⟩
theorem GU {w0} {γ} {T} {B} {w} {t g} {p} {rows} (hs:VwOk w0 γ T B w) (htl:γ.tl t) (h:subR T t g p=some rows):
  ∃tk f1 f2 f3,T t=some tk∧tk.gen=g∧AtR p tk.rows rows∧γ.gl t g∧γ.tf t=f1++(f2++f3)∧Own (tk.vw w0) w (.sl rows) (γ.hv t g p) f2∧
   ∀ (w':World) (d':D) (f2':List Nat),(∀x ∈ f1++f3,w'.heap[x]? =w.heap[x]?)→Own (tk.vw w0) w' d' (γ.hv t g p) f2'→Own (tk.vw w0) w' (put p (.sl tk.rows) d') (γ.tv t) (f1++(f2'++f3)):=by
 unfold subR at h
 split at h
 ·rename_i tk hT
  split at h
  ·rename_i hg
   have ha:=Ka h
   have ha0:=ha
   obtain⟨d1,ha,hd1⟩:=ha
   obtain⟨f1,f2,f3,h1,h2,h3⟩:=(hs.tok t tk htl hT).own.path ha
   have hh:=hs.hds t tk htl hT
   have he:=hh.2.2 p d1 ha (by simp [isSl,hd1])
   subst hg
   rw [he] at h2 h3
   refine⟨tk,f1,f2,f3,hT,rfl,ha0,hh.1,h1,NR h2 hd1,h3⟩
  grind
 grind
theorem YS {w0} {γ} {T} {B} {w} {t} {tk} (hs:VwOk w0 γ T B w) (htl:γ.tl t) (hT:T t=some tk):subR T t tk.gen [] =some tk.rows∧γ.hv t tk.gen [] =γ.tv t:=by
 have h1:subR T t tk.gen [] =some tk.rows:=by grind [subR,getP]
 refine⟨h1,?_⟩
 have:=(hs.hds t tk htl hT).2.2 [] (.sl tk.rows) (by rfl) M5
 rw [← this]; rfl
theorem U7 {cx} {γ} {T} {B} {w} {t g} {p} {rows} {i sz} {row} {b o n c} (hs:OSim cx γ T B w) (htl:γ.tl t) (h:subR T t g p=some rows)
  (hrow:rows[i]? =some row) (hlen:row.length=sz) (hv:γ.hv t g p= .slice (some ⟨b,o,none⟩) n c):
  ∃e cs,Blk w b e cs∧o+i*sz+sz≤cs.length∧∀j d,row[j]? =some d→∃u,cs[o+i*sz+j]? =some u∧VSim γ.vw γ (ofT t g p sz i j d) u:=by
 obtain⟨tk,f1,f2,f3,hT,hg,ha,hgl,-,hown,-⟩:=GU hs.see htl h
 have hown0:=hown
 rw [hv] at hown
 simp only [Own] at hown
 have hi:=Au hrow
 rcases hown with ⟨he,-,-⟩|⟨sz',g',o',c',e',cs,fps,hv',h1,h2,hb,h3,hr,-⟩
 ·rw [he] at hi; grind
 ·simp only [Value.slice.injEq,Option.some.injEq,Addr.mk.injEq,and_true] at hv'
  obtain⟨⟨rfl,rfl⟩,-,-⟩:=hv'
  obtain⟨a1,a2,a3,-,hl,hc,-⟩:=hr.split i hi
  rw [List.getElem?_eq_getElem hi] at hrow
  simp only [Option.some.injEq] at hrow
  rw [hrow] at hl hc
  have hsz:sz'=sz:=by omega
  subst hsz
  refine⟨e',cs,hb,?_,fun j d hj=>?_⟩
  ·have:(i+1)*sz'≤rows.length*sz':=Nat.mul_le_mul_right _ hi
   have h6:rows.length*sz'≤c'*sz':=Nat.mul_le_mul_right _ h1
   rw [Nat.add_mul] at this
   omega
  ·have hlt:=Au hj
   obtain⟨u,_,fp,_,_,h4,h5,-⟩:=hc.split j hlt
   rw [List.getElem?_eq_getElem hlt] at hj
   simp only [Option.some.injEq] at hj
   rw [hj] at h5
   refine⟨u,h4,?_⟩
   cases d with
   |int k n=>grind [Own,ofT,VSim]
   |bool b=>grind [Own,ofT,VSim]
   |str s=>grind [Own,ofT,VSim]
   |gone=>trivial
   |fz rows=>simp only [Own] at h5; simp only [ofT,VSim]; exact Rep.keep (Tok.vwk (Keeps.refl _)) _ _ h5.1
   |ptr ds=>simp only [Own] at h5; exact VSim.of_rep (d:=.ptr ds) (Rep.keep (Tok.vwk (Keeps.refl _)) _ _ h5.1)
   |nilp=>grind [Own,ofT,VSim]
   | sl r=>
    have hat:At (p++[(sz',i,j)]) (.sl tk.rows) (.sl r):=(ha.sl (by intro e; rw [e] at hi; exact Nat.not_lt_zero _ hi)).trans (by
     simp only [At]
     grind)
    have hh:=hs.hds t tk htl hT
    have e1:=hh.2.2 _ _ hat rfl
    have e0:=hh.2.2 _ _ (ha.sl (by intro e; rw [e] at hi; exact Nat.not_lt_zero _ hi)) M5
    rw [KZ,e0,hg,hv,hdr] at e1
    simp only at e1
    rw [hb.cell,← Nat.add_assoc,h4] at e1
    grind [hdr,ofT,VSim,Own]
   | nl=>
    have hat:At (p++[(sz',i,j)]) (.sl tk.rows) .nl :=(ha.sl (by intro e; rw [e] at hi; exact Nat.not_lt_zero _ hi)).trans (by
     simp only [At]
     grind)
    have hh:=hs.hds t tk htl hT
    have e1:=hh.2.2 _ _ hat rfl
    have e0:=hh.2.2 _ _ (ha.sl (by intro e; rw [e] at hi; exact Nat.not_lt_zero _ hi)) M5
    rw [KZ,e0,hg,hv,hdr] at e1
    simp only at e1
    rw [hb.cell,← Nat.add_assoc,h4] at e1
    grind [hdr,ofT,VSim,Own]
theorem RK {t g} {p} {sz i}:∀ {ds} {j k},(RE t g p sz i j ds)[k]? =(ds[k]?).map (ofT t g p sz i (j+k))
 | [],j,k=>by rfl
 |d::ds,j,0=>by rfl
 |d::ds,j,k+1=>by
  rw [RE,List.getElem?_cons_succ,RK,List.getElem?_cons_succ,show j+1+k=j+(k+1) from by omega]
theorem RL {t g} {p} {sz i}:∀ {ds} {j},(RE t g p sz i j ds).length =ds.length
 | [],j=>rfl
 |d::ds,j=>by rw [RE,List.length_cons,List.length_cons,RL]
theorem RM {cx:Cx} {γ:Gh} {T:Nat→Option Tok} {B:Nat→Option (List AV)} {w:World} {t:TypeId} {v:AV} {t' g:Nat} {p:Pth} {rows:List (List D)} {i sz off:Nat} {row:List D} {b o n c:Nat} (hs:OSim cx γ T B w) (htl:γ.tl t') (hsub:subR T t' g p=some rows)
  (hrow:rows[i]? =some row) (hlen:row.length=sz) (hv:γ.hv t' g p= .slice (some ⟨b,o,none⟩) n c)
  (h:if (ti cx.P t).isAgg =true then off+tsz cx.P t≤sz∧v= .agg (Jc t' g p sz i row off (tsz cx.P t)) else (ti cx.P t).sc =true∧∃d,row[off]? =some d∧v=ofT t' g p sz i off d):
  ∃u,(Instr.loadAt t (.pointer (some ⟨b,o+i*sz+off,none⟩))).run cx.P w= .ok u w∧VSim γ.vw γ v u:=by
 obtain⟨e,cs,hb,hcl,hcell⟩:=U7 hs htl hsub hrow hlen hv
 split at h
 ·rename_i hagg
  obtain⟨hle,rfl⟩:=h
  refine⟨.agg ((cs.drop (o+i*sz+off)).take (tsz cx.P t)).toArray,IN hagg (by rw [List.length_take,List.length_drop]; omega) fun j u hu=>?_,?_⟩
  ·rw [List.getElem?_take] at hu
   split at hu
   ·rw [List.getElem?_drop] at hu
    rw [hb.cell]; exact hu
   grind
  grind [VSim,AD.mk,Jc,RL,RK]
 ·obtain⟨hsc,d,hd,rfl⟩:=h
  obtain⟨u,h4,h5⟩:=hcell off d hd
  exact⟨u,Ji hsc (by rw [hb.cell]; exact h4),h5⟩
theorem NS {cx:Cx} {γ:Gh} {T:Nat→Option Tok} {B:Nat→Option (List AV)} {w:World} {t:TypeId} {av v:AV} {a:Value} (hs:OSim cx γ T B w) (ha:VSim γ.vw γ av a) (h:Fs cx.P T B t av v):
  ∃u,(Instr.loadAt t a).run cx.P w= .ok u w∧VSim γ.vw γ v u:=by
 unfold Fs at h
 split at h
 ·rename_i b off
  obtain⟨vs,hB,hm,h⟩:=h
  simp only [VSim] at ha
  obtain⟨hbl,rfl⟩:=ha
  obtain⟨us,h1,h2⟩:=hs.box b vs hbl hB
  replace h2:=h2.cells hm
  have hl:=h1.length
  split at h
  ·rename_i hagg
   obtain⟨hle,rfl⟩:=h
   refine⟨_,IN hagg (us:=(us.drop off).take (tsz cx.P t)) (by grind) fun j u hu=>?_,?_⟩
   ·rw [List.getElem?_take] at hu
    split at hu
    ·rw [List.getElem?_drop] at hu
     rw [Nat.add_assoc]; exact h2.cell hu
    grind
   ·simp only [VSim]
    exact⟨_,rfl,h1.take_drop off _⟩
  ·obtain⟨hsc,hv⟩:=h
   obtain⟨u,h3,h4⟩:=h1.get hv
   exact⟨u,Ji hsc (h2.cell h3),h4⟩
 ·rename_i vs off
  simp only [VSim] at ha
  obtain⟨b,o,us,rfl,h1,-,hc⟩:=ha
  have hk:=hs.vw.k
  have hl:=h1.length
  split at h
  ·rename_i hagg
   obtain⟨hle,rfl⟩:=h
   refine⟨_,IN hagg (us:=(us.drop off).take (tsz cx.P t)) (by grind) fun j u hu=>?_,?_⟩
   ·rw [List.getElem?_take] at hu
    split at hu
    ·rw [List.getElem?_drop] at hu
     rw [Nat.add_assoc]; exact hk _ _ (hc _ _ hu)
    grind
   ·simp only [VSim]
    exact⟨_,rfl,h1.take_drop off _⟩
  ·obtain⟨hsc,hv⟩:=h
   obtain⟨u,h3,h4⟩:=h1.get hv
   exact⟨u,Ji hsc (hk _ _ (hc _ _ h3)),h4⟩
 ·rename_i t' sz i off
  obtain⟨tk,row,hT,hrow,hlen,h⟩:=h
  simp only [VSim] at ha
  obtain⟨htl,g,o,n,c,htv,rfl⟩:=ha
  obtain⟨h1,h2⟩:=YS hs.see htl hT
  exact RM hs htl h1 hrow hlen (h2.trans htv) h
 ·rename_i t' g p sz i off
  obtain⟨rows,row,hsub,hrow,hlen,h⟩:=h
  simp only [VSim] at ha
  obtain⟨⟨htl,-⟩,b,o,n,c,hv,rfl⟩:=ha
  exact RM hs htl hsub hrow hlen hv h
 grind
end Go.Proofs.YtoncbhomocgmcaaGreatDoor.Ab
