/- The abstract walk, fourth part. -/
import Derived.Test.YthenkmapmnkelaaGreatDoorAbC
namespace Go.Proofs.YthenkmapmnkelaaGreatDoor.Ab
set_option linter.unusedVariables false
set_option maxHeartbeats 1000000
set_option linter.unusedSimpArgs false
open Go.RowKit
section
variable {P:Program} {w:World}
theorem H9 {t e} (h:ti P t= .sl e):P.underlying t=some (.slice e):=by
 unfold ti at h; split at h <;> simp_all
theorem Zr {t} {k} (h:ti P t= .int k):P.underlying t=some (.int k):=by
 unfold ti at h; split at h <;> simp_all
theorem Wc {t} (h:ti P t= .str):P.underlying t=some .string :=by
 unfold ti at h; split at h <;> simp_all
theorem bW {t} {fs} (h:ti P t= .st fs):∃gs,P.underlying t=some (.struct gs)∧fs=gs.toList.map fun f=>(f.offset,f.type):=by
 unfold ti at h; split at h <;> simp_all
theorem Wd {t e} {n} (h:ti P t= .arr n e):P.underlying t=some (.array n e):=by
 unfold ti at h; split at h <;> simp_all
theorem Xy {t} (h:(ti P t).isAgg =true):(isAgg t).run P w= .ok true w:=by
 unfold ti at h
 split at h <;> simp [TI.isAgg] at h
 ·simp_all [isAgg,run_underlying]
 simp_all [isAgg,run_underlying]
theorem Xz {t} (h:(ti P t).sc =true):(isAgg t).run P w= .ok false w:=by
 unfold ti at h
 split at h <;> simp [TI.sc] at h <;> (rename_i j; simp [isAgg,run_underlying j])
theorem KW {t} (h:0<tsz P t):∃i,P.info? t=some i∧i.size=tsz P t:=by
 unfold tsz at h ⊢
 cases hi:P.info? t with
 |none=>grind
 |some i=>grind
theorem C7 {t} (h:0<tsz P t):(sizeOf t).run P w= .ok (tsz P t) w:=by
 obtain⟨i,h1,h2⟩:=KW h
 simp_all [sizeOf,typeInfo]
theorem TK {t} (h:(ti P t).isAgg =true):(sizeOf t).run P w= .ok (tsz P t) w:=by
 have j:∃i,P.info? t=some i:=by
  unfold ti at h
  split at h <;> simp [TI.isAgg] at h <;>
  ·rename_i p
   unfold Program.underlying at p
   cases j:P.info? t with
   |none=>simp [j] at p
   |some i=>exact⟨i,rfl⟩
 obtain⟨i,j⟩:=j
 simp [sizeOf,typeInfo,j,tsz]
theorem LO {o} {a} {next} {Q} {v} {w'} (h:(execOp a.eval o).run P w= .ok (.value v) w') (k:next (a.put o.dst v) w'):o.wp P a w next Q:=by
 unfold Oper.wp; rw [h]; exact k
theorem MR {t:TypeId} (h:(ti P t).isAgg =true) {b off:Nat} {us:List Value} (hl:us.length=tsz P t) (hc:∀j u,us[j]? =some u→w.cell? ⟨b,off+j,none⟩=some u):
  (Instr.loadAt t (.pointer (some ⟨b,off,none⟩))).run P w= .ok (.agg us.toArray) w:=by
 have h1:=run_loadCells_list (P:=P) (w:=w) ⟨b,off,none⟩ us (fun j u p=>by rw [Addr.add_lit]; grind)
 rw [hl] at h1
 simp_all [Instr.loadAt,Instr.sureAddr,loadVar,Xy,TK]
theorem OI {t} (h:(ti P t).sc =true) {b off} {u} (hc:w.cell? ⟨b,off,none⟩=some u):
  (Instr.loadAt t (.pointer (some ⟨b,off,none⟩))).run P w= .ok u w:=by
 simp [Instr.loadAt,Instr.sureAddr,loadVar,Xz h,hc]
end
theorem MS {w:World} {b:Nat}:∀ {off:Nat} {ds:List D},RepC w b off ds→AV.pts (L5 ds)=true→PF w b
 |_,[],_,e=>by cases e
 |off,d::ds,h,e=>by
  simp only [RepC] at h
  simp only [L5,AV.pts,List.any_cons,Bool.or_eq_true] at e
  rcases e with e|e
  ·exact h.1.2 (by cases d <;> first|rfl|cases e)
  ·exact MS h.2 e
mutual
theorem VSim.of_rep {w0} {γ}:∀ {d} {v},Rep w0 d v→VSim w0 γ (ofD d) v
 | .int k n,_,h=>by grind [ofD,VSim,Rep]
 | .bool b,_,h=>by grind [ofD,VSim,Rep]
 | .str s,_,h=>by grind [ofD,VSim,Rep]
 | .sl rows,_,h=>by grind [ofD,VSim]
 | .fz rows,_,h=>by grind [ofD,VSim,Rep]
 | .gone,_,_=>by grind [ofD,VSim]
 | .nilp,_,h=>by grind [ofD,VSim,Rep]
 | .nl,_,h=>by simp only [Rep] at h; obtain⟨a,h⟩:=h; exact⟨a,0,h,Nat.le_refl _,Nat.zero_le _,.inl rfl⟩
 | .ptr ds,_,h=>by
  simp only [Rep] at h
  obtain⟨b,off,rfl,j⟩:=h
  obtain⟨us,h1,h2⟩:=OJ j
  simp only [ofD,VSim]
  exact⟨b,off,us,rfl,h1,fun e=>MS j e,h2⟩
theorem OJ {w0} {γ} {b}:∀ {o} {ds},RepC w0 b o ds→∃us:List Value,AH w0 γ (L5 ds) us∧∀j u,us[j]? =some u→w0.cell? ⟨b,o+j,none⟩=some u
 |_,[],_=>⟨[],by rfl,fun j u h=>by grind⟩
 |o,d::ds,h=>by
  simp only [RepC] at h
  obtain⟨⟨⟨u,v,p⟩,-⟩,h2⟩:=h
  obtain⟨us,h3,q⟩:=OJ h2
  refine⟨u::us,by simp only [L5,AH]; exact⟨u,us,rfl,VSim.of_rep p,h3⟩,fun j x hx=>?_⟩
  grind
end
theorem Qe {w0} {γ} {b} {o} {ds} (h:RepC w0 b o ds):∃us:List Value,AH w0 γ (ds.map ofD) us∧∀j u,us[j]? =some u→w0.cell? ⟨b,o+j,none⟩=some u:=by
 rw [← PG]; exact OJ h
theorem AH.take_drop {w0} {γ} {vs} {us} (h:AH w0 γ vs us) (off n:Nat):AH w0 γ (Fs vs off n) ((us.drop off).take n):=by
 have j:=h.length
 refine AH.mk (by simp [Fs,j]) fun i a u h1 h2=>?_
 unfold Fs at h1
 by_cases hi:i<n
 ·rw [List.getElem?_take_of_lt hi,List.getElem?_drop] at h1 h2
  obtain⟨q,h3,p⟩:=h.get h1
  rw [h3] at h2; grind
 grind
theorem PP {w}:∀ (p q:Pth) (v:Value),hdr w v (p++q)=hdr w (hdr w v p) q
 | [],q,v=>by rfl
 | (sz,i,j)::p,q,v=>by
  have C:hdr w (.tuple #[]) q= .tuple #[] :=by
   cases q with
   |nil=>rfl
   |cons s q=>rfl
  rw [List.cons_append]
  by_cases hv:∃a n c,v= .slice (some a) n c
  ·obtain⟨a,n,c,rfl⟩:=hv
   rw [hdr,hdr]
   cases w.cell? ⟨a.block,a.off+(i*sz+j),none⟩ with
   |none=>exact C.symm
   |some u=>exact PP p q u
  ·have h1:∀r,hdr w v ((sz,i,j)::r)= .tuple #[] :=fun r=>by
    cases v with
    |slice a n c=>
     cases a with
     |none=>simp only [hdr]
     |some a=>exact absurd ⟨_,_,_,rfl⟩ hv
    |_=>simp only [hdr]
   rw [h1,h1,C]
def AtR (p:Pth) (rows r:List (List D)):Prop:=∃d,At p (.sl rows) d∧Hf d=some r
theorem AtR.sl {p rows r} (h:AtR p rows r) (hr:r≠ []):At p (.sl rows) (.sl r):=by
 obtain⟨d,h1,h2⟩:=h
 cases d <;> simp_all [Hf]
theorem PQ:∀ {p} {rows r},getP p rows=some r→AtR p rows r
 | [],rows,r,h=>⟨.sl rows,by grind [getP,At,Hf]⟩
 | (sz,i,j)::p,rows,r,h=>by
  rw [getP] at h
  split at h
  ·rename_i v C
   split at h
   ·rename_i F
    split at h
    ·rename_i I hj
     obtain⟨G,hd,u⟩:=Option.bind_eq_some_iff.1 hj
     cases G <;> simp [Hf] at u
     ·subst u
      obtain⟨d,h1,h2⟩:=PQ h
      exact⟨d,⟨v,_,C,F,hd,h1⟩,h2⟩
     ·subst u
      cases p with
      |nil=>rw [getP] at h; cases h; exact⟨.nl,⟨v,_,C,F,hd,rfl⟩,rfl⟩
      |cons q p=>obtain⟨_,_,_⟩:=q; simp [getP] at h
    ·cases h
   ·cases h
  ·cases h
theorem TL {V w} {d} {v} {fp} {r} (h:Own V w d v fp) (hd:Hf d=some r):Own V w (.sl r) v fp:=by
 cases d <;> simp [Hf] at hd
 ·subst hd; exact h
 ·subst hd; simp only [Own] at h; obtain⟨⟨a,h⟩,h2⟩:=h; exact .inl ⟨rfl,⟨a,0,h,Nat.zero_le _⟩,h2⟩
theorem Jw {w0} {γ} {T} {B} {w} {t g} {p} {rows} (hs:VwOk w0 γ T B w) (htl:γ.tl t) (h:subR T t g p=some rows):
  ∃tk q C j,T t=some tk∧tk.gen=g∧AtR p tk.rows rows∧γ.gl t g∧γ.tf t=q++(C++j)∧Own (tk.vw w0) w (.sl rows) (γ.hv t g p) C∧
   ∀ (w':World) (d':D) (f2':List Nat),(∀x ∈ q++j,w'.heap[x]? =w.heap[x]?)→Own (tk.vw w0) w' d' (γ.hv t g p) f2'→Own (tk.vw w0) w' (put p (.sl tk.rows) d') (γ.tv t) (q++(f2'++j)):=by
 unfold subR at h
 split at h
 ·rename_i tk F
  split at h
  ·rename_i hg
   have v:=PQ h
   have G:=v
   obtain⟨J,v,u⟩:=v
   obtain⟨q,C,j,h1,h2,h3⟩:=(hs.tok t tk htl F).own.path v
   have I:=hs.hds t tk htl F
   have O:=I.2.2 p J v (by simp [isSl,u])
   subst hg
   rw [O] at h2 h3
   refine⟨tk,q,C,j,F,rfl,G,I.1,h1,TL h2 u,h3⟩
  grind
 grind
theorem jU {w0} {γ} {T} {B} {w} {t} {tk} (hs:VwOk w0 γ T B w) (htl:γ.tl t) (hT:T t=some tk):subR T t tk.gen [] =some tk.rows∧γ.hv t tk.gen [] =γ.tv t:=by
 have h1:subR T t tk.gen [] =some tk.rows:=by grind [subR,getP]
 refine⟨h1,?_⟩
 have:=(hs.hds t tk htl hT).2.2 [] (.sl tk.rows) (by rfl) Sy
 rw [← this]; rfl
theorem dE {cx} {γ} {T} {B} {w} {t g} {p} {rows} {i sz} {row} {b o n c} (hs:OSim cx γ T B w) (htl:γ.tl t) (h:subR T t g p=some rows)
  (hrow:rows[i]? =some row) (hlen:row.length=sz) (hv:γ.hv t g p= .slice (some ⟨b,o,none⟩) n c):
  ∃e cs,Blk w b e cs∧o+i*sz+sz≤cs.length∧∀j d,row[j]? =some d→∃u,cs[o+i*sz+j]? =some u∧VSim γ.vw γ (ofT t g p sz i j d) u:=by
 obtain⟨tk,f1,f2,f3,hT,hg,O,hgl,-,q,-⟩:=Jw hs.see htl h
 have Y:=q
 rw [hv] at q
 simp only [Own] at q
 have v:=BU hrow
 rcases q with ⟨he,-,-⟩|⟨sz',g',o',c',e',cs,fps,hv',h1,h2,hb,h3,hr,-⟩
 ·rw [he] at v; grind
 ·simp only [Value.slice.injEq,Option.some.injEq,Addr.mk.injEq,and_true] at hv'
  obtain⟨⟨rfl,rfl⟩,-,-⟩:=hv'
  obtain⟨a1,a2,a3,-,hl,hc,-⟩:=hr.split i v
  rw [List.getElem?_eq_getElem v] at hrow
  simp only [Option.some.injEq] at hrow
  rw [hrow] at hl hc
  have U:sz'=sz:=by omega
  subst U
  refine⟨e',cs,hb,?_,fun j d hj=>?_⟩
  ·have:(i+1)*sz'≤rows.length*sz':=Nat.mul_le_mul_right _ v
   have h6:rows.length*sz'≤c'*sz':=Nat.mul_le_mul_right _ h1
   rw [Nat.add_mul] at this
   omega
  ·have I:=BU hj
   obtain⟨u,_,fp,_,_,W,G,-⟩:=hc.split j I
   rw [List.getElem?_eq_getElem I] at hj
   simp only [Option.some.injEq] at hj
   rw [hj] at G
   refine⟨u,W,?_⟩
   cases d with
   |int k n=>grind [Own,ofT,VSim]
   |bool b=>grind [Own,ofT,VSim]
   |str s=>grind [Own,ofT,VSim]
   |gone=>trivial
   |fz rows=>simp only [Own] at G; simp only [ofT,VSim]; exact Rep.keep (Tok.vwk (Keeps.refl _)) _ _ G.1
   |ptr ds=>simp only [Own] at G; exact VSim.of_rep (d:=.ptr ds) (Rep.keep (Tok.vwk (Keeps.refl _)) _ _ G.1)
   |nilp=>grind [Own,ofT,VSim]
   | sl r=>
    have F:At (p++[(sz',i,j)]) (.sl tk.rows) (.sl r):=(O.sl (by intro e; rw [e] at v; exact Nat.not_lt_zero _ v)).trans (by
     simp only [At]
     grind)
    have J:=hs.hds t tk htl hT
    have C:=J.2.2 _ _ F rfl
    have e0:=J.2.2 _ _ (O.sl (by intro e; rw [e] at v; exact Nat.not_lt_zero _ v)) Sy
    rw [PP,e0,hg,hv,hdr] at C
    simp only at C
    rw [hb.cell,← Nat.add_assoc,W] at C
    grind [hdr,ofT,VSim,Own]
   | nl=>
    have F:At (p++[(sz',i,j)]) (.sl tk.rows) .nl :=(O.sl (by intro e; rw [e] at v; exact Nat.not_lt_zero _ v)).trans (by
     simp only [At]
     grind)
    have J:=hs.hds t tk htl hT
    have C:=J.2.2 _ _ F rfl
    have e0:=J.2.2 _ _ (O.sl (by intro e; rw [e] at v; exact Nat.not_lt_zero _ v)) Sy
    rw [PP,e0,hg,hv,hdr] at C
    simp only at C
    rw [hb.cell,← Nat.add_assoc,W] at C
    grind [hdr,ofT,VSim,Own]
theorem X0 {t g} {p} {sz i}:∀ {ds} {j k},(Xv t g p sz i j ds)[k]? =(ds[k]?).map (ofT t g p sz i (j+k))
 | [],j,k=>by rfl
 |d::ds,j,0=>by rfl
 |d::ds,j,k+1=>by
  rw [Xv,List.getElem?_cons_succ,X0,List.getElem?_cons_succ,show j+1+k=j+(k+1) from by omega]
theorem X1 {t g} {p} {sz i}:∀ {ds} {j},(Xv t g p sz i j ds).length =ds.length
 | [],j=>rfl
 |d::ds,j=>by rw [Xv,List.length_cons,List.length_cons,X1]
theorem X2 {cx:Cx} {γ:Gh} {T:Nat→Option Tok} {B:Nat→Option (List AV)} {w:World} {t:TypeId} {v:AV} {t' g:Nat} {p:Pth} {rows:List (List D)} {i sz off:Nat} {row:List D} {b o n c:Nat} (hs:OSim cx γ T B w) (htl:γ.tl t') (hsub:subR T t' g p=some rows)
  (hrow:rows[i]? =some row) (hlen:row.length=sz) (hv:γ.hv t' g p= .slice (some ⟨b,o,none⟩) n c)
  (h:if (ti cx.P t).isAgg =true then off+tsz cx.P t≤sz∧v= .agg (Qb t' g p sz i row off (tsz cx.P t)) else (ti cx.P t).sc =true∧∃d,row[off]? =some d∧v=ofT t' g p sz i off d):
  ∃u,(Instr.loadAt t (.pointer (some ⟨b,o+i*sz+off,none⟩))).run cx.P w= .ok u w∧VSim γ.vw γ v u:=by
 obtain⟨e,cs,I,O,q⟩:=dE hs htl hsub hrow hlen hv
 split at h
 ·rename_i C
  obtain⟨W,rfl⟩:=h
  refine⟨.agg ((cs.drop (o+i*sz+off)).take (tsz cx.P t)).toArray,MR C (by rw [List.length_take,List.length_drop]; omega) fun j u F=>?_,?_⟩
  ·rw [List.getElem?_take] at F
   split at F
   ·rw [List.getElem?_drop] at F
    rw [I.cell]; exact F
   grind
  grind [VSim,AH.mk,Qb,X1,X0]
 ·obtain⟨G,d,hd,rfl⟩:=h
  obtain⟨u,U,J⟩:=q off d hd
  exact⟨u,OI G (by rw [I.cell]; exact U),J⟩
theorem TM {cx:Cx} {γ:Gh} {T:Nat→Option Tok} {B:Nat→Option (List AV)} {w:World} {t:TypeId} {av v:AV} {a:Value} (hs:OSim cx γ T B w) (ha:VSim γ.vw γ av a) (h:Ju cx.P T B t av v):
  ∃u,(Instr.loadAt t a).run cx.P w= .ok u w∧VSim γ.vw γ v u:=by
 unfold Ju at h
 split at h
 ·rename_i b off
  obtain⟨vs,hB,hm,h⟩:=h
  simp only [VSim] at ha
  obtain⟨W,rfl⟩:=ha
  obtain⟨us,h1,h2⟩:=hs.box b vs W hB
  replace h2:=h2.cells hm
  have hl:=h1.length
  split at h
  ·rename_i q
   obtain⟨hle,rfl⟩:=h
   refine⟨_,MR q (us:=(us.drop off).take (tsz cx.P t)) (by grind) fun j u G=>?_,?_⟩
   ·rw [List.getElem?_take] at G
    split at G
    ·rw [List.getElem?_drop] at G
     rw [Nat.add_assoc]; exact h2.cell G
    grind
   ·simp only [VSim]
    exact⟨_,rfl,h1.take_drop off _⟩
  ·obtain⟨J,hv⟩:=h
   obtain⟨u,h3,Y⟩:=h1.get hv
   exact⟨u,OI J (h2.cell h3),Y⟩
 ·rename_i vs off
  simp only [VSim] at ha
  obtain⟨b,o,us,rfl,h1,-,hc⟩:=ha
  have hk:=hs.vw.k
  have hl:=h1.length
  split at h
  ·rename_i q
   obtain⟨hle,rfl⟩:=h
   refine⟨_,MR q (us:=(us.drop off).take (tsz cx.P t)) (by grind) fun j u G=>?_,?_⟩
   ·rw [List.getElem?_take] at G
    split at G
    ·rw [List.getElem?_drop] at G
     rw [Nat.add_assoc]; exact hk _ _ (hc _ _ G)
    grind
   ·simp only [VSim]
    exact⟨_,rfl,h1.take_drop off _⟩
  ·obtain⟨J,hv⟩:=h
   obtain⟨u,h3,Y⟩:=h1.get hv
   exact⟨u,OI J (hk _ _ (hc _ _ h3)),Y⟩
 ·rename_i t' sz i off
  obtain⟨tk,row,hT,F,C,h⟩:=h
  simp only [VSim] at ha
  obtain⟨I,g,o,n,c,U,rfl⟩:=ha
  obtain⟨h1,h2⟩:=jU hs.see I hT
  exact X2 hs I h1 F C (h2.trans U) h
 ·rename_i t' g p sz i off
  obtain⟨rows,row,O,F,C,h⟩:=h
  simp only [VSim] at ha
  obtain⟨⟨I,-⟩,b,o,n,c,hv,rfl⟩:=ha
  exact X2 hs I O F C hv h
 grind
end Go.Proofs.YthenkmapmnkelaaGreatDoor.Ab
