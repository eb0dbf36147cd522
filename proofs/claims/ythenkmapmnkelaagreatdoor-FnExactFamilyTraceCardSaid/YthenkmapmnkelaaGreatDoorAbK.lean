/- The abstract walk, eleventh part. -/
import Derived.Test.YthenkmapmnkelaaGreatDoorAbI
namespace Go.Proofs.YthenkmapmnkelaaGreatDoor.Ab
set_option linter.unusedVariables false
set_option maxHeartbeats 1000000
set_option linter.unusedSimpArgs false
open Go.RowKit Go.ChangeMaps
theorem Qm {V w} {cs}:∀ {ds} {o} {f},OwnC V w cs o ds f→ds.all D.flat=true→∀j,j<ds.length→∀ (a:Option Addr) (n c:Nat),cs[o+j]? ≠some (.slice a n c)
 | [],o,f,_,_,j,hj,a,n,c=>by grind
 | d::ds,o,f,h,hf,j,hj,a,n,c=>by
  simp only [OwnC] at h
  obtain⟨u,C,v,p,ho,q,-⟩:=h
  simp only [List.all_cons,Bool.and_eq_true] at hf
  cases j with
  |zero=>
   rw [Nat.add_zero,p]
   intro e
   obtain rfl:=Option.some.inj e
   cases d <;> simp only [Own,D.flat] at ho hf
   ·cases ho.1
   ·cases ho.1
   ·cases ho.1
   ·cases hf.1
   ·cases hf.1
   ·cases hf.1
   ·cases hf.1
   ·cases ho.1
   ·cases hf.1
  |succ j=>
   rw [show o+(j+1)=o+1+j from by omega]
   exact Qm q hf.2 j (by simpa using hj) a n c
theorem At.flat_end {q} {d d1} (h:At q d d1) (hs:isSl d1):d.flat=false:=by
 cases q with
 |nil=>simp only [At] at h; subst h; rcases hs.cases with ⟨r,rfl⟩|rfl <;> rfl
 |cons s q=>obtain⟨_,_,_⟩:=s; cases d <;> simp only [At] at h; rfl
theorem At.flatRow {rows} {i off} {row ds} {q} {d2} (hr:rows[i]? =some row) (hle:off+ds.length≤row.length) (hspl:splice row off ds=row.take off++(ds++row.drop (off+ds.length)))
  (hf:EH row off ds=true) (h:At q (.sl (rows.set i (splice row off ds))) d2) (hs:isSl d2):∃d2',At q (.sl rows) d2'∧isSl d2':=by
 cases q with
 |nil=>exact⟨_,rfl,Sy⟩
 | cons s q=>
  obtain⟨sz,G,j⟩:=s
  simp only [At] at h
  obtain⟨p,u,h1,h2,h3,C⟩:=h
  by_cases hi:i=G
  ·subst hi
   rw [List.getElem?_set_self (BU hr)] at h1
   obtain rfl:=Option.some.inj h1
   have F:(splice row off ds).length =row.length:=by rw [hspl]; grind
   have hj:row[j]? =some u:=by
    rw [hspl] at h3
    have v:(row.take off).length =off:=by rw [List.length_take]; omega
    by_cases h5:j<off
    ·rw [List.getElem?_append_left (by omega),List.getElem?_take_of_lt h5] at h3
     exact h3
    ·rw [List.getElem?_append_right (by omega),v] at h3
     by_cases h6:j - off<ds.length
     ·rw [List.getElem?_append_left h6] at h3
      simp only [EH,Bool.and_eq_true,List.all_eq_true] at hf
      have:=hf.1 u (List.mem_of_getElem? h3)
      rw [C.flat_end hs] at this
      grind
     grind
   exact⟨d2,⟨row,u,hr,by omega,hj,C⟩,hs⟩
  ·rw [List.getElem?_set_ne hi] at h1
   exact⟨d2,⟨p,u,h1,h2,h3,C⟩,hs⟩
structure Out (cx:Cx) (γ:Gh) (σ:St) (γ':Gh) (σ':St) (w':World):Prop where
 ext:Gh.Ext γ γ'
 os:OSim cx γ' σ'.T σ'.B w'
 s:σ'.s=σ.s
 td:∀x,γ'.tl x→γ.tl x∨(look σ'.t x).isSome =true
 bd:∀x,γ'.bl x→γ.bl x∨(look σ'.b x).isSome =true
 tm:∀x,(look σ.t x).isSome =true→(look σ'.t x).isSome =true
 bm:∀x,(look σ.b x).isSome =true→(look σ'.b x).isSome =true
theorem dS {a m b c:List Nat} (h:(a++(m++b)).Nodup) (hc:c.Nodup) (hd:∀k ∈ c,k ∉ a∧k ∉ b):(a++(c++b)).Nodup :=by
 grind
theorem Iq {α:Type} {cs news:List α} {p:Nat} (h:p+news.length≤cs.length) (j:Nat):
  (cs.take p++news++cs.drop (p+news.length))[j]? =if j<p then cs[j]? else if j<p+news.length then news[j - p]? else cs[j]? :=by
 have hp:(cs.take p).length =p:=by rw [List.length_take]; omega
 rw [List.append_assoc,List.getElem?_append]
 rw [hp]
 grind
section
variable {cx:Cx} {γ:Gh} {w:World}
theorem OSim.putBox {T} {B} (hs:OSim cx γ T B w) {w'} {b} {vs vs'} {us'} (hbl:γ.bl b) (hB:B b=some vs) (I:γ.bb b<w.heap.size)
  (hch:Chg w w' (· =γ.bb b)) (hl:∀x ∈ cx.L,x.1 =γ.bb b→x.2.1 =γ.bo b→x.2.2 =vs.length→Hl cx.we w x→Hl cx.we w' x)
  (hv':AH γ.vw γ vs' us') (hbx:Fw w' vs' (γ.bb b) (γ.bo b) us') (hlen:vs'.length=vs.length):OSim cx γ T (fun x=>if x=b then some vs' else B x) w':=by
 have j:∀k,k<w.heap.size→k≠γ.bb b→w'.heap[k]? =w.heap[k]? :=fun k h1 h2=>hch.block k h1 h2
 have hb:=hs.bfr b vs hbl hB
 have J:∀t tk,γ.tl t→T t=some tk→∀g ∈ γ.tf t,w'.heap[g]? =w.heap[g]? :=fun t tk h1 h2 g hg=>j g ((hs.tok t tk h1 h2).lt g hg) fun e=>hs.btd b t vs tk hbl h1 hB h2 (e ▸ hg)
 refine⟨⟨?_,hch.os.trans hs.frm.os,hch.tape.trans hs.frm.tape,hch.output.trans hs.frm.output,Nat.le_trans hs.frm.size hch.size,fun k hk h1 h2=>?_,fun x hx=>?_⟩,fun t tk h1 h2=>?_,hs.tnd,hs.tds,fun p q h1 h2=>?_,fun b1 b2 v1 v2 hne h1 h2 h3 C=>?_,fun p t q tk h1 h2 h3 C=>?_,hs.tfr,fun p q h1 h2=>?_,fun t tk h1 h2=>(hs.hds t tk h1 h2).keep (hs.tok t tk h1 h2).own (J t tk h1 h2),hs.beg,⟨hs.vw.k.on fun a u O=>?_,hs.vw.t,fun p q h1 h2=>?_,hs.vw.f⟩⟩
 ·refine Rg hs.frm.sh (fun i hi hi'=>j i hi' fun e=>?_) hch.shape
  subst e
  rcases hb with h|⟨-,x,hx,h,-⟩
  ·have:=cx.lowe; omega
  ·have:=cx.low (γ.bb b) (.inr ⟨x,hx,h⟩); omega
 ·rw [j k (Nat.lt_of_lt_of_le hk hs.frm.size) fun e=>?_]
  ·exact hs.frm.block k hk h1 h2
  grind
 ·have F:=hs.frm.lent x hx
  by_cases hxb:x.1 =γ.bb b
  ·rcases hb with h|⟨hp,y,hy,h5,h6,h7,h8⟩
   ·have:=F.lt0; omega
   grind
  ·exact F.keep (j _ F.lt hxb)
 ·exact(hs.tok t tk h1 h2).keep (J t tk h1 h2)
 ·by_cases hx:p=b
  ·grind
  ·simp only [if_neg hx] at h2
   obtain⟨us1,h3,C⟩:=hs.box p q h1 h2
   exact⟨us1,h3,C.keep (j _ C.lt (hs.bds p b q vs hx h1 hbl h2 hB))⟩
 ·have G:∀x v,(if x=b then some vs' else B x)=some v→∃v',B x=some v':=fun x v hx=>by
   grind
  obtain⟨v1',h3'⟩:=G b1 v1 h3
  obtain⟨W,Y⟩:=G b2 v2 C
  exact hs.bds b1 b2 v1' W hne h1 h2 h3' Y
 ·by_cases hx:p=b
  ·subst hx; exact hs.btd p t vs tk h1 h2 hB C
  ·simp only [if_neg hx] at h3; exact hs.btd p t q tk h1 h2 h3 C
 ·by_cases hx:p=b
  ·grind
  ·simp only [if_neg hx] at h2; exact hs.bfr p q h1 h2
 ·have h1:=hs.vw.k a u O
  have I:=World.block_lt_of_cell? w a h1
  have U:=j a.block I fun e=>by
   rw [KS O,e,hs.vw.b b vs hbl hB] at O; cases O
  exact U
 ·by_cases hx:p=b
  ·subst hx; exact hs.vw.b p vs hbl hB
  ·simp only [if_neg hx] at h2; exact hs.vw.b p q h1 h2
theorem dT {vs} (h:vs.all AV.one=true):isMp vs=false:=by
 cases vs with
 |nil=>rfl
 | cons a l=>cases l with
  |nil=>
   simp only [List.all_cons,Bool.and_eq_true] at h
   cases a <;> first|rfl|(simp [AV.one] at h)
  |cons b l=>rfl
theorem YF {vs cs} {off} (hm:isMp vs=false) (hc:cs.all AV.one=true) (hle:off+cs.length≤vs.length):isMp (splice vs off cs)=false:=by
 by_cases hl:vs.length=1
 ·obtain⟨a,rfl⟩:∃a,vs=[a] :=by cases vs with
   |nil=>grind
   |cons a l=>grind
  cases cs with
  |nil=>exact hm
  |cons c cs=>
   simp only [List.length_cons,List.length_nil] at hle
   have j:off=0:=by omega
   have p:cs=[] :=List.eq_nil_of_length_eq_zero (by omega)
   subst j p
   simp only [List.all_cons,Bool.and_eq_true] at hc
   show isMp [c] =false
   cases c <;> first|rfl|(simp [AV.one] at hc)
 grind [Xu,EI]
theorem OSim.storeBox {T:Nat→Option Tok} {B:Nat→Option (List AV)} (hs:OSim cx γ T B w) {b:Nat} {vs cs:List AV} {us news:List Value} {off:Nat} {cur:Array Value} {e:TypeId} (hbl:γ.bl b) (hB:B b=some vs) (hm:isMp vs=false) (hone:cs.all AV.one=true)
  (hv:AH γ.vw γ vs us) (hg:w.heap[γ.bb b]? =some (.cells cur e (0,0))) (hc:∀j,j<us.length→cur[γ.bo b+j]? =us[j]?) (hn:AH γ.vw γ cs news) (hle:off+cs.length≤vs.length) (h0:0<cs.length):
  γ.bo b+off+news.length≤cur.toList.length∧
  OSim cx γ T (fun x=>if x=b then some (splice vs off cs) else B x) (w.setRow (γ.bb b) (cur.toList.take (γ.bo b+off)++news++cur.toList.drop (γ.bo b+off+news.length)).toArray):=by
 have O:=hv.length
 have C:=hn.length
 have G:=lt_of_block hg
 have p:γ.bo b+off+news.length≤cur.toList.length:=by
  have h1:=hc (us.length - 1) (by omega)
  rw [List.getElem?_eq_getElem (show us.length - 1<us.length by omega)] at h1
  grind
 refine⟨p,?_⟩
 have q:(cur.toList.take (γ.bo b+off)++news++cur.toList.drop (γ.bo b+off+news.length)).toArray.size =cur.size:=by
  grind
 have F:=Chg.setRow (w:=w) (g:=γ.bb b) (cs:=(cur.toList.take (γ.bo b+off)++news++cur.toList.drop (γ.bo b+off+news.length)).toArray) hg q
 have v:=setRow_heap w (γ.bb b) cur (cur.toList.take (γ.bo b+off)++news++cur.toList.drop (γ.bo b+off+news.length)).toArray e (0,0) hg
 have J:∀j,(cur.toList.take (γ.bo b+off)++news++cur.toList.drop (γ.bo b+off+news.length)).toArray[j]? =if j<γ.bo b+off then cur[j]? else if j<γ.bo b+off+news.length then news[j - (γ.bo b+off)]? else cur[j]? :=fun j=>by
  rw [List.getElem?_toArray,Iq p j,Array.getElem?_toList]
 generalize (cur.toList.take (γ.bo b+off)++news++cur.toList.drop (γ.bo b+off+news.length)).toArray =row at*
 refine hs.putBox hbl hB G F (fun x hx u U Y I=>?_) (us':=splice us off news) ?_ (Fw.of ⟨row,e,v,fun j hj=>?_⟩ (YF hm hone hle)) (by rw [EI _ _ _ hle]; grind)
 ·rcases I with ⟨c1,c2,e',h1,h2,h3,h4⟩|⟨es,k,es',k',h1,h2⟩
  ·rw [u] at h2 h1
   rw [hg] at h2
   simp only [Option.some.injEq,Obj.cells.injEq,and_true] at h2
   obtain⟨rfl,rfl⟩:=h2
   refine .inl ?_
   rw [u]
   grind
  grind
 ·rw [EI _ _ _ hle,EI _ _ _ (by omega)]
  have W:AH γ.vw γ (vs.take off) (us.take off):=by simpa [Fs] using hv.take_drop 0 off
  have hd:AH γ.vw γ (vs.drop (off+cs.length)) (us.drop (off+news.length)):=by
   rw [C]
   have U:=hv.take_drop (off+cs.length) (vs.length - (off+cs.length))
   grind [Fs,List.length_drop]
  exact W.append (hn.append hd)
 grind [EI,Iq]
theorem Vm {σ} {t} {mv iv xv} {m i x} {K} (hs:OSim cx γ σ.T σ.B w) (hm:VSim γ.vw γ mv m) (hi:VSim γ.vw γ iv i) (hx:VSim γ.vw γ xv x) (h:Wb cx.P t mv iv xv σ K):
  ∃w' γ' σ',(Instr.mapUpdate t m i x).run cx.P w= .ok () w'∧K σ'∧Out cx γ σ γ' σ' w':=by
 unfold Wb at h
 split at h
 ·rename_i kt et b hu
  obtain⟨q,u,hB,hlen,hq,k,hkd,hkb,d,hd,hK⟩:=h
  simp only [VSim] at hm
  obtain⟨J,rfl⟩:=hm
  obtain⟨I,c,h3,W,h5,G⟩:=Wf hs J hB
  have v:=Ta hi hkd
  have C:=fv hkb
  have hck:=fun e=>Vh (P:=cx.P) (w:=w) hq C v e
  have hfd:GP d x:=by
   cases xv <;> simp only [LM,Option.map_some,Option.some.injEq,List.cons.injEq,and_true] at hd <;> try (cases hd; done)
   all_goals subst hd; simpa only [VSim,GP] using hx
  have hent:VP q [k,d] (i,x):=⟨C,v,hfd⟩
  have hbo:γ.bo b=0:=by
   obtain⟨us,-,h6⟩:=hs.box b _ J hB
   exact(h6.map rfl).1
  have hlt:γ.bb b<w.heap.size:=(Array.getElem?_eq_some_iff.1 h3).1
  have fin:∀ (p:Array MapEntry) (F:Nat),(Instr.mapUpdate t (.map (some (γ.bb b))) i x).run cx.P w= .ok () (setBlock w (γ.bb b) (.map p F))→Ba q (mput k d u) (I7 p)→MapKept.Stamped p F→
    ∃w' γ' σ',(Instr.mapUpdate t (.map (some (γ.bb b))) i x).run cx.P w= .ok () w'∧K σ'∧Out cx γ σ γ' σ' w':=fun p F Y hents hst'=>by
   have hnew:(setBlock w (γ.bb b) (.map p F)).heap[γ.bb b]? =some (.map p F):=heap_setBlock_same h3 _
   have hoth:∀j,j≠γ.bb b→(setBlock w (γ.bb b) (.map p F)).heap[j]? =w.heap[j]? :=fun j hj=>heap_setBlock_other h3 _ hj
   have hch:Chg w (setBlock w (γ.bb b) (.map p F)) (· =γ.bb b):=⟨rfl,rfl,rfl,by simp [setBlock],fun j _ hj=>hoth j hj,fun g y hg=>by
    grind [World.shape?]⟩
   have hmlen:(mput k d u).length ≤68719476736:=by
    rw [NU k d W]
    grind
   have hos:=hs.putBox J hB hlt hch (fun y hy hyb _ _ hlo=>by
     rcases hlo with ⟨c1,c2,e',h1,h2,-⟩|⟨e1,k1,e2,k2,h1,h2⟩
     ·rw [hyb,h3] at h2; cases h2
     ·exact .inr ⟨e1,k1,p,F,h1,by rw [hyb]; omega⟩) (vs':=[.mpc q (mput k d u)]) (us':=[S7 (I7 p)])
    (by grind [AH,VSim]) (by rw [hbo]; exact Fw.ofM ⟨p,F,hnew,rfl,hst'⟩ rfl) rfl
   refine⟨_,γ,_,Y,hK,Gh.Ext.refl γ,?_,rfl,fun x h=>.inl h,fun x h=>.inl h,fun x h=>h,fun y hy=>?_⟩
   ·have e1:(σ.setB b [.mpc q (mput k d u)]).B =fun y=>if y=b then some [.mpc q (mput k d u)] else σ.B y:=funext fun y=>St.B_setB σ b _ y
    rw [e1]; exact hos
   ·show (look ((b,_)::σ.b) y).isSome =true
    rw [AJ]; grind
  rcases key_find (P:=cx.P) (w:=w) hq C v W with ⟨k1,k2,hf⟩|⟨j,e,d0,k1,k2,hf,k4,k5,k6⟩
  ·refine fin (I.push {key:=i,val:=x,born:=c}) (c+1) (by simp [Instr.mapUpdate,run_underlying (OM hu),MapKept.run_getObj_map h3,hck,hf,MapKept.run_setObj_map _ h3,setBlock]) ?_ (MapKept.stamped_push G (Vj C v W k1))
   rw [NU k d W,k1]
   have:I7 (I.push {key:=i,val:=x,born:=c})=I7 I++[(i,x)] :=by simp [I7]
   rw [this]
   grind [Ba.snoc]
  ·have O:I[j]? =some e:=by rw [← Array.getElem?_toList]; exact k4
   have hst:=dO (P:=cx.P) (w:=w) C v
   refine fin (I.modify j fun e=> {e with key:=i,val:=x}) c (by simp [Instr.mapUpdate,run_underlying (OM hu),MapKept.run_getObj_map h3,hck,hf,O,k5,hst,MapKept.run_setObj_map _ h3,setBlock]) ?_ (MapKept.stamped_modify G _ _ (fun _ _=>rfl) fun e' _ U=>by rw [O] at U; cases U; exact k5.symm)
   rw [NU k d W,k1]
   have:I7 (I.modify j fun e=> {e with key:=i,val:=x})=(I7 I).set j (i,x):=by
    unfold I7
    rw [Array.toList_modify,modify_eq_set _ _ _ _ k4,List.map_set]
   rw [this]
   grind [Ba.set]
 grind
theorem bi {V w} {d} {v} {f} (h:Own V w d v f) (hf:d.flat=true):f=[] :=by
 cases d <;> simp only [Own,D.flat] at h hf
 ·grind
 ·grind
 ·grind
 ·cases hf
 ·cases hf
 ·cases hf
 ·cases hf
 ·grind
 ·cases hf
theorem YG {V w} {cs}:∀ {ds} {o} {f},OwnC V w cs o ds f→ds.all D.flat=true→f=[]
 | [],o,f,h,_=>by grind [OwnC]
 |d::ds,o,f,h,hf=>by
  simp only [OwnC] at h
  obtain⟨u,p,j,-,h1,h2,rfl⟩:=h
  simp only [List.all_cons,Bool.and_eq_true] at hf
  rw [bi h1 hf.1,YG h2 hf.2]; rfl
theorem YH {V w}:∀ {ds} {us} {f},DR V w ds us f→ds.all D.flat=true→f=[]
 | [],us,f,h,_=>by grind [DR]
 |d::ds,us,f,h,hf=>by
  simp only [DR] at h
  obtain⟨u,j,q,p,-,h1,h2,rfl⟩:=h
  simp only [List.all_cons,Bool.and_eq_true] at hf
  rw [bi h1 hf.1,YH h2 hf.2]; rfl
theorem Tf {p} (hp:p≠ []) {rows} {d1} (h:At p (.sl rows) d1) (d:D):Ab.put p (.sl rows) d= .sl (putR p rows d)∧∃ (i:Nat) (q row':List D),rows[i]? =some q∧(putR p rows d)[i]? =some row'∧row'.length=q.length:=by
 cases p with
 |nil=>grind
 | cons s p=>
  obtain⟨sz,i,j⟩:=s
  simp only [At] at h
  obtain⟨q,e,h1,h2,h3,C⟩:=h
  have u:Ab.put ((sz,i,j)::p) (.sl rows) d= .sl (rows.set i (q.set j (Ab.put p e d))):=by
   rw [Ab.put,h1]; simp only; rw [h3]
  have v:putR ((sz,i,j)::p) rows d=rows.set i (q.set j (Ab.put p e d)):=by unfold putR; rw [u]
  refine⟨by rw [v]; omega,i,q,q.set j (Ab.put p e d),h1,?_,by simp⟩
  rw [v,List.getElem?_set_self (BU h1)]
theorem Ae.put {V w w'} {tk} {v} {fp fp'} {p} {d1 d} (hp:p≠ []) (h:Ae V w tk v fp) (ha:At p (.sl tk.rows) d1) (h':Own (tk.vw V) w' (Ab.put p (.sl tk.rows) d) v fp') (k:Nat):Ae V w' ⟨putR p tk.rows d,tk.sz,k,tk.z⟩ v fp':=by
 obtain⟨F,i,u,C,G,q,I⟩:=Tf hp ha d
 rw [F] at h'
 unfold Ae at h ⊢
 split at h
 ·grind
 ·rename_i sz hz
  simp only [hz]
  have j:u.length=sz:=by
   rcases h with ⟨h,-,-⟩|⟨g,o,c,te,cs,fps,hv,hn,hc,hb,hlen,hr,rfl⟩
   ·rw [h] at G; grind
   grind [OwnR.split]
  subst j
  rw [← I]
  exact .inr (h'.row_len q)
theorem Vo {t} {xv} {x} {cs} (hx:VSim γ.vw γ xv x) (hcs:cellsOf xv=some cs) (hlen:cs.length=tsz cx.P t) (hpos:0<tsz cx.P t) (hone:cs.all AV.one=true) (g o:Nat) (cur:Array Value) (e:TypeId) (hg:w.heap[g]? =some (.cells cur e (0,0))) (hfit:o+x.cells.toList.length≤cur.size):
  (Instr.storeAt t (.pointer (some ⟨g,o,none⟩)) x).run cx.P w= .ok () (w.setRow g (cur.toList.take o++x.cells.toList++cur.toList.drop (o+x.cells.toList.length)).toArray):=by
 have j:=Fc hx hcs
 have q:=j.length
 have:=run_storeCells_at (P:=cx.P) g o e x.cells.toList 0 cur w hg (by omega) (Tc j hone)
 have p:x.cells.size=tsz cx.P t:=by rw [← Array.length_toList]; omega
 simp_all [Instr.storeAt,Instr.sureAddr,storeVar,C7]
theorem Vp {T} {B} {t} {b off} {xv} {a x} {cs vs} (hs:OSim cx γ T B w) (ha:VSim γ.vw γ (.box b off) a) (hx:VSim γ.vw γ xv x) (hcs:cellsOf xv=some cs) (hlen:cs.length=tsz cx.P t) (hpos:0<tsz cx.P t) (hone:cs.all AV.one=true) (hB:B b=some vs) (hmp:isMp vs=false) (hle:off+cs.length≤vs.length):
  ∃w',(Instr.storeAt t a x).run cx.P w= .ok () w'∧OSim cx γ T (fun x=>if x=b then some (splice vs off cs) else B x) w':=by
 have p:=Fc hx hcs
 have F:=p.length
 simp only [VSim] at ha
 obtain⟨j,rfl⟩:=ha
 obtain⟨us,h2,q⟩:=hs.box b vs j hB
 obtain⟨v,e,h3,G⟩:=q.cells hmp
 obtain⟨u,C⟩:=hs.storeBox j hB hmp hone h2 h3 G p hle (by omega)
 grind [Vo]
theorem YI {σ:St} {t:TypeId} {av xv:AV} {a x:Value} {K:St→Prop} (hs:OSim cx γ σ.T σ.B w) (ha:VSim γ.vw γ av a) (hx:VSim γ.vw γ xv x) (h:OE cx.P t av xv σ K):
  ∃w' γ' σ',(Instr.storeAt t a x).run cx.P w= .ok () w'∧K σ'∧Out cx γ σ γ' σ' w':=by
 unfold OE at h
 split at h
 ·rename_i cs hcs
  obtain⟨hlen,hpos,hone,h⟩:=h
  have hcv:=Fc hx hcs
  have hcl:=hcv.length
  have hrun:=fun g o cur e h1 h2=>Vo (w:=w) hx hcs hlen hpos hone g o cur e h1 h2
  split at h
  ·rename_i b off
   obtain⟨vs,hB,hmp,hle,hK⟩:=h
   obtain⟨w',hr,hos⟩:=Vp hs ha hx hcs hlen hpos hone hB hmp hle
   refine⟨w',γ,_,hr,hK,Gh.Ext.refl γ,?_,rfl,fun x h=>.inl h,fun x h=>.inl h,fun x h=>h,fun x h=>?_⟩
   ·have e1:(σ.setB b (splice vs off cs)).B =fun x=>if x=b then some (splice vs off cs) else σ.B x:=funext fun x=>St.B_setB σ b _ x
    rw [e1]; exact hos
   ·show (look ((b,_)::σ.b) x).isSome =true
    rw [AJ]; grind
  ·rename_i t' sz i off
   obtain⟨tk0,hT0,h⟩:=h
   obtain⟨I,σ',Y,⟨tk,C,⟨hT,hzz⟩,hrow,hrl,hle,hK⟩,O,hov,hnd,hfr,hdl,hin⟩:=DK hs hcv h
   rw [← hzz] at hov
   have U:=O.osim hs
   simp only [VSim] at ha
   obtain⟨W,g,o,n,c,htv,rfl⟩:=ha
   have hi:=BU hrow
   have hTk:=U.tok t' tk W hT
   have hkill:=StLe.killT σ' t'
   have hs0:=hkill.osim U
   have hfk:=Gr U W hT
   have hndt:=U.tnd t' tk W hT
   obtain⟨u,e,F,fps,hnl,k1,k2,hb,k3,hr,hfp,hback⟩:=hTk.block htv (fun h0=>by rw [h0] at hi; grind)
   subst hnl
   obtain⟨f1,f2,f3,rfl,hl,hc,hput⟩:=hr.split i hi
   have hrow':tk.rows[i] =C:=by rw [List.getElem?_eq_getElem hi] at hrow; grind
   rw [hrow'] at hl hc
   have hsz:u=sz:=by omega
   subst hsz
   have hdl':I.length=x.cells.toList.length:=by omega
   have hrow3:C=C.take off++((C.drop off).take I.length++C.drop (off+I.length)):=by
    rw [← List.drop_drop,List.take_append_drop,List.take_append_drop]
   rw [hrow3] at hc
   obtain⟨fa,fm',hca,hcm,rfl⟩:=OwnC.of_append.1 hc
   obtain⟨fm,fz,hcm2,hcz,rfl⟩:=OwnC.of_append.1 hcm
   have hta:(C.take off).length =off:=by rw [List.length_take]; omega
   have htm:((C.drop off).take I.length).length =I.length:=by rw [List.length_take,List.length_drop]; omega
   rw [hta] at hcm2 hcz
   rw [htm] at hcz
   have hspl:splice C off I=C.take off++(I++C.drop (off+I.length)):=EI _ _ _ (by omega)
   have hmul:(i+1)*u≤tk.rows.length*u:=Nat.mul_le_mul_right _ hi
   have hmul2:tk.rows.length*u≤c*u:=Nat.mul_le_mul_right _ k1
   have hmul3:(i+1)*u=i*u+u:=by rw [Nat.add_mul]; omega
   have hfit:o+i*u+off+x.cells.toList.length≤F.toArray.size:=by rw [List.size_toArray]; omega
   have hbl:w.heap[g]? =some (.cells F.toArray e (0,0)):=hb
   have hsize:(F.toArray.toList.take (o+i*u+off)++x.cells.toList++F.toArray.toList.drop (o+i*u+off+x.cells.toList.length)).toArray.size =F.toArray.size:=by
    simp at hfit ⊢; omega
   have hch:=Chg.setRow (cs:=(F.toArray.toList.take (o+i*u+off)++x.cells.toList++F.toArray.toList.drop (o+i*u+off+x.cells.toList.length)).toArray) hbl hsize
   have hnew:=setRow_heap w g F.toArray (F.toArray.toList.take (o+i*u+off)++x.cells.toList++F.toArray.toList.drop (o+i*u+off+x.cells.toList.length)).toArray e (0,0) hbl
   have hR:=hrun g (o+i*u+off) F.toArray e hbl hfit
   have G:∀j,(F.take (o+i*u+off)++x.cells.toList++F.drop (o+i*u+off+x.cells.toList.length))[j]? =if j<o+i*u+off then F[j]? else if j<o+i*u+off+x.cells.toList.length then x.cells.toList[j - (o+i*u+off)]? else F[j]? :=fun j=>Iq (by omega) j
   have J:∀k,k≠g→(w.setRow g (F.toArray.toList.take (o+i*u+off)++x.cells.toList++F.toArray.toList.drop (o+i*u+off+x.cells.toList.length)).toArray).heap[k]? =w.heap[k]? :=fun k hk=>setRow_other w g k _ hk
   have hl2:(F.take (o+i*u+off)++x.cells.toList++F.drop (o+i*u+off+x.cells.toList.length)).length =F.length:=by
    omega
   simp only [List.toList_toArray] at hR hch hnew J
   generalize (F.take (o+i*u+off)++x.cells.toList++F.drop (o+i*u+off+x.cells.toList.length))=cs2 at*
   rw [hfp] at hndt
   obtain⟨hgn,hndf⟩:=List.nodup_cons.1 hndt
   have hgd:g ∉ Y:=fun hm=>by
    have:=(hfr g hm).t t' tk W hT
    rw [hfp] at this
    grind
   have hne:∀k ∈ f1++((fa++(fm++fz))++f3),(w.setRow g cs2.toArray).heap[k]? =w.heap[k]? :=fun k hk=>J k fun e=>hgn (e ▸ hk)
   have hrow2:OwnC (tk.vw γ.vw) (w.setRow g cs2.toArray) cs2 (o+i*u) (splice C off I) (fa++(Y++fz)):=by
    rw [hspl]
    refine OwnC.of_append.2 ⟨fa,Y++fz,?_,OwnC.of_append.2 ⟨Y,fz,?_,?_,rfl⟩,rfl⟩
    ·refine(OwnC.keep hca fun k hk=>hne k (by grind)).cells fun j j1 j2=>?_
     rw [hta] at j2
     rw [G,if_pos (by omega)]
    ·rw [hta]
     refine DR.cells (DR.keep hov fun k hk=>J k fun e=>hgd (e ▸ hk)) fun j hj=>?_
     rw [G,if_neg (by omega),if_pos (by omega)]
     congr 1; omega
    ·rw [hta]
     refine(OwnC.keep hcz fun k hk=>hne k (by simp [hk])).cells fun j j1 j2=>?_
     rw [G,if_neg (by omega),if_neg (by omega)]
   have hrows:=hput (w.setRow g cs2.toArray) cs2 (splice C off I) (fa++(Y++fz)) (by rw [hspl]; grind) (fun k hk=>hne k (by simp only [List.mem_append] at hk ⊢; rcases hk with hk|hk <;> simp [hk])) (fun j hj=>by
    rcases hj with hj|hj
    ·rw [G,if_pos (by omega)]
    ·rw [G,if_neg (by omega),if_neg (by omega)]) hrow2
   have htok:=hback (w.setRow g cs2.toArray) cs2 (tk.rows.set i (splice C off I)) _ (by simp) hnew hl2 hrows (if EH C off I=true then tk.gen else tk.gen+1)
   have hs1:=hs0.change hch fun k hk=>by rw [hk]; grind
   have hfold:∀k ∈ f1++((fa++(fm++fz))++f3),k ∉ Y:=fun k hk hm=>by
    have:=(hfr k hm).t t' tk W hT
    rw [hfp] at this
    grind
   have hhd:=U.hds t' tk W hT
   have hkeep:EH C off I=true→∀q r,At q (.sl (tk.rows.set i (splice C off I))) r→isSl r→hdr (w.setRow g cs2.toArray) (γ.tv t') q=γ.hv t' tk.gen q:=fun hfl q r hq hsl=>by
    obtain⟨r',hr',hsr⟩:=At.flatRow hrow (by omega) hspl hfl hq hsl
    rw [← hhd.2.2 q r' hr' hsr]
    refine PC (U.tok t' tk W hT).own hr' hsr fun b hbm oo a n c hcell=>?_
    by_cases hbg:b=g
    ·subst hbg
     rw [hb.cell] at hcell
     have hnb:Blk (w.setRow b cs2.toArray) b e cs2:=hnew
     rw [hnb.cell,G]
     by_cases h5:oo<o+i*u+off
     ·rw [if_pos h5]; omega
     ·rw [if_neg h5]
      by_cases h6:oo<o+i*u+off+x.cells.toList.length
      ·exfalso
       simp only [EH,Bool.and_eq_true] at hfl
       refine Qm hcm2 hfl.2 (oo - (o+i*u+off)) (by rw [htm]; omega) a n c ?_
       rw [show o+i*u+off+(oo - (o+i*u+off))=oo from by omega]
       omega
      grind
    grind [World.cell?]
   have hg1:γ.tl t'→∀k,γ.gl t' k→k≤(if EH C off I=true then tk.gen else tk.gen+1):=fun _ k hk=>by
    have:=hhd.2.1 k hk
    split <;> omega
   have hg2:γ.tl t'→γ.gl t' (if EH C off I=true then tk.gen else tk.gen+1)→∀q r,At q (.sl (tk.rows.set i (splice C off I))) r→isSl r→hdr (w.setRow g cs2.toArray) (γ.tv t') q=γ.hv t' (if EH C off I=true then tk.gen else tk.gen+1) q:=fun _ hgl q r hq hsl=>by
    by_cases hfl:EH C off I=true
    ·rw [if_pos hfl]; grind
    ·rw [if_neg hfl] at hgl
     have:=hhd.2.1 _ hgl
     omega
   have hfin:=hs1.putTok (t:=t') (tk:=⟨tk.rows.set i (splice C off I),tk.sz,(if EH C off I=true then tk.gen else tk.gen+1),tk.z⟩) (v:=γ.tv t') (fp:=g::(f1++((fa++(Y++fz))++f3))) (by rw [St.T_killT,if_pos rfl]) (fun _=>rfl) htok ?_ ?_ hg1 hg2
   ·refine⟨_,γ.tok (w.setRow g cs2.toArray) t' (γ.tv t') (g::(f1++((fa++(Y++fz))++f3))) (if EH C off I=true then tk.gen else tk.gen+1),σ'.setT t' ⟨tk.rows.set i (splice C off I),tk.sz,(if EH C off I=true then tk.gen else tk.gen+1),tk.z⟩,hR,hK,Gh.tok_ext fun _=>rfl,?_,O.s,fun y hy=>?_,fun y hy=>.inl hy,fun y hy=>?_,fun y hy=>by show (look σ'.b y).isSome =true; exact O.b y hy⟩
    ·have e1:(σ'.setT t' ⟨tk.rows.set i (splice C off I),tk.sz,(if EH C off I=true then tk.gen else tk.gen+1),tk.z⟩).T =fun x=>if x=t' then some ⟨tk.rows.set i (splice C off I),tk.sz,(if EH C off I=true then tk.gen else tk.gen+1),tk.z⟩ else (σ'.killT t').T x:=funext fun x=>by
      rw [St.T_setT]
      by_cases hx:x=t'
      ·rw [if_pos hx,if_pos hx]
      grind [St.T_killT]
     rw [e1]; exact hfin
    ·rcases hy with hy|rfl
     ·grind
     grind
    ·show (look ((t',_)::σ'.t) y).isSome =true
     rw [AJ]; split
     ·rfl
     ·exact O.t y hy
   · -- nodup
    refine List.nodup_cons.2 ⟨fun hm=>?_,?_⟩
    ·simp only [List.mem_append] at hm
     rcases hm with hm|((hm|hm|hm)|hm)
     ·grind
     ·grind
     ·grind
     ·exact hgn (by simp [hm])
     grind
    ·have e1:f1++((fa++(fm++fz))++f3)=(f1++fa)++(fm++(fz++f3)):=by grind
     have e2:f1++((fa++(Y++fz))++f3)=(f1++fa)++(Y++(fz++f3)):=by grind
     rw [e1] at hndf hfold
     rw [e2]
     exact dS hndf hnd fun k hk=>⟨fun hm=>hfold k (by grind) hk,fun hm=>hfold k (by grind) hk⟩
   ·intro k hk
    have:k=g∨k ∈ f1++((fa++(fm++fz))++f3)∨k ∈ Y:=by
     simp only [List.mem_cons,List.mem_append] at hk ⊢
     grind
    grind [Free.of_le]
  ·rename_i t' g p sz i off
   obtain⟨I,σ',Y,⟨rows,hsub,C,hrow,⟨hp0,hrl,hle,hfl⟩,tk,hT,hK⟩,O,hov,hnd,hfr,hdl,hin⟩:=DK hs hcv h
   have U:=O.osim hs
   simp only [VSim] at ha
   obtain⟨⟨W,hgl⟩,b,o,n,c,hhv,rfl⟩:=ha
   have hi:=BU hrow
   obtain⟨tk',f1,f2,f3,hT',hg',hatR,-,htf,hown,hback⟩:=Jw U.see W hsub
   have hat:=hatR.sl (by intro e; rw [e] at hi; exact Nat.not_lt_zero _ hi)
   rw [hT] at hT'
   obtain rfl:=Option.some.inj hT'
   have hfl':=hfl
   simp only [EH,Bool.and_eq_true] at hfl'
   obtain rfl:=YH hov hfl'.1
   have hown0:=hown
   simp only [Own] at hown
   rcases hown with ⟨rfl,-,-⟩|⟨u,g',o',c',te,F,fps,hv,hn,hc,hb,hlen2,hr,hf2⟩
   ·grind
   rw [hhv] at hv
   simp only [Value.slice.injEq,Option.some.injEq,Addr.mk.injEq] at hv
   obtain⟨⟨rfl,rfl,-⟩,rfl,rfl⟩:=hv
   have hTk:=U.tok t' tk W hT
   have hkill:=StLe.killT σ' t'
   have hs0:=hkill.osim U
   have hfk:=Gr U W hT
   have hndt:=U.tnd t' tk W hT
   obtain⟨a1,a2,a3,hfps,hl,hoc,hput⟩:=hr.split i hi
   have hrow':rows[i] =C:=by rw [List.getElem?_eq_getElem hi] at hrow; grind
   rw [hrow'] at hl hoc
   have hsz:u=sz:=by omega
   subst hsz
   have hdl':I.length=x.cells.toList.length:=by omega
   have hrow3:C=C.take off++((C.drop off).take I.length++C.drop (off+I.length)):=by
    rw [← List.drop_drop,List.take_append_drop,List.take_append_drop]
   rw [hrow3] at hoc
   obtain⟨fa,fm',hca,hcm,rfl⟩:=OwnC.of_append.1 hoc
   obtain⟨fm,fz,hcm2,hcz,rfl⟩:=OwnC.of_append.1 hcm
   have hta:(C.take off).length =off:=by rw [List.length_take]; omega
   have htm:((C.drop off).take I.length).length =I.length:=by rw [List.length_take,List.length_drop]; omega
   rw [hta] at hcm2 hcz
   rw [htm] at hcz
   obtain rfl:=YG hcm2 hfl'.2
   have hspl:splice C off I=C.take off++(I++C.drop (off+I.length)):=EI _ _ _ (by omega)
   have hmul:(i+1)*u≤rows.length*u:=Nat.mul_le_mul_right _ hi
   have hmul2:rows.length*u≤c*u:=Nat.mul_le_mul_right _ hn
   have hmul3:(i+1)*u=i*u+u:=by rw [Nat.add_mul]; omega
   have hfit:o+i*u+off+x.cells.toList.length≤F.toArray.size:=by rw [List.size_toArray]; omega
   have hbl:w.heap[b]? =some (.cells F.toArray te (0,0)):=hb
   have hsize:(F.toArray.toList.take (o+i*u+off)++x.cells.toList++F.toArray.toList.drop (o+i*u+off+x.cells.toList.length)).toArray.size =F.toArray.size:=by
    simp at hfit ⊢; omega
   have hch:=Chg.setRow (cs:=(F.toArray.toList.take (o+i*u+off)++x.cells.toList++F.toArray.toList.drop (o+i*u+off+x.cells.toList.length)).toArray) hbl hsize
   have hnew:=setRow_heap w b F.toArray (F.toArray.toList.take (o+i*u+off)++x.cells.toList++F.toArray.toList.drop (o+i*u+off+x.cells.toList.length)).toArray te (0,0) hbl
   have hR:=hrun b (o+i*u+off) F.toArray te hbl hfit
   have G:∀j,(F.take (o+i*u+off)++x.cells.toList++F.drop (o+i*u+off+x.cells.toList.length))[j]? =if j<o+i*u+off then F[j]? else if j<o+i*u+off+x.cells.toList.length then x.cells.toList[j - (o+i*u+off)]? else F[j]? :=fun j=>Iq (by omega) j
   have J:∀k,k≠b→(w.setRow b (F.toArray.toList.take (o+i*u+off)++x.cells.toList++F.toArray.toList.drop (o+i*u+off+x.cells.toList.length)).toArray).heap[k]? =w.heap[k]? :=fun k hk=>setRow_other w b k _ hk
   have hl2:(F.take (o+i*u+off)++x.cells.toList++F.drop (o+i*u+off+x.cells.toList.length)).length =F.length:=by
    omega
   simp only [List.toList_toArray] at hR hch hnew J
   generalize (F.take (o+i*u+off)++x.cells.toList++F.drop (o+i*u+off+x.cells.toList.length))=cs2 at*
   rw [htf,hf2,hfps] at hndt
   have hbn:b ∉ f1∧b ∉ a1++((fa++([] ++fz))++a3)∧b ∉ f3:=by
    rw [List.nodup_append] at hndt
    obtain⟨n1,n2,n3⟩:=hndt
    rw [List.cons_append] at n2
    grind
   have hne:∀k ∈ a1++((fa++([] ++fz))++a3),(w.setRow b cs2.toArray).heap[k]? =w.heap[k]? :=fun k hk=>J k fun e=>hbn.2.1 (e ▸ hk)
   have hrow2:OwnC (tk.vw γ.vw) (w.setRow b cs2.toArray) cs2 (o+i*u) (splice C off I) (fa++([] ++fz)):=by
    rw [hspl]
    refine OwnC.of_append.2 ⟨fa,[] ++fz,?_,OwnC.of_append.2 ⟨[],fz,?_,?_,rfl⟩,rfl⟩
    ·refine(OwnC.keep hca fun k hk=>hne k (by grind)).cells fun j j1 j2=>?_
     rw [hta] at j2
     rw [G,if_pos (by omega)]
    ·rw [hta]
     refine DR.cells (DR.keep (DR.mono (pX (fun h=>by cases h)) hov) fun k hk=>by cases hk) fun j hj=>?_
     rw [G,if_neg (by omega),if_pos (by omega)]
     congr 1; omega
    ·rw [hta]
     refine(OwnC.keep hcz fun k hk=>hne k (by simp [hk])).cells fun j j1 j2=>?_
     rw [G,if_neg (by omega),if_neg (by omega)]
   have hrows:=hput (w.setRow b cs2.toArray) cs2 (splice C off I) (fa++([] ++fz)) (by rw [hspl]; grind) (fun k hk=>hne k (by simp only [List.mem_append] at hk ⊢; rcases hk with hk|hk <;> simp [hk])) (fun j hj=>by
    rcases hj with hj|hj
    ·rw [G,if_pos (by omega)]
    ·rw [G,if_neg (by omega),if_neg (by omega)]) hrow2
   have hown2:Own (tk.vw γ.vw) (w.setRow b cs2.toArray) (.sl (rows.set i (splice C off I))) (γ.hv t' g p) f2:=by
    simp only [Own]
    refine .inr ⟨u,b,o,c,te,cs2,_,by rw [List.length_set]; omega,by rw [List.length_set]; exact hn,hc,hnew,by rw [hl2]; omega,hrows,by rw [hf2,hfps]⟩
   have hputT:=hback (w.setRow b cs2.toArray) _ f2 (fun k hk=>J k fun e=>by
    rw [e] at hk
    grind) hown2
   have htok:=Ae.put hp0 hTk hat hputT tk.gen
   have hbt:b ∈ γ.tf t':=by rw [htf,hf2]; simp
   have hs1:=hs0.change hch fun k hk=>by rw [hk]; grind
   have hhd:=U.hds t' tk W hT
   have hinv:∀q r,At q (.sl (putR p tk.rows (.sl (rows.set i (splice C off I))))) r→isSl r→∃r',At q (.sl tk.rows) r'∧isSl r':=fun q r hq hsl=>by
    rw [← (Tf hp0 hat _).1] at hq
    rcases At.put_inv hat hq hsl with h|⟨q2,rfl,h⟩
    ·exact h
    ·obtain⟨r',hr',hsr⟩:=At.flatRow hrow (by omega) hspl hfl h hsl
     exact⟨r',hat.trans hr',hsr⟩
   have hkeep:∀q r,At q (.sl (putR p tk.rows (.sl (rows.set i (splice C off I))))) r→isSl r→hdr (w.setRow b cs2.toArray) (γ.tv t') q=γ.hv t' tk.gen q:=fun q r hq hsl=>by
    obtain⟨r',hr',hsr⟩:=hinv q r hq hsl
    rw [← hhd.2.2 q r' hr' hsr]
    refine PC hTk.own hr' hsr fun b' hbm oo a n c hcell=>?_
    by_cases hbg:b'=b
    ·subst hbg
     rw [hb.cell] at hcell
     have hnb:Blk (w.setRow b' cs2.toArray) b' te cs2:=hnew
     rw [hnb.cell,G]
     by_cases h5:oo<o+i*u+off
     ·rw [if_pos h5]; omega
     ·rw [if_neg h5]
      by_cases h6:oo<o+i*u+off+x.cells.toList.length
      ·exfalso
       refine Qm hcm2 hfl'.2 (oo - (o+i*u+off)) (by rw [htm]; omega) a n c ?_
       rw [show o+i*u+off+(oo - (o+i*u+off))=oo from by omega]
       omega
      grind
    grind [World.cell?]
   have hfin:=hs1.putTok (t:=t') (tk:=⟨putR p tk.rows (.sl (rows.set i (splice C off I))),tk.sz,tk.gen,tk.z⟩) (v:=γ.tv t') (fp:=f1++(f2++f3)) (by rw [St.T_killT,if_pos rfl]) (fun _=>rfl) htok (by rw [← htf]; grind) (fun k hk=>hfk k (by rw [htf]; exact hk)) (fun _ k hk=>hhd.2.1 k hk) (fun _ _ q r hq hsl=>hkeep q r hq hsl)
   refine⟨_,γ.tok (w.setRow b cs2.toArray) t' (γ.tv t') (f1++(f2++f3)) tk.gen,σ'.setT t' ⟨putR p tk.rows (.sl (rows.set i (splice C off I))),tk.sz,tk.gen,tk.z⟩,hR,hK,Gh.tok_ext fun _=>rfl,?_,O.s,fun y hy=>?_,fun y hy=>.inl hy,fun y hy=>?_,fun y hy=>by show (look σ'.b y).isSome =true; exact O.b y hy⟩
   ·have e1:(σ'.setT t' ⟨putR p tk.rows (.sl (rows.set i (splice C off I))),tk.sz,tk.gen,tk.z⟩).T =fun x=>if x=t' then some ⟨putR p tk.rows (.sl (rows.set i (splice C off I))),tk.sz,tk.gen,tk.z⟩ else (σ'.killT t').T x:=funext fun x=>by
     rw [St.T_setT]
     by_cases hx:x=t'
     ·rw [if_pos hx,if_pos hx]
     grind [St.T_killT]
    rw [e1]; exact hfin
   ·rcases hy with hy|rfl
    ·grind
    grind
   ·show (look ((t',_)::σ'.t) y).isSome =true
    rw [AJ]; split
    ·rfl
    ·exact O.t y hy
  grind
 grind
end
end Go.Proofs.YthenkmapmnkelaaGreatDoor.Ab
