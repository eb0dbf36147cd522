/-
  The abstract walk, eleventh part: stores.
-/
import Derived.Test.YtoncbhomocgmcaaGreatDoorAbI
namespace Go.Proofs.YtoncbhomocgmcaaGreatDoor.Ab
set_option linter.unusedVariables false
set_option maxHeartbeats 1000000
set_option linter.unusedSimpArgs false
open Go.RowKit Go.ChangeMaps
theorem LZ {V w} {cs}:∀ {ds} {o} {f},OwnC V w cs o ds f→ds.all D.flat=true→∀j,j<ds.length→∀ (a:Option Addr) (n c:Nat),cs[o+j]? ≠some (.slice a n c)
 | [],o,f,_,_,j,hj,a,n,c=>by grind
 | d::ds,o,f,h,hf,j,hj,a,n,c=>by
  simp only [OwnC] at h
  obtain⟨u,f1,f2,hu,ho,hc,-⟩:=h
  simp only [List.all_cons,Bool.and_eq_true] at hf
  cases j with
  |zero=>
   rw [Nat.add_zero,hu]
   intro e
   obtain rfl:=Option.some.inj e
   cases d <;> simp only [Own,D.flat] at ho hf
   ·cases ho.1
   ·cases ho.1
   ·cases ho.1
   ·cases hf.1
   ·cases hf.1
   ·cases hf.1
   ·cases hf.1
   ·cases ho.1
   ·cases hf.1
  |succ j=>
   rw [show o+(j+1)=o+1+j from by omega]
   exact LZ hc hf.2 j (by simpa using hj) a n c
theorem At.flat_end {q} {d d1} (h:At q d d1) (hs:isSl d1):d.flat=false:=by
 cases q with
 |nil=>simp only [At] at h; subst h; rcases hs.cases with ⟨r,rfl⟩|rfl <;> rfl
 |cons s q=>obtain⟨_,_,_⟩:=s; cases d <;> simp only [At] at h; rfl
theorem At.flatRow {rows} {i off} {row ds} {q} {d2} (hr:rows[i]? =some row) (hle:off+ds.length≤row.length) (hspl:splice row off ds=row.take off++(ds++row.drop (off+ds.length)))
  (hf:Cg row off ds=true) (h:At q (.sl (rows.set i (splice row off ds))) d2) (hs:isSl d2):∃d2',At q (.sl rows) d2'∧isSl d2':=by
 cases q with
 |nil=>exact⟨_,rfl,M5⟩
 | cons s q=>
  obtain⟨sz,i',j⟩:=s
  simp only [At] at h
  obtain⟨row',d1,h1,h2,h3,h4⟩:=h
  by_cases hi:i=i'
  ·subst hi
   rw [List.getElem?_set_self (Au hr)] at h1
   obtain rfl:=Option.some.inj h1
   have hlen:(splice row off ds).length =row.length:=by rw [hspl]; grind
   have hj:row[j]? =some d1:=by
    rw [hspl] at h3
    have hta:(row.take off).length =off:=by rw [List.length_take]; omega
    by_cases h5:j<off
    ·rw [List.getElem?_append_left (by omega),List.getElem?_take_of_lt h5] at h3
     exact h3
    ·rw [List.getElem?_append_right (by omega),hta] at h3
     by_cases h6:j - off<ds.length
     ·rw [List.getElem?_append_left h6] at h3
      simp only [Cg,Bool.and_eq_true,List.all_eq_true] at hf
      have:=hf.1 d1 (List.mem_of_getElem? h3)
      rw [h4.flat_end hs] at this
      grind
     grind
   exact⟨d2,⟨row,d1,hr,by omega,hj,h4⟩,hs⟩
  ·rw [List.getElem?_set_ne hi] at h1
   exact⟨d2,⟨row',d1,h1,h2,h3,h4⟩,hs⟩
structure Out (cx:Cx) (γ:Gh) (σ:St) (γ':Gh) (σ':St) (w':World):Prop where
 ext:Gh.Ext γ γ'
 os:OSim cx γ' σ'.T σ'.B w'
 s:σ'.s=σ.s
 td:∀x,γ'.tl x→γ.tl x∨(look σ'.t x).isSome =true
 bd:∀x,γ'.bl x→γ.bl x∨(look σ'.b x).isSome =true
 tm:∀x,(look σ.t x).isSome =true→(look σ'.t x).isSome =true
 bm:∀x,(look σ.b x).isSome =true→(look σ'.b x).isSome =true
theorem VL {a m b c:List Nat} (h:(a++(m++b)).Nodup) (hc:c.Nodup) (hd:∀k ∈ c,k ∉ a∧k ∉ b):(a++(c++b)).Nodup :=by
 grind
theorem Fc {α:Type} {cs news:List α} {p:Nat} (h:p+news.length≤cs.length) (j:Nat):
  (cs.take p++news++cs.drop (p+news.length))[j]? =if j<p then cs[j]? else if j<p+news.length then news[j - p]? else cs[j]? :=by
 have hp:(cs.take p).length =p:=by rw [List.length_take]; omega
 rw [List.append_assoc,List.getElem?_append]
 rw [hp]
 grind
section
variable {cx:Cx} {γ:Gh} {w:World}
theorem OSim.putBox {T} {B} (hs:OSim cx γ T B w) {w'} {b} {vs vs'} {us'} (hbl:γ.bl b) (hB:B b=some vs) (hlt:γ.bb b<w.heap.size)
  (hch:Chg w w' (· =γ.bb b)) (hl:∀x ∈ cx.L,x.1 =γ.bb b→x.2.1 =γ.bo b→x.2.2 =vs.length→En cx.we w x→En cx.we w' x)
  (hv':AD γ.vw γ vs' us') (hbx:Di w' vs' (γ.bb b) (γ.bo b) us') (hlen:vs'.length=vs.length):OSim cx γ T (fun x=>if x=b then some vs' else B x) w':=by
 have hother:∀k,k<w.heap.size→k≠γ.bb b→w'.heap[k]? =w.heap[k]? :=fun k h1 h2=>hch.block k h1 h2
 have hb:=hs.bfr b vs hbl hB
 have hkt:∀t tk,γ.tl t→T t=some tk→∀g ∈ γ.tf t,w'.heap[g]? =w.heap[g]? :=fun t tk h1 h2 g hg=>hother g ((hs.tok t tk h1 h2).lt g hg) fun e=>hs.btd b t vs tk hbl h1 hB h2 (e ▸ hg)
 refine⟨⟨?_,hch.os.trans hs.frm.os,hch.tape.trans hs.frm.tape,hch.output.trans hs.frm.output,Nat.le_trans hs.frm.size hch.size,fun k hk h1 h2=>?_,fun x hx=>?_⟩,fun t tk h1 h2=>?_,hs.tnd,hs.tds,fun b' ws h1 h2=>?_,fun b1 b2 v1 v2 hne h1 h2 h3 h4=>?_,fun b' t ws tk h1 h2 h3 h4=>?_,hs.tfr,fun b' ws h1 h2=>?_,fun t tk h1 h2=>(hs.hds t tk h1 h2).keep (hs.tok t tk h1 h2).own (hkt t tk h1 h2),hs.beg,⟨hs.vw.k.on fun a u hu=>?_,hs.vw.t,fun b' ws h1 h2=>?_,hs.vw.f⟩⟩
 ·refine MD hs.frm.sh (fun i hi hi'=>hother i hi' fun e=>?_) hch.shape
  subst e
  rcases hb with h|⟨-,x,hx,h,-⟩
  ·have:=cx.lowe; omega
  ·have:=cx.low (γ.bb b) (.inr ⟨x,hx,h⟩); omega
 ·rw [hother k (Nat.lt_of_lt_of_le hk hs.frm.size) fun e=>?_]
  ·exact hs.frm.block k hk h1 h2
  grind
 ·have hlo:=hs.frm.lent x hx
  by_cases hxb:x.1 =γ.bb b
  ·rcases hb with h|⟨hp,y,hy,h5,h6,h7,h8⟩
   ·have:=hlo.lt0; omega
   grind
  ·exact hlo.keep (hother _ hlo.lt hxb)
 ·exact(hs.tok t tk h1 h2).keep (hkt t tk h1 h2)
 ·by_cases hx:b'=b
  ·grind
  ·simp only [if_neg hx] at h2
   obtain⟨us1,h3,h4⟩:=hs.box b' ws h1 h2
   exact⟨us1,h3,h4.keep (hother _ h4.lt (hs.bds b' b ws vs hx h1 hbl h2 hB))⟩
 ·have hB':∀x v,(if x=b then some vs' else B x)=some v→∃v',B x=some v':=fun x v hx=>by
   grind
  obtain⟨v1',h3'⟩:=hB' b1 v1 h3
  obtain⟨v2',h4'⟩:=hB' b2 v2 h4
  exact hs.bds b1 b2 v1' v2' hne h1 h2 h3' h4'
 ·by_cases hx:b'=b
  ·subst hx; exact hs.btd b' t vs tk h1 h2 hB h4
  ·simp only [if_neg hx] at h3; exact hs.btd b' t ws tk h1 h2 h3 h4
 ·by_cases hx:b'=b
  ·grind
  ·simp only [if_neg hx] at h2; exact hs.bfr b' ws h1 h2
 ·have h1:=hs.vw.k a u hu
  have hlt:=World.block_lt_of_cell? w a h1
  have hbk:=hother a.block hlt fun e=>by
   rw [Gs hu,e,hs.vw.b b vs hbl hB] at hu; cases hu
  exact hbk
 ·by_cases hx:b'=b
  ·subst hx; exact hs.vw.b b' vs hbl hB
  ·simp only [if_neg hx] at h2; exact hs.vw.b b' ws h1 h2
theorem VM {vs} (h:vs.all AV.one=true):isMp vs=false:=by
 cases vs with
 |nil=>rfl
 | cons a l=>cases l with
  |nil=>
   simp only [List.all_cons,Bool.and_eq_true] at h
   cases a <;> first|rfl|(simp [AV.one] at h)
  |cons b l=>rfl
theorem Ra {vs cs} {off} (hm:isMp vs=false) (hc:cs.all AV.one=true) (hle:off+cs.length≤vs.length):isMp (splice vs off cs)=false:=by
 by_cases hl:vs.length=1
 ·obtain⟨a,rfl⟩:∃a,vs=[a] :=by cases vs with
   |nil=>grind
   |cons a l=>grind
  cases cs with
  |nil=>exact hm
  |cons c cs=>
   simp only [List.length_cons,List.length_nil] at hle
   have h0:off=0:=by omega
   have hn:cs=[] :=List.eq_nil_of_length_eq_zero (by omega)
   subst h0 hn
   simp only [List.all_cons,Bool.and_eq_true] at hc
   show isMp [c] =false
   cases c <;> first|rfl|(simp [AV.one] at hc)
 grind [RD,Ch]
theorem OSim.storeBox {T:Nat→Option Tok} {B:Nat→Option (List AV)} (hs:OSim cx γ T B w) {b:Nat} {vs cs:List AV} {us news:List Value} {off:Nat} {cur:Array Value} {e:TypeId} (hbl:γ.bl b) (hB:B b=some vs) (hm:isMp vs=false) (hone:cs.all AV.one=true)
  (hv:AD γ.vw γ vs us) (hg:w.heap[γ.bb b]? =some (.cells cur e (0,0))) (hc:∀j,j<us.length→cur[γ.bo b+j]? =us[j]?) (hn:AD γ.vw γ cs news) (hle:off+cs.length≤vs.length) (h0:0<cs.length):
  γ.bo b+off+news.length≤cur.toList.length∧
  OSim cx γ T (fun x=>if x=b then some (splice vs off cs) else B x) (w.setRow (γ.bb b) (cur.toList.take (γ.bo b+off)++news++cur.toList.drop (γ.bo b+off+news.length)).toArray):=by
 have hul:=hv.length
 have hnl:=hn.length
 have hlt:=lt_of_block hg
 have hfit:γ.bo b+off+news.length≤cur.toList.length:=by
  have h1:=hc (us.length - 1) (by omega)
  rw [List.getElem?_eq_getElem (show us.length - 1<us.length by omega)] at h1
  grind
 refine⟨hfit,?_⟩
 have hsize:(cur.toList.take (γ.bo b+off)++news++cur.toList.drop (γ.bo b+off+news.length)).toArray.size =cur.size:=by
  grind
 have hch:=Chg.setRow (w:=w) (g:=γ.bb b) (cs:=(cur.toList.take (γ.bo b+off)++news++cur.toList.drop (γ.bo b+off+news.length)).toArray) hg hsize
 have hnew:=setRow_heap w (γ.bb b) cur (cur.toList.take (γ.bo b+off)++news++cur.toList.drop (γ.bo b+off+news.length)).toArray e (0,0) hg
 have hrow:∀j,(cur.toList.take (γ.bo b+off)++news++cur.toList.drop (γ.bo b+off+news.length)).toArray[j]? =if j<γ.bo b+off then cur[j]? else if j<γ.bo b+off+news.length then news[j - (γ.bo b+off)]? else cur[j]? :=fun j=>by
  rw [List.getElem?_toArray,Fc hfit j,Array.getElem?_toList]
 generalize (cur.toList.take (γ.bo b+off)++news++cur.toList.drop (γ.bo b+off+news.length)).toArray =row at*
 refine hs.putBox hbl hB hlt hch (fun x hx hxb h6 h7 hlo=>?_) (us':=splice us off news) ?_ (Di.of ⟨row,e,hnew,fun j hj=>?_⟩ (Ra hm hone hle)) (by rw [Ch _ _ _ hle]; grind)
 ·rcases hlo with ⟨c1,c2,e',h1,h2,h3,h4⟩|⟨es,k,es',k',h1,h2⟩
  ·rw [hxb] at h2 h1
   rw [hg] at h2
   simp only [Option.some.injEq,Obj.cells.injEq,and_true] at h2
   obtain⟨rfl,rfl⟩:=h2
   refine .inl ?_
   rw [hxb]
   grind
  grind
 ·rw [Ch _ _ _ hle,Ch _ _ _ (by omega)]
  have ht:AD γ.vw γ (vs.take off) (us.take off):=by simpa [Db] using hv.take_drop 0 off
  have hd:AD γ.vw γ (vs.drop (off+cs.length)) (us.drop (off+news.length)):=by
   rw [hnl]
   have h6:=hv.take_drop (off+cs.length) (vs.length - (off+cs.length))
   grind [Db,List.length_drop]
  exact ht.append (hn.append hd)
 grind [Ch,Fc]
theorem PW {σ} {t} {mv iv xv} {m i x} {K} (hs:OSim cx γ σ.T σ.B w) (hm:VSim γ.vw γ mv m) (hi:VSim γ.vw γ iv i) (hx:VSim γ.vw γ xv x) (h:QD cx.P t mv iv xv σ K):
  ∃w' γ' σ',(Instr.mapUpdate t m i x).run cx.P w= .ok () w'∧K σ'∧Out cx γ σ γ' σ' w':=by
 unfold QD at h
 split at h
 ·rename_i kt et b hu
  obtain⟨q,rows,hB,hlen,hq,k,hkd,hkb,d,hd,hK⟩:=h
  simp only [VSim] at hm
  obtain⟨hbl,rfl⟩:=hm
  obtain⟨es,c,h3,h4,h5,hstp⟩:=QH hs hbl hB
  have hkv:=Nh hi hkd
  have hkk:=Wg hkb
  have hck:=fun e=>PR (P:=cx.P) (w:=w) hq hkk hkv e
  have hfd:D0 d x:=by
   cases xv <;> simp only [HO,Option.map_some,Option.some.injEq,List.cons.injEq,and_true] at hd <;> try (cases hd; done)
   all_goals subst hd; simpa only [VSim,D0] using hx
  have hent:PB q [k,d] (i,x):=⟨hkk,hkv,hfd⟩
  have hbo:γ.bo b=0:=by
   obtain⟨us,-,h6⟩:=hs.box b _ hbl hB
   exact(h6.map rfl).1
  have hlt:γ.bb b<w.heap.size:=(Array.getElem?_eq_some_iff.1 h3).1
  have fin:∀ (es':Array MapEntry) (c':Nat),(Instr.mapUpdate t (.map (some (γ.bb b))) i x).run cx.P w= .ok () (setBlock w (γ.bb b) (.map es' c'))→A0 q (mput k d rows) (Fq es')→MapKept.Stamped es' c'→
    ∃w' γ' σ',(Instr.mapUpdate t (.map (some (γ.bb b))) i x).run cx.P w= .ok () w'∧K σ'∧Out cx γ σ γ' σ' w':=fun es' c' hrun hents hst'=>by
   have hnew:(setBlock w (γ.bb b) (.map es' c')).heap[γ.bb b]? =some (.map es' c'):=heap_setBlock_same h3 _
   have hoth:∀j,j≠γ.bb b→(setBlock w (γ.bb b) (.map es' c')).heap[j]? =w.heap[j]? :=fun j hj=>heap_setBlock_other h3 _ hj
   have hch:Chg w (setBlock w (γ.bb b) (.map es' c')) (· =γ.bb b):=⟨rfl,rfl,rfl,by simp [setBlock],fun j _ hj=>hoth j hj,fun g y hg=>by
    grind [World.shape?]⟩
   have hmlen:(mput k d rows).length ≤68719476736:=by
    rw [I2 k d h4]
    grind
   have hos:=hs.putBox hbl hB hlt hch (fun y hy hyb _ _ hlo=>by
     rcases hlo with ⟨c1,c2,e',h1,h2,-⟩|⟨e1,k1,e2,k2,h1,h2⟩
     ·rw [hyb,h3] at h2; cases h2
     ·exact .inr ⟨e1,k1,es',c',h1,by rw [hyb]; omega⟩) (vs':=[.mpc q (mput k d rows)]) (us':=[ND (Fq es')])
    (by grind [AD,VSim]) (by rw [hbo]; exact Di.ofM ⟨es',c',hnew,rfl,hst'⟩ rfl) rfl
   refine⟨_,γ,_,hrun,hK,Gh.Ext.refl γ,?_,rfl,fun x h=>.inl h,fun x h=>.inl h,fun x h=>h,fun y hy=>?_⟩
   ·have e1:(σ.setB b [.mpc q (mput k d rows)]).B =fun y=>if y=b then some [.mpc q (mput k d rows)] else σ.B y:=funext fun y=>St.B_setB σ b _ y
    rw [e1]; exact hos
   ·show (look ((b,_)::σ.b) y).isSome =true
    rw [AF]; grind
  rcases key_find (P:=cx.P) (w:=w) hq hkk hkv h4 with ⟨k1,k2,hf⟩|⟨j,e,d0,k1,k2,hf,k4,k5,k6⟩
  ·refine fin (es.push {key:=i,val:=x,born:=c}) (c+1) (by simp [Instr.mapUpdate,run_underlying (Jm hu),MapKept.run_getObj_map h3,hck,hf,MapKept.run_setObj_map _ h3,setBlock]) ?_ (MapKept.stamped_push hstp (PT hkk hkv h4 k1))
   rw [I2 k d h4,k1]
   have:Fq (es.push {key:=i,val:=x,born:=c})=Fq es++[(i,x)] :=by simp [Fq]
   rw [this]
   grind [A0.snoc]
  ·have hej:es[j]? =some e:=by rw [← Array.getElem?_toList]; exact k4
   have hst:=VH (P:=cx.P) (w:=w) hkk hkv
   refine fin (es.modify j fun e=> {e with key:=i,val:=x}) c (by simp [Instr.mapUpdate,run_underlying (Jm hu),MapKept.run_getObj_map h3,hck,hf,hej,k5,hst,MapKept.run_setObj_map _ h3,setBlock]) ?_ (MapKept.stamped_modify hstp _ _ (fun _ _=>rfl) fun e' _ he'=>by rw [hej] at he'; cases he'; exact k5.symm)
   rw [I2 k d h4,k1]
   have:Fq (es.modify j fun e=> {e with key:=i,val:=x})=(Fq es).set j (i,x):=by
    unfold Fq
    rw [Array.toList_modify,modify_eq_set _ _ _ _ k4,List.map_set]
   rw [this]
   grind [A0.set]
 grind
theorem US {V w} {d} {v} {f} (h:Own V w d v f) (hf:d.flat=true):f=[] :=by
 cases d <;> simp only [Own,D.flat] at h hf
 ·grind
 ·grind
 ·grind
 ·cases hf
 ·cases hf
 ·cases hf
 ·cases hf
 ·grind
 ·cases hf
theorem Rb {V w} {cs}:∀ {ds} {o} {f},OwnC V w cs o ds f→ds.all D.flat=true→f=[]
 | [],o,f,h,_=>by grind [OwnC]
 |d::ds,o,f,h,hf=>by
  simp only [OwnC] at h
  obtain⟨u,f1,f2,-,h1,h2,rfl⟩:=h
  simp only [List.all_cons,Bool.and_eq_true] at hf
  rw [US h1 hf.1,Rb h2 hf.2]; rfl
theorem Rc {V w}:∀ {ds} {us} {f},CA V w ds us f→ds.all D.flat=true→f=[]
 | [],us,f,h,_=>by grind [CA]
 |d::ds,us,f,h,hf=>by
  simp only [CA] at h
  obtain⟨u,us',f1,f2,-,h1,h2,rfl⟩:=h
  simp only [List.all_cons,Bool.and_eq_true] at hf
  rw [US h1 hf.1,Rc h2 hf.2]; rfl
theorem Nm {p} (hp:p≠ []) {rows} {d1} (h:At p (.sl rows) d1) (d:D):Ab.put p (.sl rows) d= .sl (putR p rows d)∧∃ (i:Nat) (row row':List D),rows[i]? =some row∧(putR p rows d)[i]? =some row'∧row'.length=row.length:=by
 cases p with
 |nil=>grind
 | cons s p=>
  obtain⟨sz,i,j⟩:=s
  simp only [At] at h
  obtain⟨row,e,h1,h2,h3,h4⟩:=h
  have hput:Ab.put ((sz,i,j)::p) (.sl rows) d= .sl (rows.set i (row.set j (Ab.put p e d))):=by
   rw [Ab.put,h1]; simp only; rw [h3]
  have e2:putR ((sz,i,j)::p) rows d=rows.set i (row.set j (Ab.put p e d)):=by unfold putR; rw [hput]
  refine⟨by rw [e2]; omega,i,row,row.set j (Ab.put p e d),h1,?_,by simp⟩
  rw [e2,List.getElem?_set_self (Au h1)]
theorem AX.put {V w w'} {tk} {v} {fp fp'} {p} {d1 d} (hp:p≠ []) (h:AX V w tk v fp) (ha:At p (.sl tk.rows) d1) (h':Own (tk.vw V) w' (Ab.put p (.sl tk.rows) d) v fp') (k:Nat):AX V w' ⟨putR p tk.rows d,tk.sz,k,tk.z⟩ v fp':=by
 obtain⟨e1,i,row,row',hi,hi',hl⟩:=Nm hp ha d
 rw [e1] at h'
 unfold AX at h ⊢
 split at h
 ·grind
 ·rename_i sz hz
  simp only [hz]
  have hsz:row.length=sz:=by
   rcases h with ⟨h,-,-⟩|⟨g,o,c,te,cs,fps,hv,hn,hc,hb,hlen,hr,rfl⟩
   ·rw [h] at hi; grind
   grind [OwnR.split]
  subst hsz
  rw [← hl]
  exact .inr (h'.row_len hi')
theorem PX {t} {xv} {x} {cs} (hx:VSim γ.vw γ xv x) (hcs:cellsOf xv=some cs) (hlen:cs.length=tsz cx.P t) (hpos:0<tsz cx.P t) (hone:cs.all AV.one=true) (g o:Nat) (cur:Array Value) (e:TypeId) (hg:w.heap[g]? =some (.cells cur e (0,0))) (hfit:o+x.cells.toList.length≤cur.size):
  (Instr.storeAt t (.pointer (some ⟨g,o,none⟩)) x).run cx.P w= .ok () (w.setRow g (cur.toList.take o++x.cells.toList++cur.toList.drop (o+x.cells.toList.length)).toArray):=by
 have hcv:=DZ hx hcs
 have hcl:=hcv.length
 have:=run_storeCells_at (P:=cx.P) g o e x.cells.toList 0 cur w hg (by omega) (Nj hcv hone)
 have hsz:x.cells.size=tsz cx.P t:=by rw [← Array.length_toList]; omega
 simp_all [Instr.storeAt,Instr.sureAddr,storeVar,Bu]
theorem PY {T} {B} {t} {b off} {xv} {a x} {cs vs} (hs:OSim cx γ T B w) (ha:VSim γ.vw γ (.box b off) a) (hx:VSim γ.vw γ xv x) (hcs:cellsOf xv=some cs) (hlen:cs.length=tsz cx.P t) (hpos:0<tsz cx.P t) (hone:cs.all AV.one=true) (hB:B b=some vs) (hmp:isMp vs=false) (hle:off+cs.length≤vs.length):
  ∃w',(Instr.storeAt t a x).run cx.P w= .ok () w'∧OSim cx γ T (fun x=>if x=b then some (splice vs off cs) else B x) w':=by
 have hcv:=DZ hx hcs
 have hcl:=hcv.length
 simp only [VSim] at ha
 obtain⟨hbl,rfl⟩:=ha
 obtain⟨us,h2,h2'⟩:=hs.box b vs hbl hB
 obtain⟨cur,e,h3,h4⟩:=h2'.cells hmp
 obtain⟨hfit,hos⟩:=hs.storeBox hbl hB hmp hone h2 h3 h4 hcv hle (by omega)
 grind [PX]
theorem Rd {σ:St} {t:TypeId} {av xv:AV} {a x:Value} {K:St→Prop} (hs:OSim cx γ σ.T σ.B w) (ha:VSim γ.vw γ av a) (hx:VSim γ.vw γ xv x) (h:Jf cx.P t av xv σ K):
  ∃w' γ' σ',(Instr.storeAt t a x).run cx.P w= .ok () w'∧K σ'∧Out cx γ σ γ' σ' w':=by
 unfold Jf at h
 split at h
 ·rename_i cs hcs
  obtain⟨hlen,hpos,hone,h⟩:=h
  have hcv:=DZ hx hcs
  have hcl:=hcv.length
  have hrun:=fun g o cur e h1 h2=>PX (w:=w) hx hcs hlen hpos hone g o cur e h1 h2
  split at h
  ·rename_i b off
   obtain⟨vs,hB,hmp,hle,hK⟩:=h
   obtain⟨w',hr,hos⟩:=PY hs ha hx hcs hlen hpos hone hB hmp hle
   refine⟨w',γ,_,hr,hK,Gh.Ext.refl γ,?_,rfl,fun x h=>.inl h,fun x h=>.inl h,fun x h=>h,fun x h=>?_⟩
   ·have e1:(σ.setB b (splice vs off cs)).B =fun x=>if x=b then some (splice vs off cs) else σ.B x:=funext fun x=>St.B_setB σ b _ x
    rw [e1]; exact hos
   ·show (look ((b,_)::σ.b) x).isSome =true
    rw [AF]; grind
  ·rename_i t' sz i off
   obtain⟨tk0,hT0,h⟩:=h
   obtain⟨ds,σ',fds,⟨tk,row,⟨hT,hzz⟩,hrow,hrl,hle,hK⟩,hle',hov,hnd,hfr,hdl,hin⟩:=B6 hs hcv h
   rw [← hzz] at hov
   have hs':=hle'.osim hs
   simp only [VSim] at ha
   obtain⟨htl,g,o,n,c,htv,rfl⟩:=ha
   have hi:=Au hrow
   have hTk:=hs'.tok t' tk htl hT
   have hkill:=StLe.killT σ' t'
   have hs0:=hkill.osim hs'
   have hfk:=EI hs' htl hT
   have hndt:=hs'.tnd t' tk htl hT
   obtain⟨sz',e,cs',fps,hnl,k1,k2,hb,k3,hr,hfp,hback⟩:=hTk.block htv (fun h0=>by rw [h0] at hi; grind)
   subst hnl
   obtain⟨f1,f2,f3,rfl,hl,hc,hput⟩:=hr.split i hi
   have hrow':tk.rows[i] =row:=by rw [List.getElem?_eq_getElem hi] at hrow; grind
   rw [hrow'] at hl hc
   have hsz:sz'=sz:=by omega
   subst hsz
   have hdl':ds.length=x.cells.toList.length:=by omega
   have hrow3:row=row.take off++((row.drop off).take ds.length++row.drop (off+ds.length)):=by
    rw [← List.drop_drop,List.take_append_drop,List.take_append_drop]
   rw [hrow3] at hc
   obtain⟨fa,fm',hca,hcm,rfl⟩:=OwnC.of_append.1 hc
   obtain⟨fm,fz,hcm2,hcz,rfl⟩:=OwnC.of_append.1 hcm
   have hta:(row.take off).length =off:=by rw [List.length_take]; omega
   have htm:((row.drop off).take ds.length).length =ds.length:=by rw [List.length_take,List.length_drop]; omega
   rw [hta] at hcm2 hcz
   rw [htm] at hcz
   have hspl:splice row off ds=row.take off++(ds++row.drop (off+ds.length)):=Ch _ _ _ (by omega)
   have hmul:(i+1)*sz'≤tk.rows.length*sz':=Nat.mul_le_mul_right _ hi
   have hmul2:tk.rows.length*sz'≤c*sz':=Nat.mul_le_mul_right _ k1
   have hmul3:(i+1)*sz'=i*sz'+sz':=by rw [Nat.add_mul]; omega
   have hfit:o+i*sz'+off+x.cells.toList.length≤cs'.toArray.size:=by rw [List.size_toArray]; omega
   have hbl:w.heap[g]? =some (.cells cs'.toArray e (0,0)):=hb
   have hsize:(cs'.toArray.toList.take (o+i*sz'+off)++x.cells.toList++cs'.toArray.toList.drop (o+i*sz'+off+x.cells.toList.length)).toArray.size =cs'.toArray.size:=by
    simp at hfit ⊢; omega
   have hch:=Chg.setRow (cs:=(cs'.toArray.toList.take (o+i*sz'+off)++x.cells.toList++cs'.toArray.toList.drop (o+i*sz'+off+x.cells.toList.length)).toArray) hbl hsize
   have hnew:=setRow_heap w g cs'.toArray (cs'.toArray.toList.take (o+i*sz'+off)++x.cells.toList++cs'.toArray.toList.drop (o+i*sz'+off+x.cells.toList.length)).toArray e (0,0) hbl
   have hR:=hrun g (o+i*sz'+off) cs'.toArray e hbl hfit
   have hcells:∀j,(cs'.take (o+i*sz'+off)++x.cells.toList++cs'.drop (o+i*sz'+off+x.cells.toList.length))[j]? =if j<o+i*sz'+off then cs'[j]? else if j<o+i*sz'+off+x.cells.toList.length then x.cells.toList[j - (o+i*sz'+off)]? else cs'[j]? :=fun j=>Fc (by omega) j
   have hother:∀k,k≠g→(w.setRow g (cs'.toArray.toList.take (o+i*sz'+off)++x.cells.toList++cs'.toArray.toList.drop (o+i*sz'+off+x.cells.toList.length)).toArray).heap[k]? =w.heap[k]? :=fun k hk=>setRow_other w g k _ hk
   have hl2:(cs'.take (o+i*sz'+off)++x.cells.toList++cs'.drop (o+i*sz'+off+x.cells.toList.length)).length =cs'.length:=by
    omega
   simp only [List.toList_toArray] at hR hch hnew hother
   generalize (cs'.take (o+i*sz'+off)++x.cells.toList++cs'.drop (o+i*sz'+off+x.cells.toList.length))=cs2 at*
   rw [hfp] at hndt
   obtain⟨hgn,hndf⟩:=List.nodup_cons.1 hndt
   have hgd:g ∉ fds:=fun hm=>by
    have:=(hfr g hm).t t' tk htl hT
    rw [hfp] at this
    grind
   have hne:∀k ∈ f1++((fa++(fm++fz))++f3),(w.setRow g cs2.toArray).heap[k]? =w.heap[k]? :=fun k hk=>hother k fun e=>hgn (e ▸ hk)
   have hrow2:OwnC (tk.vw γ.vw) (w.setRow g cs2.toArray) cs2 (o+i*sz') (splice row off ds) (fa++(fds++fz)):=by
    rw [hspl]
    refine OwnC.of_append.2 ⟨fa,fds++fz,?_,OwnC.of_append.2 ⟨fds,fz,?_,?_,rfl⟩,rfl⟩
    ·refine(OwnC.keep hca fun k hk=>hne k (by grind)).cells fun j j1 j2=>?_
     rw [hta] at j2
     rw [hcells,if_pos (by omega)]
    ·rw [hta]
     refine CA.cells (CA.keep hov fun k hk=>hother k fun e=>hgd (e ▸ hk)) fun j hj=>?_
     rw [hcells,if_neg (by omega),if_pos (by omega)]
     congr 1; omega
    ·rw [hta]
     refine(OwnC.keep hcz fun k hk=>hne k (by simp [hk])).cells fun j j1 j2=>?_
     rw [hcells,if_neg (by omega),if_neg (by omega)]
   have hrows:=hput (w.setRow g cs2.toArray) cs2 (splice row off ds) (fa++(fds++fz)) (by rw [hspl]; grind) (fun k hk=>hne k (by simp only [List.mem_append] at hk ⊢; rcases hk with hk|hk <;> simp [hk])) (fun j hj=>by
    rcases hj with hj|hj
    ·rw [hcells,if_pos (by omega)]
    ·rw [hcells,if_neg (by omega),if_neg (by omega)]) hrow2
   have htok:=hback (w.setRow g cs2.toArray) cs2 (tk.rows.set i (splice row off ds)) _ (by simp) hnew hl2 hrows (if Cg row off ds=true then tk.gen else tk.gen+1)
   have hs1:=hs0.change hch fun k hk=>by rw [hk]; grind
   have hfold:∀k ∈ f1++((fa++(fm++fz))++f3),k ∉ fds:=fun k hk hm=>by
    have:=(hfr k hm).t t' tk htl hT
    rw [hfp] at this
    grind
   have hhd:=hs'.hds t' tk htl hT
   have hkeep:Cg row off ds=true→∀q r,At q (.sl (tk.rows.set i (splice row off ds))) r→isSl r→hdr (w.setRow g cs2.toArray) (γ.tv t') q=γ.hv t' tk.gen q:=fun hfl q r hq hsl=>by
    obtain⟨r',hr',hsr⟩:=At.flatRow hrow (by omega) hspl hfl hq hsl
    rw [← hhd.2.2 q r' hr' hsr]
    refine KN (hs'.tok t' tk htl hT).own hr' hsr fun b hbm oo a n c hcell=>?_
    by_cases hbg:b=g
    ·subst hbg
     rw [hb.cell] at hcell
     have hnb:Blk (w.setRow b cs2.toArray) b e cs2:=hnew
     rw [hnb.cell,hcells]
     by_cases h5:oo<o+i*sz'+off
     ·rw [if_pos h5]; omega
     ·rw [if_neg h5]
      by_cases h6:oo<o+i*sz'+off+x.cells.toList.length
      ·exfalso
       simp only [Cg,Bool.and_eq_true] at hfl
       refine LZ hcm2 hfl.2 (oo - (o+i*sz'+off)) (by rw [htm]; omega) a n c ?_
       rw [show o+i*sz'+off+(oo - (o+i*sz'+off))=oo from by omega]
       omega
      grind
    grind [World.cell?]
   have hg1:γ.tl t'→∀k,γ.gl t' k→k≤(if Cg row off ds=true then tk.gen else tk.gen+1):=fun _ k hk=>by
    have:=hhd.2.1 k hk
    split <;> omega
   have hg2:γ.tl t'→γ.gl t' (if Cg row off ds=true then tk.gen else tk.gen+1)→∀q r,At q (.sl (tk.rows.set i (splice row off ds))) r→isSl r→hdr (w.setRow g cs2.toArray) (γ.tv t') q=γ.hv t' (if Cg row off ds=true then tk.gen else tk.gen+1) q:=fun _ hgl q r hq hsl=>by
    by_cases hfl:Cg row off ds=true
    ·rw [if_pos hfl]; grind
    ·rw [if_neg hfl] at hgl
     have:=hhd.2.1 _ hgl
     omega
   have hfin:=hs1.putTok (t:=t') (tk:=⟨tk.rows.set i (splice row off ds),tk.sz,(if Cg row off ds=true then tk.gen else tk.gen+1),tk.z⟩) (v:=γ.tv t') (fp:=g::(f1++((fa++(fds++fz))++f3))) (by rw [St.T_killT,if_pos rfl]) (fun _=>rfl) htok ?_ ?_ hg1 hg2
   ·refine⟨_,γ.tok (w.setRow g cs2.toArray) t' (γ.tv t') (g::(f1++((fa++(fds++fz))++f3))) (if Cg row off ds=true then tk.gen else tk.gen+1),σ'.setT t' ⟨tk.rows.set i (splice row off ds),tk.sz,(if Cg row off ds=true then tk.gen else tk.gen+1),tk.z⟩,hR,hK,Gh.tok_ext fun _=>rfl,?_,hle'.s,fun y hy=>?_,fun y hy=>.inl hy,fun y hy=>?_,fun y hy=>by show (look σ'.b y).isSome =true; exact hle'.b y hy⟩
    ·have e1:(σ'.setT t' ⟨tk.rows.set i (splice row off ds),tk.sz,(if Cg row off ds=true then tk.gen else tk.gen+1),tk.z⟩).T =fun x=>if x=t' then some ⟨tk.rows.set i (splice row off ds),tk.sz,(if Cg row off ds=true then tk.gen else tk.gen+1),tk.z⟩ else (σ'.killT t').T x:=funext fun x=>by
      rw [St.T_setT]
      by_cases hx:x=t'
      ·rw [if_pos hx,if_pos hx]
      grind [St.T_killT]
     rw [e1]; exact hfin
    ·rcases hy with hy|rfl
     ·grind
     grind
    ·show (look ((t',_)::σ'.t) y).isSome =true
     rw [AF]; split
     ·rfl
     ·exact hle'.t y hy
   · -- nodup
    refine List.nodup_cons.2 ⟨fun hm=>?_,?_⟩
    ·simp only [List.mem_append] at hm
     rcases hm with hm|((hm|hm|hm)|hm)
     ·grind
     ·grind
     ·grind
     ·exact hgn (by simp [hm])
     grind
    ·have e1:f1++((fa++(fm++fz))++f3)=(f1++fa)++(fm++(fz++f3)):=by grind
     have e2:f1++((fa++(fds++fz))++f3)=(f1++fa)++(fds++(fz++f3)):=by grind
     rw [e1] at hndf hfold
     rw [e2]
     exact VL hndf hnd fun k hk=>⟨fun hm=>hfold k (by grind) hk,fun hm=>hfold k (by grind) hk⟩
   ·intro k hk
    have:k=g∨k ∈ f1++((fa++(fm++fz))++f3)∨k ∈ fds:=by
     simp only [List.mem_cons,List.mem_append] at hk ⊢
     grind
    grind [Free.of_le]
  ·rename_i t' g p sz i off
   obtain⟨ds,σ',fds,⟨rows,hsub,row,hrow,⟨hp0,hrl,hle,hfl⟩,tk,hT,hK⟩,hle',hov,hnd,hfr,hdl,hin⟩:=B6 hs hcv h
   have hs':=hle'.osim hs
   simp only [VSim] at ha
   obtain⟨⟨htl,hgl⟩,b,o,n,c,hhv,rfl⟩:=ha
   have hi:=Au hrow
   obtain⟨tk',f1,f2,f3,hT',hg',hatR,-,htf,hown,hback⟩:=GU hs'.see htl hsub
   have hat:=hatR.sl (by intro e; rw [e] at hi; exact Nat.not_lt_zero _ hi)
   rw [hT] at hT'
   obtain rfl:=Option.some.inj hT'
   have hfl':=hfl
   simp only [Cg,Bool.and_eq_true] at hfl'
   obtain rfl:=Rc hov hfl'.1
   have hown0:=hown
   simp only [Own] at hown
   rcases hown with ⟨rfl,-,-⟩|⟨sz',g',o',c',te,cs',fps,hv,hn,hc,hb,hlen2,hr,hf2⟩
   ·grind
   rw [hhv] at hv
   simp only [Value.slice.injEq,Option.some.injEq,Addr.mk.injEq] at hv
   obtain⟨⟨rfl,rfl,-⟩,rfl,rfl⟩:=hv
   have hTk:=hs'.tok t' tk htl hT
   have hkill:=StLe.killT σ' t'
   have hs0:=hkill.osim hs'
   have hfk:=EI hs' htl hT
   have hndt:=hs'.tnd t' tk htl hT
   obtain⟨a1,a2,a3,hfps,hl,hoc,hput⟩:=hr.split i hi
   have hrow':rows[i] =row:=by rw [List.getElem?_eq_getElem hi] at hrow; grind
   rw [hrow'] at hl hoc
   have hsz:sz'=sz:=by omega
   subst hsz
   have hdl':ds.length=x.cells.toList.length:=by omega
   have hrow3:row=row.take off++((row.drop off).take ds.length++row.drop (off+ds.length)):=by
    rw [← List.drop_drop,List.take_append_drop,List.take_append_drop]
   rw [hrow3] at hoc
   obtain⟨fa,fm',hca,hcm,rfl⟩:=OwnC.of_append.1 hoc
   obtain⟨fm,fz,hcm2,hcz,rfl⟩:=OwnC.of_append.1 hcm
   have hta:(row.take off).length =off:=by rw [List.length_take]; omega
   have htm:((row.drop off).take ds.length).length =ds.length:=by rw [List.length_take,List.length_drop]; omega
   rw [hta] at hcm2 hcz
   rw [htm] at hcz
   obtain rfl:=Rb hcm2 hfl'.2
   have hspl:splice row off ds=row.take off++(ds++row.drop (off+ds.length)):=Ch _ _ _ (by omega)
   have hmul:(i+1)*sz'≤rows.length*sz':=Nat.mul_le_mul_right _ hi
   have hmul2:rows.length*sz'≤c*sz':=Nat.mul_le_mul_right _ hn
   have hmul3:(i+1)*sz'=i*sz'+sz':=by rw [Nat.add_mul]; omega
   have hfit:o+i*sz'+off+x.cells.toList.length≤cs'.toArray.size:=by rw [List.size_toArray]; omega
   have hbl:w.heap[b]? =some (.cells cs'.toArray te (0,0)):=hb
   have hsize:(cs'.toArray.toList.take (o+i*sz'+off)++x.cells.toList++cs'.toArray.toList.drop (o+i*sz'+off+x.cells.toList.length)).toArray.size =cs'.toArray.size:=by
    simp at hfit ⊢; omega
   have hch:=Chg.setRow (cs:=(cs'.toArray.toList.take (o+i*sz'+off)++x.cells.toList++cs'.toArray.toList.drop (o+i*sz'+off+x.cells.toList.length)).toArray) hbl hsize
   have hnew:=setRow_heap w b cs'.toArray (cs'.toArray.toList.take (o+i*sz'+off)++x.cells.toList++cs'.toArray.toList.drop (o+i*sz'+off+x.cells.toList.length)).toArray te (0,0) hbl
   have hR:=hrun b (o+i*sz'+off) cs'.toArray te hbl hfit
   have hcells:∀j,(cs'.take (o+i*sz'+off)++x.cells.toList++cs'.drop (o+i*sz'+off+x.cells.toList.length))[j]? =if j<o+i*sz'+off then cs'[j]? else if j<o+i*sz'+off+x.cells.toList.length then x.cells.toList[j - (o+i*sz'+off)]? else cs'[j]? :=fun j=>Fc (by omega) j
   have hother:∀k,k≠b→(w.setRow b (cs'.toArray.toList.take (o+i*sz'+off)++x.cells.toList++cs'.toArray.toList.drop (o+i*sz'+off+x.cells.toList.length)).toArray).heap[k]? =w.heap[k]? :=fun k hk=>setRow_other w b k _ hk
   have hl2:(cs'.take (o+i*sz'+off)++x.cells.toList++cs'.drop (o+i*sz'+off+x.cells.toList.length)).length =cs'.length:=by
    omega
   simp only [List.toList_toArray] at hR hch hnew hother
   generalize (cs'.take (o+i*sz'+off)++x.cells.toList++cs'.drop (o+i*sz'+off+x.cells.toList.length))=cs2 at*
   rw [htf,hf2,hfps] at hndt
   have hbn:b ∉ f1∧b ∉ a1++((fa++([] ++fz))++a3)∧b ∉ f3:=by
    rw [List.nodup_append] at hndt
    obtain⟨n1,n2,n3⟩:=hndt
    rw [List.cons_append] at n2
    grind
   have hne:∀k ∈ a1++((fa++([] ++fz))++a3),(w.setRow b cs2.toArray).heap[k]? =w.heap[k]? :=fun k hk=>hother k fun e=>hbn.2.1 (e ▸ hk)
   have hrow2:OwnC (tk.vw γ.vw) (w.setRow b cs2.toArray) cs2 (o+i*sz') (splice row off ds) (fa++([] ++fz)):=by
    rw [hspl]
    refine OwnC.of_append.2 ⟨fa,[] ++fz,?_,OwnC.of_append.2 ⟨[],fz,?_,?_,rfl⟩,rfl⟩
    ·refine(OwnC.keep hca fun k hk=>hne k (by grind)).cells fun j j1 j2=>?_
     rw [hta] at j2
     rw [hcells,if_pos (by omega)]
    ·rw [hta]
     refine CA.cells (CA.keep (CA.mono (eC (fun h=>by cases h)) hov) fun k hk=>by cases hk) fun j hj=>?_
     rw [hcells,if_neg (by omega),if_pos (by omega)]
     congr 1; omega
    ·rw [hta]
     refine(OwnC.keep hcz fun k hk=>hne k (by simp [hk])).cells fun j j1 j2=>?_
     rw [hcells,if_neg (by omega),if_neg (by omega)]
   have hrows:=hput (w.setRow b cs2.toArray) cs2 (splice row off ds) (fa++([] ++fz)) (by rw [hspl]; grind) (fun k hk=>hne k (by simp only [List.mem_append] at hk ⊢; rcases hk with hk|hk <;> simp [hk])) (fun j hj=>by
    rcases hj with hj|hj
    ·rw [hcells,if_pos (by omega)]
    ·rw [hcells,if_neg (by omega),if_neg (by omega)]) hrow2
   have hown2:Own (tk.vw γ.vw) (w.setRow b cs2.toArray) (.sl (rows.set i (splice row off ds))) (γ.hv t' g p) f2:=by
    simp only [Own]
    refine .inr ⟨sz',b,o,c,te,cs2,_,by rw [List.length_set]; omega,by rw [List.length_set]; exact hn,hc,hnew,by rw [hl2]; omega,hrows,by rw [hf2,hfps]⟩
   have hputT:=hback (w.setRow b cs2.toArray) _ f2 (fun k hk=>hother k fun e=>by
    rw [e] at hk
    grind) hown2
   have htok:=AX.put hp0 hTk hat hputT tk.gen
   have hbt:b ∈ γ.tf t':=by rw [htf,hf2]; simp
   have hs1:=hs0.change hch fun k hk=>by rw [hk]; grind
   have hhd:=hs'.hds t' tk htl hT
   have hinv:∀q r,At q (.sl (putR p tk.rows (.sl (rows.set i (splice row off ds))))) r→isSl r→∃r',At q (.sl tk.rows) r'∧isSl r':=fun q r hq hsl=>by
    rw [← (Nm hp0 hat _).1] at hq
    rcases At.put_inv hat hq hsl with h|⟨q2,rfl,h⟩
    ·exact h
    ·obtain⟨r',hr',hsr⟩:=At.flatRow hrow (by omega) hspl hfl h hsl
     exact⟨r',hat.trans hr',hsr⟩
   have hkeep:∀q r,At q (.sl (putR p tk.rows (.sl (rows.set i (splice row off ds))))) r→isSl r→hdr (w.setRow b cs2.toArray) (γ.tv t') q=γ.hv t' tk.gen q:=fun q r hq hsl=>by
    obtain⟨r',hr',hsr⟩:=hinv q r hq hsl
    rw [← hhd.2.2 q r' hr' hsr]
    refine KN hTk.own hr' hsr fun b' hbm oo a n c hcell=>?_
    by_cases hbg:b'=b
    ·subst hbg
     rw [hb.cell] at hcell
     have hnb:Blk (w.setRow b' cs2.toArray) b' te cs2:=hnew
     rw [hnb.cell,hcells]
     by_cases h5:oo<o+i*sz'+off
     ·rw [if_pos h5]; omega
     ·rw [if_neg h5]
      by_cases h6:oo<o+i*sz'+off+x.cells.toList.length
      ·exfalso
       refine LZ hcm2 hfl'.2 (oo - (o+i*sz'+off)) (by rw [htm]; omega) a n c ?_
       rw [show o+i*sz'+off+(oo - (o+i*sz'+off))=oo from by omega]
       omega
      grind
    grind [World.cell?]
   have hfin:=hs1.putTok (t:=t') (tk:=⟨putR p tk.rows (.sl (rows.set i (splice row off ds))),tk.sz,tk.gen,tk.z⟩) (v:=γ.tv t') (fp:=f1++(f2++f3)) (by rw [St.T_killT,if_pos rfl]) (fun _=>rfl) htok (by rw [← htf]; grind) (fun k hk=>hfk k (by rw [htf]; exact hk)) (fun _ k hk=>hhd.2.1 k hk) (fun _ _ q r hq hsl=>hkeep q r hq hsl)
   refine⟨_,γ.tok (w.setRow b cs2.toArray) t' (γ.tv t') (f1++(f2++f3)) tk.gen,σ'.setT t' ⟨putR p tk.rows (.sl (rows.set i (splice row off ds))),tk.sz,tk.gen,tk.z⟩,hR,hK,Gh.tok_ext fun _=>rfl,?_,hle'.s,fun y hy=>?_,fun y hy=>.inl hy,fun y hy=>?_,fun y hy=>by show (look σ'.b y).isSome =true; exact hle'.b y hy⟩
   ·have e1:(σ'.setT t' ⟨putR p tk.rows (.sl (rows.set i (splice row off ds))),tk.sz,tk.gen,tk.z⟩).T =fun x=>if x=t' then some ⟨putR p tk.rows (.sl (rows.set i (splice row off ds))),tk.sz,tk.gen,tk.z⟩ else (σ'.killT t').T x:=funext fun x=>by
     rw [St.T_setT]
     by_cases hx:x=t'
     ·rw [if_pos hx,if_pos hx]
     grind [St.T_killT]
    rw [e1]; exact hfin
   ·rcases hy with hy|rfl
    ·grind
    grind
   ·show (look ((t',_)::σ'.t) y).isSome =true
    rw [AF]; split
    ·rfl
    ·exact hle'.t y hy
  grind
 grind
end
end Go.Proofs.YtoncbhomocgmcaaGreatDoor.Ab
