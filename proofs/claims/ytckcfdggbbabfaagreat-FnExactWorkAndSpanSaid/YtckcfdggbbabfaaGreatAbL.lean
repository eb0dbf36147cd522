/-
  The abstract walk, eleventh part: stores.
-/
import Derived.Test.YtckcfdggbbabfaaGreatAbI
namespace Go.Proofs.YtckcfdggbbabfaaGreat.Ab
set_option linter.unusedVariables false
set_option linter.unusedSimpArgs false
open Go.RowKit Go.ChangeMaps
theorem PL {V w} {cs}:∀ {ds} {o} {f},OwnC V w cs o ds f→ds.all D.flat=true→∀j,j<ds.length→∀ (a:Option Addr) (n c:Nat),cs[o+j]? ≠some (.slice a n c)
 | [],o,f,_,_,j,hj,a,n,c=>by simp at hj
 | d::ds,o,f,h,hf,j,hj,a,n,c=>by
  simp only [OwnC] at h
  obtain⟨u,f1,f2,hu,ho,hc,-⟩:=h
  simp only [List.all_cons,Bool.and_eq_true] at hf
  cases j with
  |zero=>
   rw [Nat.add_zero,hu]
   intro e
   obtain rfl:=Option.some.inj e
   cases d <;> simp only [Own,D.flat] at ho hf
   ·cases ho.1
   ·cases ho.1
   ·cases ho.1
   ·cases hf.1
   ·cases hf.1
   ·cases hf.1
   ·cases hf.1
   ·cases ho.1
  |succ j=>
   rw [show o+(j+1)=o+1+j from by omega]
   exact PL hc hf.2 j (by simpa using hj) a n c
theorem At.flat_end {q} {d} {r} (h:At q d (.sl r)):d.flat=false:=by
 cases q with
 |nil=>simp only [At] at h; subst h; rfl
 |cons s q=>obtain⟨_,_,_⟩:=s; cases d <;> simp only [At] at h; rfl
theorem At.flatRow {rows} {i off} {row ds} {q} {r} (hr:rows[i]? =some row) (hle:off+ds.length≤row.length) (hspl:splice row off ds=row.take off++(ds++row.drop (off+ds.length)))
  (hf:Dw row off ds=true) (h:At q (.sl (rows.set i (splice row off ds))) (.sl r)):∃r',At q (.sl rows) (.sl r'):=by
 cases q with
 |nil=>exact⟨rows,by simp only [At]⟩
 | cons s q=>
  obtain⟨sz,i',j⟩:=s
  simp only [At] at h
  obtain⟨row',d1,h1,h2,h3,h4⟩:=h
  by_cases hi:i=i'
  ·subst hi
   rw [List.getElem?_set_self (Af hr)] at h1
   obtain rfl:=Option.some.inj h1
   have hlen:(splice row off ds).length =row.length:=by rw [hspl]; simp; omega
   have hj:row[j]? =some d1:=by
    rw [hspl] at h3
    have hta:(row.take off).length =off:=by rw [List.length_take]; omega
    by_cases h5:j<off
    ·rw [List.getElem?_append_left (by omega),List.getElem?_take_of_lt h5] at h3
     exact h3
    ·rw [List.getElem?_append_right (by omega),hta] at h3
     by_cases h6:j - off<ds.length
     ·rw [List.getElem?_append_left h6] at h3
      simp only [Dw,Bool.and_eq_true,List.all_eq_true] at hf
      have:=hf.1 d1 (List.mem_of_getElem? h3)
      rw [h4.flat_end] at this
      cases this
     ·rw [List.getElem?_append_right (by omega),List.getElem?_drop] at h3
      rw [show off+ds.length+(j - off - ds.length)=j from by omega] at h3
      exact h3
   exact⟨r,by simp only [At]; exact⟨row,d1,hr,by omega,hj,h4⟩⟩
  ·rw [List.getElem?_set_ne hi] at h1
   exact⟨r,by simp only [At]; exact⟨row',d1,h1,h2,h3,h4⟩⟩
structure Out (cx:Cx) (γ:Gh) (σ:St) (γ':Gh) (σ':St) (w':World):Prop where
 ext:Gh.Ext γ γ'
 os:OSim cx γ' σ'.T σ'.B w'
 s:σ'.s=σ.s
 td:∀x,γ'.tl x→γ.tl x∨(look σ'.t x).isSome =true
 bd:∀x,γ'.bl x→γ.bl x∨(look σ'.b x).isSome =true
 tm:∀x,(look σ.t x).isSome =true→(look σ'.t x).isSome =true
 bm:∀x,(look σ.b x).isSome =true→(look σ'.b x).isSome =true
theorem S5 {a m b c:List Nat} (h:(a++(m++b)).Nodup) (hc:c.Nodup) (hd:∀k ∈ c,k ∉ a∧k ∉ b):(a++(c++b)).Nodup :=by
 simp only [List.nodup_append,List.mem_append] at h ⊢
 obtain⟨h1,⟨h2,h3,h4⟩,h5⟩:=h
 refine⟨h1,⟨hc,h3,fun x hx y hy e=>(hd x hx).2 (e ▸ hy)⟩,fun x hx y hy=>?_⟩
 rcases hy with hy|hy
 ·exact fun e=>(hd y hy).1 (e ▸ hx)
 ·exact h5 x hx y (.inr hy)
theorem Ie {α:Type} {cs news:List α} {p:Nat} (h:p+news.length≤cs.length) (j:Nat):
  (cs.take p++news++cs.drop (p+news.length))[j]? =if j<p then cs[j]? else if j<p+news.length then news[j - p]? else cs[j]? :=by
 have hp:(cs.take p).length =p:=by rw [List.length_take]; omega
 rw [List.append_assoc,List.getElem?_append]
 rw [hp]
 split
 ·rw [List.getElem?_take]; simp_all
 ·rw [List.getElem?_append]
  split
  ·rename_i h1 h2; rw [if_pos (by omega)]
  ·rename_i h1 h2
   rw [if_neg (by omega),List.getElem?_drop]
   congr 1; omega
section
variable {cx:Cx} {γ:Gh} {w:World}
theorem OSim.putBox {T} {B} (hs:OSim cx γ T B w) {w'} {b} {vs vs'} {us'} (hbl:γ.bl b) (hB:B b=some vs) (hlt:γ.bb b<w.heap.size)
  (hch:Chg w w' (· =γ.bb b)) (hl:∀x ∈ cx.L,x.1 =γ.bb b→x.2.1 =γ.bo b→x.2.2 =vs.length→HT cx.we w x→HT cx.we w' x)
  (hv':AK γ.vw γ vs' us') (hbx:FQ w' vs' (γ.bb b) (γ.bo b) us') (hlen:vs'.length=vs.length):OSim cx γ T (fun x=>if x=b then some vs' else B x) w':=by
 have hother:∀k,k<w.heap.size→k≠γ.bb b→w'.heap[k]? =w.heap[k]? :=fun k h1 h2=>hch.block k h1 h2
 have hb:=hs.bfr b vs hbl hB
 have hkt:∀t tk,γ.tl t→T t=some tk→∀g ∈ γ.tf t,w'.heap[g]? =w.heap[g]? :=fun t tk h1 h2 g hg=>hother g ((hs.tok t tk h1 h2).lt g hg) fun e=>hs.btd b t vs tk hbl h1 hB h2 (e ▸ hg)
 refine⟨⟨?_,hch.os.trans hs.frm.os,hch.tape.trans hs.frm.tape,hch.output.trans hs.frm.output,Nat.le_trans hs.frm.size hch.size,fun k hk h1 h2=>?_,fun x hx=>?_⟩,fun t tk h1 h2=>?_,hs.tnd,hs.tds,fun b' ws h1 h2=>?_,fun b1 b2 v1 v2 hne h1 h2 h3 h4=>?_,fun b' t ws tk h1 h2 h3 h4=>?_,hs.tfr,fun b' ws h1 h2=>?_,fun t tk h1 h2=>(hs.hds t tk h1 h2).keep (hs.tok t tk h1 h2).own (hkt t tk h1 h2),hs.beg,⟨fun a u hu=>?_,hs.vw.t,fun b' ws h1 h2=>?_,hs.vw.f⟩⟩
 ·refine P6 hs.frm.sh (fun i hi hi'=>hother i hi' fun e=>?_) hch.shape
  subst e
  rcases hb with h|⟨-,x,hx,h,-⟩
  ·have:=cx.lowe; omega
  ·have:=cx.low (γ.bb b) (.inr ⟨x,hx,h⟩); omega
 ·rw [hother k (Nat.lt_of_lt_of_le hk hs.frm.size) fun e=>?_]
  ·exact hs.frm.block k hk h1 h2
  ·subst e
   rcases hb with h|⟨-,x,hx,h,-⟩
   ·omega
   ·exact h2 x hx h
 ·have hlo:=hs.frm.lent x hx
  by_cases hxb:x.1 =γ.bb b
  ·rcases hb with h|⟨hp,y,hy,h5,h6,h7,h8⟩
   ·have:=hlo.lt0; omega
   ·have hxy:=h8 x hx hxb
    subst hxy
    exact hl x hx hxb h6 h7 hlo
  ·exact hlo.keep (hother _ hlo.lt hxb)
 ·exact(hs.tok t tk h1 h2).keep (hkt t tk h1 h2)
 ·by_cases hx:b'=b
  ·subst hx
   simp only [if_pos,Option.some.injEq] at h2
   subst h2
   exact⟨us',hv',hbx⟩
  ·simp only [if_neg hx] at h2
   obtain⟨us1,h3,h4⟩:=hs.box b' ws h1 h2
   exact⟨us1,h3,h4.keep (hother _ h4.lt (hs.bds b' b ws vs hx h1 hbl h2 hB))⟩
 ·have hB':∀x v,(if x=b then some vs' else B x)=some v→∃v',B x=some v':=fun x v hx=>by
   split at hx
   ·rename_i e; subst e; exact⟨vs,hB⟩
   ·exact⟨v,hx⟩
  obtain⟨v1',h3'⟩:=hB' b1 v1 h3
  obtain⟨v2',h4'⟩:=hB' b2 v2 h4
  exact hs.bds b1 b2 v1' v2' hne h1 h2 h3' h4'
 ·by_cases hx:b'=b
  ·subst hx; exact hs.btd b' t vs tk h1 h2 hB h4
  ·simp only [if_neg hx] at h3; exact hs.btd b' t ws tk h1 h2 h3 h4
 ·by_cases hx:b'=b
  ·subst hx
   simp only [if_pos,Option.some.injEq] at h2
   subst h2
   rcases hb with h|⟨hp,y,hy,h5,h6,h7,h8⟩
   ·exact .inl h
   ·exact .inr ⟨hp,y,hy,h5,h6,by rw [hlen]; exact h7,h8⟩
  ·simp only [if_neg hx] at h2; exact hs.bfr b' ws h1 h2
 ·have h1:=hs.vw.k a u hu
  have hlt:=World.block_lt_of_cell? w a h1
  have hbk:=hother a.block hlt fun e=>by
   rw [J8 hu,e,hs.vw.b b vs hbl hB] at hu; cases hu
  unfold World.cell? at h1 ⊢
  rw [hbk]; exact h1
 ·by_cases hx:b'=b
  ·subst hx; exact hs.vw.b b' vs hbl hB
  ·simp only [if_neg hx] at h2; exact hs.vw.b b' ws h1 h2
theorem Ye {vs} (h:vs.all AV.one=true):isMp vs=false:=by
 cases vs with
 |nil=>rfl
 | cons a l=>cases l with
  |nil=>
   simp only [List.all_cons,Bool.and_eq_true] at h
   cases a <;> first|rfl|(simp [AV.one] at h)
  |cons b l=>rfl
theorem U8 {vs cs} {off} (hm:isMp vs=false) (hc:cs.all AV.one=true) (hle:off+cs.length≤vs.length):isMp (splice vs off cs)=false:=by
 by_cases hl:vs.length=1
 ·obtain⟨a,rfl⟩:∃a,vs=[a] :=by cases vs with
   |nil=>simp at hl
   |cons a l=>cases l with
    |nil=>exact⟨a,rfl⟩
    |cons b l=>simp at hl
  cases cs with
  |nil=>exact hm
  |cons c cs=>
   simp only [List.length_cons,List.length_nil] at hle
   have h0:off=0:=by omega
   have hn:cs=[] :=List.eq_nil_of_length_eq_zero (by omega)
   subst h0 hn
   simp only [List.all_cons,Bool.and_eq_true] at hc
   show isMp [c] =false
   cases c <;> first|rfl|(simp [AV.one] at hc)
 ·exact Uk (by rw [Dy _ _ _ hle]; simp; omega)
theorem OSim.storeBox {T:Nat→Option Tok} {B:Nat→Option (List AV)} (hs:OSim cx γ T B w) {b:Nat} {vs cs:List AV} {us news:List Value} {off:Nat} {cur:Array Value} {e:TypeId} (hbl:γ.bl b) (hB:B b=some vs) (hm:isMp vs=false) (hone:cs.all AV.one=true)
  (hv:AK γ.vw γ vs us) (hg:w.heap[γ.bb b]? =some (.cells cur e (0,0))) (hc:∀j,j<us.length→cur[γ.bo b+j]? =us[j]?) (hn:AK γ.vw γ cs news) (hle:off+cs.length≤vs.length) (h0:0<cs.length):
  γ.bo b+off+news.length≤cur.toList.length∧
  OSim cx γ T (fun x=>if x=b then some (splice vs off cs) else B x) (w.setRow (γ.bb b) (cur.toList.take (γ.bo b+off)++news++cur.toList.drop (γ.bo b+off+news.length)).toArray):=by
 have hul:=hv.length
 have hnl:=hn.length
 have hlt:=lt_of_block hg
 have hfit:γ.bo b+off+news.length≤cur.toList.length:=by
  have h1:=hc (us.length - 1) (by omega)
  rw [List.getElem?_eq_getElem (show us.length - 1<us.length by omega)] at h1
  have h2:=(Array.getElem?_eq_some_iff.1 h1).1
  have h3:cur.toList.length=cur.size:=Array.length_toList
  omega
 refine⟨hfit,?_⟩
 have hsize:(cur.toList.take (γ.bo b+off)++news++cur.toList.drop (γ.bo b+off+news.length)).toArray.size =cur.size:=by
  have h3:cur.toList.length=cur.size:=Array.length_toList
  rw [List.size_toArray,List.length_append,List.length_append,List.length_take,List.length_drop]
  omega
 have hch:=Chg.setRow (w:=w) (g:=γ.bb b) (cs:=(cur.toList.take (γ.bo b+off)++news++cur.toList.drop (γ.bo b+off+news.length)).toArray) hg hsize
 have hnew:=setRow_heap w (γ.bb b) cur (cur.toList.take (γ.bo b+off)++news++cur.toList.drop (γ.bo b+off+news.length)).toArray e (0,0) hg
 have hrow:∀j,(cur.toList.take (γ.bo b+off)++news++cur.toList.drop (γ.bo b+off+news.length)).toArray[j]? =if j<γ.bo b+off then cur[j]? else if j<γ.bo b+off+news.length then news[j - (γ.bo b+off)]? else cur[j]? :=fun j=>by
  rw [List.getElem?_toArray,Ie hfit j,Array.getElem?_toList]
 generalize (cur.toList.take (γ.bo b+off)++news++cur.toList.drop (γ.bo b+off+news.length)).toArray =row at*
 refine hs.putBox hbl hB hlt hch (fun x hx hxb h6 h7 hlo=>?_) (us':=splice us off news) ?_ (FQ.of ⟨row,e,hnew,fun j hj=>?_⟩ (U8 hm hone hle)) (by rw [Dy _ _ _ hle]; simp; omega)
 ·rcases hlo with ⟨c1,c2,e',h1,h2,h3,h4⟩|⟨es,k,es',k',h1,h2⟩
  ·rw [hxb] at h2 h1
   rw [hg] at h2
   simp only [Option.some.injEq,Obj.cells.injEq,and_true] at h2
   obtain⟨rfl,rfl⟩:=h2
   refine .inl ?_
   rw [hxb]
   refine⟨c1,row,e,h1,hnew,by omega,fun o ho=>?_⟩
   rw [hrow,← h4 o ho]
   rw [h6,h7] at ho
   by_cases hlo:o<γ.bo b+off
   ·rw [if_pos hlo]
   ·rw [if_neg hlo,if_neg (by omega)]
  ·rw [hxb,hg] at h2; cases h2
 ·rw [Dy _ _ _ hle,Dy _ _ _ (by omega)]
  have ht:AK γ.vw γ (vs.take off) (us.take off):=by simpa [F1] using hv.take_drop 0 off
  have hd:AK γ.vw γ (vs.drop (off+cs.length)) (us.drop (off+news.length)):=by
   rw [hnl]
   have h6:=hv.take_drop (off+cs.length) (vs.length - (off+cs.length))
   unfold F1 at h6
   rw [List.take_of_length_le (by rw [List.length_drop]; omega),List.take_of_length_le (by rw [List.length_drop]; omega)] at h6
   exact h6
  exact ht.append (hn.append hd)
 ·rw [Dy _ _ _ (by omega)] at hj ⊢
  rw [hrow]
  have e1:=Ie (cs:=us) (news:=news) (p:=off) (by omega) j
  rw [List.append_assoc] at e1
  rw [e1]
  have hj':j<us.length:=by simp at hj; omega
  by_cases h6:j<off
  ·rw [if_pos (by omega),if_pos h6]; exact hc j hj'
  ·by_cases h7:j<off+news.length
   ·rw [if_neg (by omega),if_pos (by omega),if_neg h6,if_pos h7]
    congr 1; omega
   ·rw [if_neg (by omega),if_neg (by omega),if_neg h6,if_neg h7]; exact hc j hj'
theorem Yf {σ} {t} {mv iv xv} {m i x} {K} (hs:OSim cx γ σ.T σ.B w) (hm:VSim γ.vw γ mv m) (hi:VSim γ.vw γ iv i) (hx:VSim γ.vw γ xv x) (h:Un cx.P t mv iv xv σ K):
  ∃w' γ' σ',(Instr.mapUpdate t m i x).run cx.P w= .ok () w'∧K σ'∧Out cx γ σ γ' σ' w':=by
 unfold Un at h
 split at h
 ·rename_i kt et b hu
  obtain⟨q,rows,hB,hlen,hq,k,hkd,hkb,d,hd,hK⟩:=h
  simp only [VSim] at hm
  obtain⟨hbl,rfl⟩:=hm
  obtain⟨es,c,h3,h4,h5⟩:=Tm hs hbl hB
  have hkv:=RI hi hkd
  have hkk:=Z7 hkb
  have hck:=fun e=>MapKept.run_checkKey (P:=cx.P) (w:=w) (Id hq) (RH hkk hkv) e 9999
  have hfd:GY d x:=by
   cases xv <;> simp only [Ko,Option.map_some,Option.some.injEq,List.cons.injEq,and_true] at hd <;> try (cases hd; done)
   all_goals subst hd; simpa only [VSim,GY] using hx
  have hent:Ss q [k,d] (i,x):=⟨hkk,hkv,hfd⟩
  have hbo:γ.bo b=0:=by
   obtain⟨us,-,h6⟩:=hs.box b _ hbl hB
   exact(h6.map rfl).1
  have hlt:γ.bb b<w.heap.size:=(Array.getElem?_eq_some_iff.1 h3).1
  have fin:∀ (es':Array MapEntry) (c':Nat),(Instr.mapUpdate t (.map (some (γ.bb b))) i x).run cx.P w= .ok () (setBlock w (γ.bb b) (.map es' c'))→Bi q (mput k d rows) (Ir es')→
    ∃w' γ' σ',(Instr.mapUpdate t (.map (some (γ.bb b))) i x).run cx.P w= .ok () w'∧K σ'∧Out cx γ σ γ' σ' w':=fun es' c' hrun hents=>by
   have hnew:(setBlock w (γ.bb b) (.map es' c')).heap[γ.bb b]? =some (.map es' c'):=heap_setBlock_same h3 _
   have hoth:∀j,j≠γ.bb b→(setBlock w (γ.bb b) (.map es' c')).heap[j]? =w.heap[j]? :=fun j hj=>heap_setBlock_other h3 _ hj
   have hch:Chg w (setBlock w (γ.bb b) (.map es' c')) (· =γ.bb b):=⟨rfl,rfl,rfl,by simp [setBlock],fun j _ hj=>hoth j hj,fun g y hg=>by
    unfold World.shape? at hg ⊢
    by_cases e:g=γ.bb b
    ·subst e; rw [h3] at hg; cases hg
    ·rw [hoth g e]; exact hg⟩
   have hmlen:(mput k d rows).length ≤68719476736:=by
    rw [Mj k d h4]
    split
    ·simpa using h5
    ·simp; omega
   have hos:=hs.putBox hbl hB hlt hch (fun y hy hyb _ _ hlo=>by
     rcases hlo with ⟨c1,c2,e',h1,h2,-⟩|⟨e1,k1,e2,k2,h1,h2⟩
     ·rw [hyb,h3] at h2; cases h2
     ·exact .inr ⟨e1,k1,es',c',h1,by rw [hyb]; exact hnew⟩) (vs':=[.mpc q (mput k d rows)]) (us':=[Qu (Ir es')])
    (by simp only [AK,VSim]; exact⟨_,[],rfl,⟨hmlen,_,rfl,hents⟩,rfl⟩) (by rw [hbo]; exact FQ.ofM ⟨es',c',hnew,rfl⟩ rfl) rfl
   refine⟨_,γ,_,hrun,hK,Gh.Ext.refl γ,?_,rfl,fun x h=>.inl h,fun x h=>.inl h,fun x h=>h,fun y hy=>?_⟩
   ·have e1:(σ.setB b [.mpc q (mput k d rows)]).B =fun y=>if y=b then some [.mpc q (mput k d rows)] else σ.B y:=funext fun y=>St.B_setB σ b _ y
    rw [e1]; exact hos
   ·show (look ((b,_)::σ.b) y).isSome =true
    rw [AL]; split
    ·rfl
    ·exact hy
  rcases find_ents hkk hkv (i:=0) h4 with ⟨k1,k2,k3⟩|⟨j,e,d0,k1,k2,k3,k4,k5,k6⟩
  ·have hf:=MapKept.run_findKey (w:=w) (Id hq) k3
   refine fin (es.push {key:=i,val:=x,born:=c}) (c+1) (by simp [Instr.mapUpdate,run_underlying (NZ hu),MapKept.run_getObj_map h3,hck,hf,MapKept.run_setObj_map _ h3,setBlock]) ?_
   rw [Mj k d h4,k1]
   have:Ir (es.push {key:=i,val:=x,born:=c})=Ir es++[(i,x)] :=by simp [Ir]
   rw [this]
   exact Bi.snoc hent h4
  ·have hf:=MapKept.run_findKey (w:=w) (Id hq) k3
   have hej:es[j]? =some e:=by rw [← Array.getElem?_toList]; exact k4
   have hst:∀v:Value,MapKept.IsKey q.desc v→(Instr.keyThatStays v v).run cx.P w= .ok v w:=fun v hv=>by
    have:Instr.sameBits 10000 v v=true:=by
     cases q <;> cases v <;> simp [KT.desc,MapKept.IsKey] at hv <;> simp [Instr.sameBits,MapKept.bytes_beq]
    simp [Instr.keyThatStays,this]
   refine fin (es.modify j fun e=> {e with key:=i,val:=x}) c (by simp [Instr.mapUpdate,run_underlying (NZ hu),MapKept.run_getObj_map h3,hck,hf,hej,k5,hst i (RH hkk hkv),MapKept.run_setObj_map _ h3,setBlock]) ?_
   rw [Mj k d h4,k1]
   have:Ir (es.modify j fun e=> {e with key:=i,val:=x})=(Ir es).set j (i,x):=by
    unfold Ir
    rw [Array.toList_modify,modify_eq_set _ _ _ _ k4,List.map_set]
   rw [this]
   exact Bi.set hent h4
 ·exact h.elim
theorem Xl {V w} {d} {v} {f} (h:Own V w d v f) (hf:d.flat=true):f=[] :=by
 cases d <;> simp only [Own,D.flat] at h hf
 ·exact h.2.2
 ·exact h.2
 ·exact h.2.2
 ·cases hf
 ·cases hf
 ·cases hf
 ·cases hf
 ·exact h.2
theorem U9 {V w} {cs}:∀ {ds} {o} {f},OwnC V w cs o ds f→ds.all D.flat=true→f=[]
 | [],o,f,h,_=>by simpa only [OwnC] using h
 |d::ds,o,f,h,hf=>by
  simp only [OwnC] at h
  obtain⟨u,f1,f2,-,h1,h2,rfl⟩:=h
  simp only [List.all_cons,Bool.and_eq_true] at hf
  rw [Xl h1 hf.1,U9 h2 hf.2]; rfl
theorem VA {V w}:∀ {ds} {us} {f},DF V w ds us f→ds.all D.flat=true→f=[]
 | [],us,f,h,_=>by simp only [DF] at h; exact h.2
 |d::ds,us,f,h,hf=>by
  simp only [DF] at h
  obtain⟨u,us',f1,f2,-,h1,h2,rfl⟩:=h
  simp only [List.all_cons,Bool.and_eq_true] at hf
  rw [Xl h1 hf.1,VA h2 hf.2]; rfl
theorem RN {p} (hp:p≠ []) {rows} {d1} (h:At p (.sl rows) d1) (d:D):Ab.put p (.sl rows) d= .sl (putR p rows d)∧∃ (i:Nat) (row row':List D),rows[i]? =some row∧(putR p rows d)[i]? =some row'∧row'.length=row.length:=by
 cases p with
 |nil=>exact absurd rfl hp
 | cons s p=>
  obtain⟨sz,i,j⟩:=s
  simp only [At] at h
  obtain⟨row,e,h1,h2,h3,h4⟩:=h
  have hput:Ab.put ((sz,i,j)::p) (.sl rows) d= .sl (rows.set i (row.set j (Ab.put p e d))):=by
   rw [Ab.put,h1]; simp only; rw [h3]
  have e2:putR ((sz,i,j)::p) rows d=rows.set i (row.set j (Ab.put p e d)):=by unfold putR; rw [hput]
  refine⟨by rw [e2]; exact hput,i,row,row.set j (Ab.put p e d),h1,?_,by simp⟩
  rw [e2,List.getElem?_set_self (Af h1)]
theorem Az.put {V w w'} {tk} {v} {fp fp'} {p} {d1 d} (hp:p≠ []) (h:Az V w tk v fp) (ha:At p (.sl tk.rows) d1) (h':Own (tk.vw V) w' (Ab.put p (.sl tk.rows) d) v fp') (k:Nat):Az V w' ⟨putR p tk.rows d,tk.sz,k,tk.z⟩ v fp':=by
 obtain⟨e1,i,row,row',hi,hi',hl⟩:=RN hp ha d
 rw [e1] at h'
 unfold Az at h ⊢
 split at h
 ·rename_i hz
  simp only [hz]
  exact h'
 ·rename_i sz hz
  simp only [hz]
  have hsz:row.length=sz:=by
   rcases h with ⟨h,-,-⟩|⟨g,o,c,te,cs,fps,hv,hn,hc,hb,hlen,hr,rfl⟩
   ·rw [h] at hi; simp at hi
   ·obtain⟨a1,a2,a3,rfl,hl,-,-⟩:=OwnR.split i (Af hi) hr
    rw [List.getElem?_eq_getElem (Af hi)] at hi
    rw [Option.some.inj hi] at hl
    exact hl
  subst hsz
  rw [← hl]
  exact .inr (h'.row_len hi')
theorem S6 {t} {xv} {x} {cs} (hx:VSim γ.vw γ xv x) (hcs:cellsOf xv=some cs) (hlen:cs.length=tsz cx.P t) (hpos:0<tsz cx.P t) (hone:cs.all AV.one=true) (g o:Nat) (cur:Array Value) (e:TypeId) (hg:w.heap[g]? =some (.cells cur e (0,0))) (hfit:o+x.cells.toList.length≤cur.size):
  (Instr.storeAt t (.pointer (some ⟨g,o,none⟩)) x).run cx.P w= .ok () (w.setRow g (cur.toList.take o++x.cells.toList++cur.toList.drop (o+x.cells.toList.length)).toArray):=by
 have hcv:=FB hx hcs
 have hcl:=hcv.length
 have:=run_storeCells_at (P:=cx.P) g o e x.cells.toList 0 cur w hg (by simpa using hfit) (RK hcv hone)
 have hsz:x.cells.size=tsz cx.P t:=by rw [← Array.length_toList]; omega
 simp only [Instr.storeAt,Instr.sureAddr,Sem.run_bind,Sem.run_pure,Result.andThen_ok,storeVar,D0 hpos,Sem.run_ite,hsz,ne_eq,not_true_eq_false,if_false]
 simpa using this
theorem S7 {T} {B} {t} {b off} {xv} {a x} {cs vs} (hs:OSim cx γ T B w) (ha:VSim γ.vw γ (.box b off) a) (hx:VSim γ.vw γ xv x) (hcs:cellsOf xv=some cs) (hlen:cs.length=tsz cx.P t) (hpos:0<tsz cx.P t) (hone:cs.all AV.one=true) (hB:B b=some vs) (hmp:isMp vs=false) (hle:off+cs.length≤vs.length):
  ∃w',(Instr.storeAt t a x).run cx.P w= .ok () w'∧OSim cx γ T (fun x=>if x=b then some (splice vs off cs) else B x) w':=by
 have hcv:=FB hx hcs
 have hcl:=hcv.length
 simp only [VSim] at ha
 obtain⟨hbl,rfl⟩:=ha
 obtain⟨us,h2,h2'⟩:=hs.box b vs hbl hB
 obtain⟨cur,e,h3,h4⟩:=h2'.cells hmp
 obtain⟨hfit,hos⟩:=hs.storeBox hbl hB hmp hone h2 h3 h4 hcv hle (by omega)
 exact⟨_,S6 hx hcs hlen hpos hone _ _ cur e h3 (by have h3:cur.toList.length=cur.size:=Array.length_toList; omega),hos⟩
theorem VB {σ:St} {t:TypeId} {av xv:AV} {a x:Value} {K:St→Prop} (hs:OSim cx γ σ.T σ.B w) (ha:VSim γ.vw γ av a) (hx:VSim γ.vw γ xv x) (h:NS cx.P t av xv σ K):
  ∃w' γ' σ',(Instr.storeAt t a x).run cx.P w= .ok () w'∧K σ'∧Out cx γ σ γ' σ' w':=by
 unfold NS at h
 split at h
 ·rename_i cs hcs
  obtain⟨hlen,hpos,hone,h⟩:=h
  have hcv:=FB hx hcs
  have hcl:=hcv.length
  have hrun:=fun g o cur e h1 h2=>S6 (w:=w) hx hcs hlen hpos hone g o cur e h1 h2
  split at h
  ·rename_i b off
   obtain⟨vs,hB,hmp,hle,hK⟩:=h
   obtain⟨w',hr,hos⟩:=S7 hs ha hx hcs hlen hpos hone hB hmp hle
   refine⟨w',γ,_,hr,hK,Gh.Ext.refl γ,?_,rfl,fun x h=>.inl h,fun x h=>.inl h,fun x h=>h,fun x h=>?_⟩
   ·have e1:(σ.setB b (splice vs off cs)).B =fun x=>if x=b then some (splice vs off cs) else σ.B x:=funext fun x=>St.B_setB σ b _ x
    rw [e1]; exact hos
   ·show (look ((b,_)::σ.b) x).isSome =true
    rw [AL]; split
    ·rfl
    ·exact h
  ·rename_i t' sz i off
   obtain⟨tk0,hT0,h⟩:=h
   obtain⟨ds,σ',fds,⟨tk,row,⟨hT,hzz⟩,hrow,hrl,hle,hK⟩,hle',hov,hnd,hfr,hdl,hin⟩:=Da hs hcv h
   rw [← hzz] at hov
   have hs':=hle'.osim hs
   simp only [VSim] at ha
   obtain⟨htl,g,o,n,c,htv,rfl⟩:=ha
   have hi:=Af hrow
   have hTk:=hs'.tok t' tk htl hT
   have hkill:=StLe.killT σ' t'
   have hs0:=hkill.osim hs'
   have hfk:=Ga hs' htl hT
   have hndt:=hs'.tnd t' tk htl hT
   obtain⟨sz',e,cs',fps,hnl,k1,k2,hb,k3,hr,hfp,hback⟩:=hTk.block htv (fun h0=>by rw [h0] at hi; simp at hi)
   subst hnl
   obtain⟨f1,f2,f3,rfl,hl,hc,hput⟩:=hr.split i hi
   have hrow':tk.rows[i] =row:=by rw [List.getElem?_eq_getElem hi] at hrow; exact Option.some.inj hrow
   rw [hrow'] at hl hc
   have hsz:sz'=sz:=by omega
   subst hsz
   have hdl':ds.length=x.cells.toList.length:=by omega
   have hrow3:row=row.take off++((row.drop off).take ds.length++row.drop (off+ds.length)):=by
    rw [← List.drop_drop,List.take_append_drop,List.take_append_drop]
   rw [hrow3] at hc
   obtain⟨fa,fm',hca,hcm,rfl⟩:=OwnC.of_append.1 hc
   obtain⟨fm,fz,hcm2,hcz,rfl⟩:=OwnC.of_append.1 hcm
   have hta:(row.take off).length =off:=by rw [List.length_take]; omega
   have htm:((row.drop off).take ds.length).length =ds.length:=by rw [List.length_take,List.length_drop]; omega
   rw [hta] at hcm2 hcz
   rw [htm] at hcz
   have hspl:splice row off ds=row.take off++(ds++row.drop (off+ds.length)):=Dy _ _ _ (by omega)
   have hmul:(i+1)*sz'≤tk.rows.length*sz':=Nat.mul_le_mul_right _ hi
   have hmul2:tk.rows.length*sz'≤c*sz':=Nat.mul_le_mul_right _ k1
   have hmul3:(i+1)*sz'=i*sz'+sz':=by rw [Nat.add_mul]; omega
   have hfit:o+i*sz'+off+x.cells.toList.length≤cs'.toArray.size:=by rw [List.size_toArray]; omega
   have hbl:w.heap[g]? =some (.cells cs'.toArray e (0,0)):=hb
   have hsize:(cs'.toArray.toList.take (o+i*sz'+off)++x.cells.toList++cs'.toArray.toList.drop (o+i*sz'+off+x.cells.toList.length)).toArray.size =cs'.toArray.size:=by
    simp at hfit ⊢; omega
   have hch:=Chg.setRow (cs:=(cs'.toArray.toList.take (o+i*sz'+off)++x.cells.toList++cs'.toArray.toList.drop (o+i*sz'+off+x.cells.toList.length)).toArray) hbl hsize
   have hnew:=setRow_heap w g cs'.toArray (cs'.toArray.toList.take (o+i*sz'+off)++x.cells.toList++cs'.toArray.toList.drop (o+i*sz'+off+x.cells.toList.length)).toArray e (0,0) hbl
   have hR:=hrun g (o+i*sz'+off) cs'.toArray e hbl hfit
   have hcells:∀j,(cs'.take (o+i*sz'+off)++x.cells.toList++cs'.drop (o+i*sz'+off+x.cells.toList.length))[j]? =if j<o+i*sz'+off then cs'[j]? else if j<o+i*sz'+off+x.cells.toList.length then x.cells.toList[j - (o+i*sz'+off)]? else cs'[j]? :=fun j=>Ie (by simpa using hfit) j
   have hother:∀k,k≠g→(w.setRow g (cs'.toArray.toList.take (o+i*sz'+off)++x.cells.toList++cs'.toArray.toList.drop (o+i*sz'+off+x.cells.toList.length)).toArray).heap[k]? =w.heap[k]? :=fun k hk=>setRow_other w g k _ hk
   have hl2:(cs'.take (o+i*sz'+off)++x.cells.toList++cs'.drop (o+i*sz'+off+x.cells.toList.length)).length =cs'.length:=by
    simp at hfit ⊢; omega
   simp only [List.toList_toArray] at hR hch hnew hother
   generalize (cs'.take (o+i*sz'+off)++x.cells.toList++cs'.drop (o+i*sz'+off+x.cells.toList.length))=cs2 at*
   rw [hfp] at hndt
   obtain⟨hgn,hndf⟩:=List.nodup_cons.1 hndt
   have hgd:g ∉ fds:=fun hm=>by
    have:=(hfr g hm).t t' tk htl hT
    rw [hfp] at this
    exact this (by simp)
   have hne:∀k ∈ f1++((fa++(fm++fz))++f3),(w.setRow g cs2.toArray).heap[k]? =w.heap[k]? :=fun k hk=>hother k fun e=>hgn (e ▸ hk)
   have hrow2:OwnC (tk.vw γ.vw) (w.setRow g cs2.toArray) cs2 (o+i*sz') (splice row off ds) (fa++(fds++fz)):=by
    rw [hspl]
    refine OwnC.of_append.2 ⟨fa,fds++fz,?_,OwnC.of_append.2 ⟨fds,fz,?_,?_,rfl⟩,rfl⟩
    ·refine(OwnC.keep hca fun k hk=>hne k (by simp [hk])).cells fun j j1 j2=>?_
     rw [hta] at j2
     rw [hcells,if_pos (by omega)]
    ·rw [hta]
     refine DF.cells (DF.keep hov fun k hk=>hother k fun e=>hgd (e ▸ hk)) fun j hj=>?_
     rw [hcells,if_neg (by omega),if_pos (by omega)]
     congr 1; omega
    ·rw [hta]
     refine(OwnC.keep hcz fun k hk=>hne k (by simp [hk])).cells fun j j1 j2=>?_
     rw [hcells,if_neg (by omega),if_neg (by omega)]
   have hrows:=hput (w.setRow g cs2.toArray) cs2 (splice row off ds) (fa++(fds++fz)) (by rw [hspl]; simp; omega) (fun k hk=>hne k (by simp only [List.mem_append] at hk ⊢; rcases hk with hk|hk <;> simp [hk])) (fun j hj=>by
    rcases hj with hj|hj
    ·rw [hcells,if_pos (by omega)]
    ·rw [hcells,if_neg (by omega),if_neg (by omega)]) hrow2
   have htok:=hback (w.setRow g cs2.toArray) cs2 (tk.rows.set i (splice row off ds)) _ (by simp) hnew hl2 hrows (if Dw row off ds=true then tk.gen else tk.gen+1)
   have hs1:=hs0.change hch fun k hk=>by rw [hk]; exact hfk g (by rw [hfp]; simp)
   have hfold:∀k ∈ f1++((fa++(fm++fz))++f3),k ∉ fds:=fun k hk hm=>by
    have:=(hfr k hm).t t' tk htl hT
    rw [hfp] at this
    exact this (by simp only [List.mem_cons]; exact .inr hk)
   have hhd:=hs'.hds t' tk htl hT
   have hkeep:Dw row off ds=true→∀q r,At q (.sl (tk.rows.set i (splice row off ds))) (.sl r)→hdr (w.setRow g cs2.toArray) (γ.tv t') q=γ.hv t' tk.gen q:=fun hfl q r hq=>by
    obtain⟨r',hr'⟩:=At.flatRow hrow (by omega) hspl hfl hq
    rw [← hhd.2.2 q r' hr']
    refine OC (hs'.tok t' tk htl hT).own hr' fun b hbm oo a n c hcell=>?_
    by_cases hbg:b=g
    ·subst hbg
     rw [hb.cell] at hcell
     have hnb:Blk (w.setRow b cs2.toArray) b e cs2:=hnew
     rw [hnb.cell,hcells]
     by_cases h5:oo<o+i*sz'+off
     ·rw [if_pos h5]; exact hcell
     ·rw [if_neg h5]
      by_cases h6:oo<o+i*sz'+off+x.cells.toList.length
      ·exfalso
       simp only [Dw,Bool.and_eq_true] at hfl
       refine PL hcm2 hfl.2 (oo - (o+i*sz'+off)) (by rw [htm]; omega) a n c ?_
       rw [show o+i*sz'+off+(oo - (o+i*sz'+off))=oo from by omega]
       exact hcell
      ·rw [if_neg h6]; exact hcell
    ·unfold World.cell? at hcell ⊢
     rw [hother b hbg]; exact hcell
   have hg1:γ.tl t'→∀k,γ.gl t' k→k≤(if Dw row off ds=true then tk.gen else tk.gen+1):=fun _ k hk=>by
    have:=hhd.2.1 k hk
    split <;> omega
   have hg2:γ.tl t'→γ.gl t' (if Dw row off ds=true then tk.gen else tk.gen+1)→∀q r,At q (.sl (tk.rows.set i (splice row off ds))) (.sl r)→hdr (w.setRow g cs2.toArray) (γ.tv t') q=γ.hv t' (if Dw row off ds=true then tk.gen else tk.gen+1) q:=fun _ hgl q r hq=>by
    by_cases hfl:Dw row off ds=true
    ·rw [if_pos hfl]; exact hkeep hfl q r hq
    ·rw [if_neg hfl] at hgl
     have:=hhd.2.1 _ hgl
     omega
   have hfin:=hs1.putTok (t:=t') (tk:=⟨tk.rows.set i (splice row off ds),tk.sz,(if Dw row off ds=true then tk.gen else tk.gen+1),tk.z⟩) (v:=γ.tv t') (fp:=g::(f1++((fa++(fds++fz))++f3))) (by rw [St.T_killT,if_pos rfl]) (fun _=>rfl) htok ?_ ?_ hg1 hg2
   ·refine⟨_,γ.tok (w.setRow g cs2.toArray) t' (γ.tv t') (g::(f1++((fa++(fds++fz))++f3))) (if Dw row off ds=true then tk.gen else tk.gen+1),σ'.setT t' ⟨tk.rows.set i (splice row off ds),tk.sz,(if Dw row off ds=true then tk.gen else tk.gen+1),tk.z⟩,hR,hK,Gh.tok_ext fun _=>rfl,?_,hle'.s,fun y hy=>?_,fun y hy=>.inl hy,fun y hy=>?_,fun y hy=>by show (look σ'.b y).isSome =true; exact hle'.b y hy⟩
    ·have e1:(σ'.setT t' ⟨tk.rows.set i (splice row off ds),tk.sz,(if Dw row off ds=true then tk.gen else tk.gen+1),tk.z⟩).T =fun x=>if x=t' then some ⟨tk.rows.set i (splice row off ds),tk.sz,(if Dw row off ds=true then tk.gen else tk.gen+1),tk.z⟩ else (σ'.killT t').T x:=funext fun x=>by
      rw [St.T_setT]
      by_cases hx:x=t'
      ·rw [if_pos hx,if_pos hx]
      ·rw [if_neg hx,if_neg hx,St.T_killT,if_neg hx]
     rw [e1]; exact hfin
    ·rcases hy with hy|rfl
     ·exact .inl hy
     ·exact .inl htl
    ·show (look ((t',_)::σ'.t) y).isSome =true
     rw [AL]; split
     ·rfl
     ·exact hle'.t y hy
   · -- nodup
    refine List.nodup_cons.2 ⟨fun hm=>?_,?_⟩
    ·simp only [List.mem_append] at hm
     rcases hm with hm|((hm|hm|hm)|hm)
     ·exact hgn (by simp [hm])
     ·exact hgn (by simp [hm])
     ·exact hgd hm
     ·exact hgn (by simp [hm])
     ·exact hgn (by simp [hm])
    ·have e1:f1++((fa++(fm++fz))++f3)=(f1++fa)++(fm++(fz++f3)):=by simp only [List.append_assoc]
     have e2:f1++((fa++(fds++fz))++f3)=(f1++fa)++(fds++(fz++f3)):=by simp only [List.append_assoc]
     rw [e1] at hndf hfold
     rw [e2]
     exact S5 hndf hnd fun k hk=>⟨fun hm=>hfold k (by simp only [List.mem_append] at hm ⊢; exact .inl hm) hk,fun hm=>hfold k (by simp only [List.mem_append] at hm ⊢; exact .inr (.inr hm)) hk⟩
   ·intro k hk
    have:k=g∨k ∈ f1++((fa++(fm++fz))++f3)∨k ∈ fds:=by
     simp only [List.mem_cons,List.mem_append] at hk ⊢
     rcases hk with h|h|((h|h|h)|h)
     ·exact .inl h
     ·exact .inr (.inl (.inl h))
     ·exact .inr (.inl (.inr (.inl (.inl h))))
     ·exact .inr (.inr h)
     ·exact .inr (.inl (.inr (.inl (.inr (.inr h)))))
     ·exact .inr (.inl (.inr (.inr h)))
    rcases this with rfl|hk|hk
    ·exact hfk k (by rw [hfp]; simp)
    ·exact hfk k (by rw [hfp]; simp only [List.mem_cons]; exact .inr hk)
    ·exact Free.of_le hkill (hfr k hk)
  ·rename_i t' g p sz i off
   obtain⟨ds,σ',fds,⟨rows,hsub,row,hrow,⟨hp0,hrl,hle,hfl⟩,tk,hT,hK⟩,hle',hov,hnd,hfr,hdl,hin⟩:=Da hs hcv h
   have hs':=hle'.osim hs
   simp only [VSim] at ha
   obtain⟨⟨htl,hgl⟩,b,o,n,c,hhv,rfl⟩:=ha
   have hi:=Af hrow
   obtain⟨tk',f1,f2,f3,hT',hg',hat,-,htf,hown,hback⟩:=IP hs'.see htl hsub
   rw [hT] at hT'
   obtain rfl:=Option.some.inj hT'
   have hfl':=hfl
   simp only [Dw,Bool.and_eq_true] at hfl'
   obtain rfl:=VA hov hfl'.1
   have hown0:=hown
   simp only [Own] at hown
   rcases hown with ⟨rfl,-,-⟩|⟨sz',g',o',c',te,cs',fps,hv,hn,hc,hb,hlen2,hr,hf2⟩
   ·simp at hi
   rw [hhv] at hv
   simp only [Value.slice.injEq,Option.some.injEq,Addr.mk.injEq] at hv
   obtain⟨⟨rfl,rfl,-⟩,rfl,rfl⟩:=hv
   have hTk:=hs'.tok t' tk htl hT
   have hkill:=StLe.killT σ' t'
   have hs0:=hkill.osim hs'
   have hfk:=Ga hs' htl hT
   have hndt:=hs'.tnd t' tk htl hT
   obtain⟨a1,a2,a3,hfps,hl,hoc,hput⟩:=hr.split i hi
   have hrow':rows[i] =row:=by rw [List.getElem?_eq_getElem hi] at hrow; exact Option.some.inj hrow
   rw [hrow'] at hl hoc
   have hsz:sz'=sz:=by omega
   subst hsz
   have hdl':ds.length=x.cells.toList.length:=by omega
   have hrow3:row=row.take off++((row.drop off).take ds.length++row.drop (off+ds.length)):=by
    rw [← List.drop_drop,List.take_append_drop,List.take_append_drop]
   rw [hrow3] at hoc
   obtain⟨fa,fm',hca,hcm,rfl⟩:=OwnC.of_append.1 hoc
   obtain⟨fm,fz,hcm2,hcz,rfl⟩:=OwnC.of_append.1 hcm
   have hta:(row.take off).length =off:=by rw [List.length_take]; omega
   have htm:((row.drop off).take ds.length).length =ds.length:=by rw [List.length_take,List.length_drop]; omega
   rw [hta] at hcm2 hcz
   rw [htm] at hcz
   obtain rfl:=U9 hcm2 hfl'.2
   have hspl:splice row off ds=row.take off++(ds++row.drop (off+ds.length)):=Dy _ _ _ (by omega)
   have hmul:(i+1)*sz'≤rows.length*sz':=Nat.mul_le_mul_right _ hi
   have hmul2:rows.length*sz'≤c*sz':=Nat.mul_le_mul_right _ hn
   have hmul3:(i+1)*sz'=i*sz'+sz':=by rw [Nat.add_mul]; omega
   have hfit:o+i*sz'+off+x.cells.toList.length≤cs'.toArray.size:=by rw [List.size_toArray]; omega
   have hbl:w.heap[b]? =some (.cells cs'.toArray te (0,0)):=hb
   have hsize:(cs'.toArray.toList.take (o+i*sz'+off)++x.cells.toList++cs'.toArray.toList.drop (o+i*sz'+off+x.cells.toList.length)).toArray.size =cs'.toArray.size:=by
    simp at hfit ⊢; omega
   have hch:=Chg.setRow (cs:=(cs'.toArray.toList.take (o+i*sz'+off)++x.cells.toList++cs'.toArray.toList.drop (o+i*sz'+off+x.cells.toList.length)).toArray) hbl hsize
   have hnew:=setRow_heap w b cs'.toArray (cs'.toArray.toList.take (o+i*sz'+off)++x.cells.toList++cs'.toArray.toList.drop (o+i*sz'+off+x.cells.toList.length)).toArray te (0,0) hbl
   have hR:=hrun b (o+i*sz'+off) cs'.toArray te hbl hfit
   have hcells:∀j,(cs'.take (o+i*sz'+off)++x.cells.toList++cs'.drop (o+i*sz'+off+x.cells.toList.length))[j]? =if j<o+i*sz'+off then cs'[j]? else if j<o+i*sz'+off+x.cells.toList.length then x.cells.toList[j - (o+i*sz'+off)]? else cs'[j]? :=fun j=>Ie (by simpa using hfit) j
   have hother:∀k,k≠b→(w.setRow b (cs'.toArray.toList.take (o+i*sz'+off)++x.cells.toList++cs'.toArray.toList.drop (o+i*sz'+off+x.cells.toList.length)).toArray).heap[k]? =w.heap[k]? :=fun k hk=>setRow_other w b k _ hk
   have hl2:(cs'.take (o+i*sz'+off)++x.cells.toList++cs'.drop (o+i*sz'+off+x.cells.toList.length)).length =cs'.length:=by
    simp at hfit ⊢; omega
   simp only [List.toList_toArray] at hR hch hnew hother
   generalize (cs'.take (o+i*sz'+off)++x.cells.toList++cs'.drop (o+i*sz'+off+x.cells.toList.length))=cs2 at*
   rw [htf,hf2,hfps] at hndt
   have hbn:b ∉ f1∧b ∉ a1++((fa++([] ++fz))++a3)∧b ∉ f3:=by
    rw [List.nodup_append] at hndt
    obtain⟨n1,n2,n3⟩:=hndt
    rw [List.cons_append] at n2
    obtain⟨n4,-⟩:=List.nodup_cons.1 n2
    exact⟨fun hm=>n3 b hm b (by simp) rfl,fun hm=>n4 (List.mem_append.2 (.inl hm)),fun hm=>n4 (List.mem_append.2 (.inr hm))⟩
   have hne:∀k ∈ a1++((fa++([] ++fz))++a3),(w.setRow b cs2.toArray).heap[k]? =w.heap[k]? :=fun k hk=>hother k fun e=>hbn.2.1 (e ▸ hk)
   have hrow2:OwnC (tk.vw γ.vw) (w.setRow b cs2.toArray) cs2 (o+i*sz') (splice row off ds) (fa++([] ++fz)):=by
    rw [hspl]
    refine OwnC.of_append.2 ⟨fa,[] ++fz,?_,OwnC.of_append.2 ⟨[],fz,?_,?_,rfl⟩,rfl⟩
    ·refine(OwnC.keep hca fun k hk=>hne k (by simp [hk])).cells fun j j1 j2=>?_
     rw [hta] at j2
     rw [hcells,if_pos (by omega)]
    ·rw [hta]
     refine DF.cells (DF.keep (DF.mono (iP (fun h=>by cases h)) hov) fun k hk=>by cases hk) fun j hj=>?_
     rw [hcells,if_neg (by omega),if_pos (by omega)]
     congr 1; omega
    ·rw [hta]
     refine(OwnC.keep hcz fun k hk=>hne k (by simp [hk])).cells fun j j1 j2=>?_
     rw [hcells,if_neg (by omega),if_neg (by omega)]
   have hrows:=hput (w.setRow b cs2.toArray) cs2 (splice row off ds) (fa++([] ++fz)) (by rw [hspl]; simp; omega) (fun k hk=>hne k (by simp only [List.mem_append] at hk ⊢; rcases hk with hk|hk <;> simp [hk])) (fun j hj=>by
    rcases hj with hj|hj
    ·rw [hcells,if_pos (by omega)]
    ·rw [hcells,if_neg (by omega),if_neg (by omega)]) hrow2
   have hown2:Own (tk.vw γ.vw) (w.setRow b cs2.toArray) (.sl (rows.set i (splice row off ds))) (γ.hv t' g p) f2:=by
    simp only [Own]
    refine .inr ⟨sz',b,o,c,te,cs2,_,by rw [List.length_set]; exact hhv,by rw [List.length_set]; exact hn,hc,hnew,by rw [hl2]; exact hlen2,hrows,by rw [hf2,hfps]⟩
   have hputT:=hback (w.setRow b cs2.toArray) _ f2 (fun k hk=>hother k fun e=>by
    rw [e] at hk
    rcases List.mem_append.1 hk with h|h
    ·exact hbn.1 h
    ·exact hbn.2.2 h) hown2
   have htok:=Az.put hp0 hTk hat hputT tk.gen
   have hbt:b ∈ γ.tf t':=by rw [htf,hf2]; simp
   have hs1:=hs0.change hch fun k hk=>by rw [hk]; exact hfk b hbt
   have hhd:=hs'.hds t' tk htl hT
   have hinv:∀q r,At q (.sl (putR p tk.rows (.sl (rows.set i (splice row off ds))))) (.sl r)→∃r',At q (.sl tk.rows) (.sl r'):=fun q r hq=>by
    rw [← (RN hp0 hat _).1] at hq
    rcases At.put_inv hat hq with h|⟨q2,rfl,h⟩
    ·exact h
    ·obtain⟨r',hr'⟩:=At.flatRow hrow (by omega) hspl hfl h
     exact⟨r',hat.trans hr'⟩
   have hkeep:∀q r,At q (.sl (putR p tk.rows (.sl (rows.set i (splice row off ds))))) (.sl r)→hdr (w.setRow b cs2.toArray) (γ.tv t') q=γ.hv t' tk.gen q:=fun q r hq=>by
    obtain⟨r',hr'⟩:=hinv q r hq
    rw [← hhd.2.2 q r' hr']
    refine OC hTk.own hr' fun b' hbm oo a n c hcell=>?_
    by_cases hbg:b'=b
    ·subst hbg
     rw [hb.cell] at hcell
     have hnb:Blk (w.setRow b' cs2.toArray) b' te cs2:=hnew
     rw [hnb.cell,hcells]
     by_cases h5:oo<o+i*sz'+off
     ·rw [if_pos h5]; exact hcell
     ·rw [if_neg h5]
      by_cases h6:oo<o+i*sz'+off+x.cells.toList.length
      ·exfalso
       refine PL hcm2 hfl'.2 (oo - (o+i*sz'+off)) (by rw [htm]; omega) a n c ?_
       rw [show o+i*sz'+off+(oo - (o+i*sz'+off))=oo from by omega]
       exact hcell
      ·rw [if_neg h6]; exact hcell
    ·unfold World.cell? at hcell ⊢
     rw [hother b' hbg]; exact hcell
   have hfin:=hs1.putTok (t:=t') (tk:=⟨putR p tk.rows (.sl (rows.set i (splice row off ds))),tk.sz,tk.gen,tk.z⟩) (v:=γ.tv t') (fp:=f1++(f2++f3)) (by rw [St.T_killT,if_pos rfl]) (fun _=>rfl) htok (by rw [← htf]; exact hs'.tnd t' tk htl hT) (fun k hk=>hfk k (by rw [htf]; exact hk)) (fun _ k hk=>hhd.2.1 k hk) (fun _ _ q r hq=>hkeep q r hq)
   refine⟨_,γ.tok (w.setRow b cs2.toArray) t' (γ.tv t') (f1++(f2++f3)) tk.gen,σ'.setT t' ⟨putR p tk.rows (.sl (rows.set i (splice row off ds))),tk.sz,tk.gen,tk.z⟩,hR,hK,Gh.tok_ext fun _=>rfl,?_,hle'.s,fun y hy=>?_,fun y hy=>.inl hy,fun y hy=>?_,fun y hy=>by show (look σ'.b y).isSome =true; exact hle'.b y hy⟩
   ·have e1:(σ'.setT t' ⟨putR p tk.rows (.sl (rows.set i (splice row off ds))),tk.sz,tk.gen,tk.z⟩).T =fun x=>if x=t' then some ⟨putR p tk.rows (.sl (rows.set i (splice row off ds))),tk.sz,tk.gen,tk.z⟩ else (σ'.killT t').T x:=funext fun x=>by
     rw [St.T_setT]
     by_cases hx:x=t'
     ·rw [if_pos hx,if_pos hx]
     ·rw [if_neg hx,if_neg hx,St.T_killT,if_neg hx]
    rw [e1]; exact hfin
   ·rcases hy with hy|rfl
    ·exact .inl hy
    ·exact .inl htl
   ·show (look ((t',_)::σ'.t) y).isSome =true
    rw [AL]; split
    ·rfl
    ·exact hle'.t y hy
  ·exact h.elim
 ·exact h.elim
end
end Go.Proofs.YtckcfdggbbabfaaGreat.Ab
namespace Go.Proofs.YtckcfdggbbabfaaGreat.Ab
set_option linter.unusedVariables false
set_option linter.unusedSimpArgs false
open Go.RowKit
section
variable {cx:Cx} {γ:Gh} {w:World}
structure Src (z:Bool) (cx:Cx) (γ:Gh) (σ σ':St) (w:World) (sz:Nat) (rows:List (List D)) (v:Value) (fp:List Nat):Prop where
 le:StLe σ σ'
 nd:fp.Nodup
 fr:∀g ∈ fp,Free cx γ σ'.T σ'.B g
 inn:∀g ∈ fp,RL γ σ g
 src:∃a c,v= .slice a rows.length c∧(rows=[] ∨∃g o cs,a=some ⟨g,o,none⟩∧OwnR (zvw z γ.vw) w cs sz 0 rows fp∧cs.length=rows.length*sz∧∀j u,cs[j]? =some u→w.cell? ⟨g,o+j,none⟩=some u)
 emp:rows=[] →fp=[]
theorem WX {z} {σ} {yv} {y} {sz} {K} (hs:OSim cx γ σ.T σ.B w) (hy:VSim γ.vw γ yv y) (h:QO z sz yv σ K):
  ∃rows σ' fp,K rows σ'∧Src z cx γ σ σ' w sz rows y fp:=by
 unfold QO at h
 split at h
 ·simp only [VSim] at hy
  exact⟨[],σ,[],h,StLe.refl σ,List.nodup_nil,by simp,by simp,⟨none,0,hy,.inl rfl⟩,fun _=>rfl⟩
 ·rename_i b n sz'
  obtain⟨vs,hB,rfl,hl,hone,h⟩:=h
  simp only [VSim] at hy
  obtain⟨hbl,hn,rfl⟩:=hy
  obtain⟨us,h1,h2⟩:=hs.box b vs hbl hB
  replace h2:=h2.cells (Ye hone)
  have hul:=h1.length
  obtain⟨ds,σ',fp,hK,hle,hov,hnd,hfr,hdl,hin⟩:=Da hs h1 h
  have hR:OwnR (zvw z γ.vw) w us sz' 0 (CM sz' n ds) fp:=OwnR.of_chunks (by omega) (DF.cells hov fun j _=>by rw [Nat.zero_add])
  refine⟨CM sz' n ds,σ',fp,hK,hle,hnd,hfr,hin,⟨_,n,by rw [CN],.inr ⟨_,_,us,rfl,hR,by rw [CN]; omega,fun j u hu=>h2.cell hu⟩⟩,fun he=>?_⟩
  have hn0:n=0:=by rw [← CN sz' n ds,he]; rfl
  subst hn0
  have:ds=[] :=List.eq_nil_of_length_eq_zero (by omega)
  subst this
  simp only [DF] at hov
  exact hov.2
 ·rename_i rows
  split at h
  ·obtain⟨hf,h⟩:=h
   simp only [VSim,Rep] at hy
   obtain⟨a,c,rfl,h1,h2,h3⟩:=hy
   refine⟨rows,σ,[],h,StLe.refl σ,List.nodup_nil,by simp,by simp,⟨a,c,rfl,?_⟩,fun _=>rfl⟩
   rcases h3 with h3|⟨sz',b,off,ha,hR⟩
   ·exact .inl h3
   ·by_cases he:rows=[]
    ·exact .inl he
    ·have hsz:sz'=sz:=by
      have h0:0<rows.length:=List.length_pos_iff.2 he
      have:=(hR.at 0 h0).1
      have h4:=(hf rows[0] (List.getElem_mem h0)).1
      omega
     subst hsz
     obtain⟨us,k1,k2,k3⟩:=PK (RepR.keep hs.vw.k sz' b off rows hR) fun x hx=>(hf x hx).2
     exact .inr ⟨b,off,us,ha,k2,k1,k3⟩
  ·obtain⟨hf,h⟩:=h
   simp only [VSim,Rep] at hy
   obtain⟨a,c,rfl,h1,h2,h3⟩:=hy
   have hl:(fzR rows).length =rows.length:=by rw [fzR,List.length_map]
   refine⟨fzR rows,σ,[],h,StLe.refl σ,List.nodup_nil,by simp,by simp,⟨a,c,by rw [hl],?_⟩,fun _=>rfl⟩
   rcases h3 with h3|⟨sz',b,off,ha,hR⟩
   ·exact .inl (by rw [h3]; rfl)
   ·by_cases he:rows=[]
    ·exact .inl (by rw [he]; rfl)
    ·have hsz:sz'=sz:=by
      have h0:0<rows.length:=List.length_pos_iff.2 he
      have:=(hR.at 0 h0).1
      have h4:=(hf rows[0] (List.getElem_mem h0)).1
      omega
     subst hsz
     obtain⟨us,k1,k2,k3⟩:=To hs.vw.k hR fun x hx=>(hf x hx).2
     exact .inr ⟨b,off,us,ha,k2 us 0 fun j _=>by rw [Nat.zero_add],by rw [hl]; exact k1,k3⟩
 ·rename_i t
  obtain⟨tk,hT,⟨hf,hzk⟩,h⟩:=h
  simp only [VSim] at hy
  obtain⟨⟨htl,-⟩,rfl⟩:=hy
  have hown:=Own.mono (RM hzk) (hs.tok t tk htl hT).own
  simp only [Own] at hown
  rcases hown with ⟨he,⟨a,c,hv,-⟩,hfp⟩|⟨sz',g,o,c,e,cs,fps,hv,h1,h2,hb,h3,hr,hfp⟩
  ·refine⟨tk.rows,σ.killT t,[],h,StLe.killT σ t,List.nodup_nil,by simp,by simp,⟨a,c,by rw [hv,he]; rfl,.inl he⟩,fun _=>rfl⟩
  ·by_cases he:tk.rows=[]
   ·refine⟨tk.rows,σ.killT t,[],h,StLe.killT σ t,List.nodup_nil,by simp,by simp,⟨_,c,hv,.inl he⟩,fun _=>rfl⟩
   ·have hsz:sz'=sz:=by
     have h0:0<tk.rows.length:=List.length_pos_iff.2 he
     obtain⟨_,_,_,_,h4,-⟩:=hr.split 0 h0
     have h5:=hf tk.rows[0] (List.getElem_mem h0)
     omega
    subst hsz
    have hmul:tk.rows.length*sz'≤c*sz':=Nat.mul_le_mul_right _ h1
    have hnd:=hs.tnd t tk htl hT
    rw [hfp] at hnd
    have hin:∀g' ∈ fps,g' ∈ γ.tf t:=fun g' hg'=>by rw [hfp]; exact List.mem_cons_of_mem _ hg'
    refine⟨tk.rows,σ.killT t,fps,h,StLe.killT σ t,(List.nodup_cons.1 hnd).2,fun g' hg'=>Ga hs htl hT g' (hin g' hg'),fun g' hg'=>.inl ⟨t,tk,htl,hT,hin g' hg'⟩,⟨_,c,hv,.inr ⟨g,o,(cs.drop o).take (tk.rows.length*sz'),rfl,OwnR.shift hr fun i hi=>?_,?_,fun j u hu=>?_⟩⟩,fun h=>absurd h he⟩
    ·rw [Nat.zero_add,List.getElem?_take_of_lt hi,List.getElem?_drop]
    ·rw [List.length_take,List.length_drop]; omega
    ·rw [hb.cell]
     have hj:=Af hu
     rw [List.length_take] at hj
     rw [List.getElem?_take_of_lt (by omega),List.getElem?_drop] at hu
     exact hu
 ·exact h.elim
theorem WY {z} {σ} {xv} {x} {e} {sz} {K} (hs:OSim cx γ σ.T σ.B w) (hx:VSim γ.vw γ xv x) (h:Qz z e sz xv σ K):
  ∃rows σ' fp,K rows σ'∧StLe σ σ'∧Az γ.vw w ⟨rows,some sz,0,z⟩ x fp∧fp.Nodup∧(∀g ∈ fp,Free cx γ σ'.T σ'.B g):=by
 unfold Qz at h
 split at h
 ·simp only [VSim] at hx
  exact⟨[],σ,[],h,StLe.refl σ,.inl ⟨rfl,⟨none,hx⟩,rfl⟩,List.nodup_nil,by simp⟩
 ·simp only [VSim] at hx
  split at h
  ·rename_i hn0
   subst hn0
   exact⟨[],σ,[],h,StLe.refl σ,.inl ⟨rfl,⟨_,hx.2.2⟩,rfl⟩,List.nodup_nil,by simp⟩
  ·obtain⟨rfl,h⟩:=h
   obtain⟨rows,f0,h,hok,hnd,hfr,hnm⟩:=S4 hs hx.1 hx.2.1 h
   exact⟨rows,_,f0,h,StLe.killB σ _,by rw [hx.2.2]; exact hok,hnd,hfr⟩
 ·rename_i t
  obtain⟨tk,hT,⟨hap,hzk⟩,h⟩:=h
  simp only [VSim] at hx
  obtain⟨⟨htl,-⟩,rfl⟩:=hx
  have hfr:=Ga hs htl hT
  refine⟨tk.rows,σ.killT t,γ.tf t,h,StLe.killT σ t,?_,hs.tnd t tk htl hT,hfr⟩
  have:=hs.tok t tk htl hT
  have hm:=RM (V:=γ.vw) hzk
  obtain⟨r,ap,k,zz⟩:=tk
  simp only at hap
  subst hap
  exact Qv.mono hm this
 ·exact h.elim
theorem Chg.mono {w w'} {W W'} (h:Chg w w' W) (hs:∀g,W g→W' g):Chg w w' W':=⟨h.os,h.tape,h.output,h.size,fun k hk hn=>h.block k hk fun hw=>hn (hs k hw),h.shape⟩
theorem PM {P} (w:World) (t ty e e':TypeId) (i:TypeInfo) (ht:P.underlying t=some (.slice e)) (hi:P.info? e=some i)
  (g o sLen sCap:Nat) (cur:Array Value) (hg:w.heap[g]? =some (.cells cur e' (0,0)))
  (a:Addr) (m c:Nat) (news:List Value) (hl:news.length=m*i.size) (hnews:∀j u,news[j]? =some u→w.cell? (a.add j)=some u) (h1:∀u ∈ news,u.oneCell'=true)
  (hroom:sLen+m≤sCap) (hfit:o+sLen*i.size+news.length≤cur.size):
  (Builtin.append_ #[t,t] ty #[.slice (some ⟨g,o,none⟩) sLen sCap,.slice (some a) m c]).run P w=
   .ok (.slice (some ⟨g,o,none⟩) (sLen+m) sCap) (w.setRow g (cur.toList.take (o+sLen*i.size)++news++cur.toList.drop (o+sLen*i.size+news.length)).toArray):=by
 have hf:=run_firstCells_some (P:=P) w i.size m a m c news hl hnews
 have hst:=run_storeCells_at P g (o+sLen*i.size) e' news 0 cur w hg (by simpa using hfit) h1
 simp only [Nat.add_zero] at hst
 simp [Builtin.append_,run_underlying ht,sizeOf,typeInfo,hi,Builtin.lenOf,hroom,hf,Addr.add_lit,hst]
theorem cT {z} {V w} {P} {t ty e} {sz} (ht:ti P t= .sl e) (hsz:0<sz) (htsz:tsz P e=sz) (htz:(tz P e).length =sz)
  {rows rows2} {x y} {fp fp2} (hx:Az V w ⟨rows,some sz,0,z⟩ x fp) (hnd:fp.Nodup) (hnd2:fp2.Nodup)
  {a} {c} (hy:y= .slice a rows2.length c) (hsrc:rows2=[] ∨∃g o cs2,a=some ⟨g,o,none⟩∧OwnR (zvw z V) w cs2 sz 0 rows2 fp2∧cs2.length=rows2.length*sz∧∀j u,cs2[j]? =some u→w.cell? ⟨g,o+j,none⟩=some u)
  (hd:∀g ∈ fp,g ∉ fp2) (hb:(rows.length+rows2.length)*P.bytesOf e≤140737488355328) (hm:rows.length+rows2.length≤maxLen):
  ∃v' w' fp',(Builtin.append_ #[t,t] ty #[x,y]).run P w= .ok v' w'∧Az V w' ⟨rows++rows2,some sz,0,z⟩ v' fp'∧fp'.Nodup∧Chg w w' (· ∈ fp)∧∀g ∈ fp',g ∈ fp∨g ∈ fp2∨w.heap.size≤g:=by
 have hu:=Hs ht
 obtain⟨i,hi,his⟩:=Lk (P:=P) (t:=e) (by omega)
 have hzero:∃z,i.zero=some z∧z.cells.size=sz:=by
  unfold tz at htz
  simp only [hi,Option.bind_some] at htz
  cases hzz:i.zero with
  |none=>simp [hzz] at htz; omega
  |some z=>exact⟨z,rfl,by simpa [hzz] using htz⟩
 obtain⟨z0,hz,hzs⟩:=hzero
 have hby:P.bytesOf e=i.bytes:=by simp [Program.bytesOf,hi]
 rw [hby] at hb
 have his':i.size=sz:=by omega
 have hmax:rows.length+rows2.length≤9223372036854775807:=by unfold maxLen at hm; omega
 subst hy
 by_cases he:rows2=[]
 ·subst he
  have hrun:∀base n cap,n≤cap→(base=none→n=0)→(Builtin.append_ #[t,t] ty #[.slice base n cap,.slice a 0 c]).run P w= .ok (.slice base n cap) w:=by
   intro base n cap hle hb0
   cases base <;> cases a <;> simp [Builtin.append_,run_underlying hu,sizeOf,typeInfo,hi,Builtin.lenOf,Builtin.firstCells,loadCells,loadCellsFrom,hle,storeCells]
  refine⟨x,w,fp,?_,by rw [List.append_nil]; exact hx,hnd,Chg.refl _ _,fun g hg=>.inl hg⟩
  rcases hx with ⟨-,⟨a0,rfl⟩,-⟩|⟨g,o,cap,e1,cs,fps,rfl,h1,-⟩
  ·exact hrun a0 0 0 (Nat.le_refl _) (fun _=>rfl)
  ·exact hrun _ _ _ h1 (fun h=>by cases h)
 ·rcases hsrc with h|⟨g2,o2,cs2,rfl,hR2,hl2,hc2⟩
  ·exact absurd h he
  ·have hpos:0<rows2.length:=List.length_pos_iff.2 he
   have hc2':∀j u,cs2[j]? =some u→w.cell? ((⟨g2,o2,none⟩:Addr).add j)=some u:=fun j u hu=>by rw [Addr.add_lit]; exact hc2 j u hu
   have hone:∀u ∈ cs2,u.oneCell'=true:=fun u hu=>by
    obtain⟨j,hj,rfl⟩:=List.getElem_of_mem hu
    exact OwnR.one hR2 j _ (by omega) (by rw [Nat.zero_add]; exact List.getElem?_eq_getElem hj)
   have hlt2:=OwnR.lt hR2
   rcases hx with ⟨hr,⟨a0,rfl⟩,rfl⟩|⟨g,o,cap,e1,cs,fps,rfl,h1,h2,hblk,h3,hR,rfl⟩
   ·simp only at hr
    subst hr
    cases a0 with
    |some p=>
     have hr:=run_append_grow (P:=P) w t ty e i z0 hu hi hz p 0 0 [] (by simp) (by simp) ⟨g2,o2,none⟩ rows2.length c cs2 (by rw [his']; exact hl2) hc2' (by omega) (by omega) (growslice_fits (by omega) (by simpa using hb))
     have hge:=grownCap_ge w (0+rows2.length) 0 e
     obtain⟨k1,k2,k3⟩:=OI (V:=V) (e:=e) hR2 hl2 (zs:=(Builtin.zeroCells z0.cells (grownCap w (0+rows2.length) 0 e - (0+rows2.length))).toList) (cap:=grownCap w (0+rows2.length) 0 e) (n:=0+rows2.length) (by rw [Array.length_toList,size_zeroCells,hzs]; simp) (by omega) (by omega) (grownCap_le_maxLen w _ 0 e (by omega)) hnd2 (arr:=([] :List Value).toArray ++cs2.toArray++Builtin.zeroCells z0.cells (grownCap w (0+rows2.length) 0 e - (0+rows2.length))) (by simp)
     refine⟨_,_,_,hr,by simpa using k1,k2,Chg.below k3 _,fun g hg=>?_⟩
     rcases List.mem_cons.1 hg with rfl|hg
     ·exact .inr (.inr (Nat.le_refl _))
     ·exact .inr (.inl hg)
    |none=>
     simp only [List.length_nil,Nat.zero_add] at hb hm hmax
     have hr:=run_append_nil (P:=P) w t ty e i z0 hu hi hz ⟨g2,o2,none⟩ rows2.length c cs2 (by rw [his']; exact hl2) hc2' hpos (by omega) (by omega)
     have hge:=grownCap_ge w rows2.length 0 e
     obtain⟨k1,k2,k3⟩:=OI (V:=V) (e:=e) hR2 hl2 (zs:=(Builtin.zeroCells z0.cells (grownCap w rows2.length 0 e - rows2.length)).toList) (cap:=grownCap w rows2.length 0 e) (by rw [Array.length_toList,size_zeroCells,hzs]) rfl hge (grownCap_le_maxLen w _ 0 e hm) hnd2 (arr:=cs2.toArray++Builtin.zeroCells z0.cells (grownCap w rows2.length 0 e - rows2.length)) (by simp)
     refine⟨_,_,_,hr,by simpa using k1,k2,Chg.below k3 _,fun g hg=>?_⟩
     rcases List.mem_cons.1 hg with rfl|hg
     ·exact .inr (.inr (Nat.le_refl _))
     ·exact .inr (.inl hg)
   ·simp only at h1 h3 hR
    have hmul:rows.length*sz≤cap*sz:=Nat.mul_le_mul_right _ h1
    obtain⟨hg,hnds⟩:=List.nodup_cons.1 hnd
    have hlt:=OwnR.lt hR
    have hndj:(fps++fp2).Nodup :=List.nodup_append.2 ⟨hnds,hnd2,fun u hu v hv e=>hd u (by simp [hu]) (e ▸ hv)⟩
    by_cases hroom:rows.length+rows2.length≤cap
    ·have hmul2:(rows.length+rows2.length)*sz≤cap*sz:=Nat.mul_le_mul_right _ hroom
     rw [Nat.add_mul] at hmul2
     have hfit:o+rows.length*i.size+cs2.length≤cs.toArray.size:=by rw [List.size_toArray,his']; omega
     have hr:=PM (P:=P) w t ty e e1 i hu hi g o rows.length cap cs.toArray hblk ⟨g2,o2,none⟩ rows2.length c cs2 (by rw [his']; exact hl2) hc2' hone hroom hfit
     rw [his'] at hr
     simp only [List.toList_toArray] at hr
     have hsize:(cs.take ((o+rows.length*sz))++cs2++cs.drop ((o+rows.length*sz)+cs2.length)).toArray.size =cs.toArray.size:=by
      rw [List.size_toArray,List.size_toArray,List.length_append,List.length_append,List.length_take,List.length_drop]; omega
     have hch:=Chg.setRow hblk hsize
     have hnew:=setRow_heap w g cs.toArray (cs.take ((o+rows.length*sz))++cs2++cs.drop ((o+rows.length*sz)+cs2.length)).toArray e1 (0,0) hblk
     have hcells:∀j,(cs.take ((o+rows.length*sz))++cs2++cs.drop ((o+rows.length*sz)+cs2.length))[j]? =if j<(o+rows.length*sz) then cs[j]? else if j<(o+rows.length*sz)+cs2.length then cs2[j - (o+rows.length*sz)]? else cs[j]? :=fun j=>Ie (by omega) j
     have hother:∀k,k≠g→(w.setRow g (cs.take ((o+rows.length*sz))++cs2++cs.drop ((o+rows.length*sz)+cs2.length)).toArray).heap[k]? =w.heap[k]? :=fun k hk=>setRow_other w g k _ hk
     rw [List.size_toArray] at hsize
     generalize (cs.take ((o+rows.length*sz))++cs2++cs.drop ((o+rows.length*sz)+cs2.length))=cs' at*
     refine⟨_,_,g::(fps++fp2),hr,.inr ⟨g,o,cap,e1,cs',fps++fp2,by rw [List.length_append],by simpa using hroom,h2,hnew,by rw [hsize,List.size_toArray]; exact h3,?_,rfl⟩,?_,hch.mono fun k hk=>by rw [hk]; simp,fun k hk=>?_⟩
     ·refine OwnR.append (OwnR.shift (OwnR.keep hR fun k hk=>hother k fun e=>hg (e ▸ hk)) fun j hj=>?_) (OwnR.shift (OwnR.keep hR2 fun k hk=>hother k fun e=>hd g (by simp) (e ▸ hk)) fun j hj=>?_)
      ·have hj':j<rows.length*sz:=hj
       rw [hcells,if_pos (by omega)]
      ·have hj':j<rows2.length*sz:=hj
       rw [hcells,if_neg (by omega),if_pos (by omega)]
       congr 1; omega
     ·refine List.nodup_cons.2 ⟨fun hm=>?_,hndj⟩
      rcases List.mem_append.1 hm with hm|hm
      ·exact hg hm
      ·exact hd g (by simp) hm
     ·simp only [List.mem_cons,List.mem_append] at hk ⊢
      rcases hk with h|h|h
      ·exact .inl (.inl h)
      ·exact .inl (.inr h)
      ·exact .inr (.inl h)
    ·have hRt:OwnR (zvw z V) w ((cs.drop o).take (rows.length*sz)) sz 0 rows fps:=OwnR.shift hR fun j hj=>by rw [Nat.zero_add,List.getElem?_take_of_lt hj,List.getElem?_drop]
     have htl:((cs.drop o).take (rows.length*sz)).length =rows.length*sz:=by rw [List.length_take,List.length_drop]; omega
     have hr:=run_append_grow (P:=P) w t ty e i z0 hu hi hz ⟨g,o,none⟩ rows.length cap ((cs.drop o).take (rows.length*sz)) (by rw [his']; exact htl) (fun j u hu=>by
      rw [Addr.add_lit,hblk.cell]
      have hj:=Af hu
      rw [htl] at hj
      rw [List.getElem?_take_of_lt hj,List.getElem?_drop] at hu; exact hu) ⟨g2,o2,none⟩ rows2.length c cs2 (by rw [his']; exact hl2) hc2' (by omega) (by omega) (growslice_fits (by omega) hb)
     have hge:=grownCap_ge w (rows.length+rows2.length) cap e
     have hRj:OwnR (zvw z V) w ((cs.drop o).take (rows.length*sz)++cs2) sz 0 (rows++rows2) (fps++fp2):=by
      refine OwnR.append (OwnR.shift hRt fun j hj=>?_) (OwnR.shift hR2 fun j hj=>?_)
      ·rw [List.getElem?_append_left (by omega)]
      ·rw [List.getElem?_append_right (by omega)]
       congr 1; omega
     obtain⟨k1,k2,k3⟩:=OI (V:=V) (e:=e) hRj (by rw [List.length_append,List.length_append,htl,hl2,Nat.add_mul]) (zs:=(Builtin.zeroCells z0.cells (grownCap w (rows.length+rows2.length) cap e - (rows.length+rows2.length))).toList) (cap:=grownCap w (rows.length+rows2.length) cap e) (by rw [Array.length_toList,size_zeroCells,hzs,List.length_append]) rfl (by rw [List.length_append]; exact hge) (grownCap_le_maxLen w _ cap e hm) hndj (arr:=((cs.drop o).take (rows.length*sz)).toArray ++cs2.toArray++Builtin.zeroCells z0.cells (grownCap w (rows.length+rows2.length) cap e - (rows.length+rows2.length))) (by simp)
     rw [List.length_append] at k1
     refine⟨_,_,_,hr,k1,k2,Chg.below k3 _,fun k hk=>?_⟩
     simp only [List.mem_cons,List.mem_append] at hk ⊢
     rcases hk with h|h|h
     ·exact .inr (.inr (by omega))
     ·exact .inl (.inr h)
     ·exact .inr (.inl h)
theorem Yg {σ} {pos} {t ty} {xv yv} {x y} {K} (hs:OSim cx γ σ.T σ.B w) (hdom:∀z,γ.tl z→(look σ.t z).isSome =true) (hx:VSim γ.vw γ xv x) (hy:VSim γ.vw γ yv y) (h:WP cx.P pos t xv yv σ K):
  ∃v' w' γ' σ' av,(Builtin.append_ #[t,t] ty #[x,y]).run cx.P w= .ok v' w'∧VSim γ'.vw γ' av v'∧K av σ'∧Out cx γ σ γ' σ' w':=by
 unfold WP at h
 split at h
 ·rename_i e hti
  obtain⟨hsz,htz,z,h⟩:=h
  obtain⟨rows,σ1,fp,h,hle1,htok,hnd,hfr⟩:=WY hs hx h
  have hs1:=hle1.osim hs
  obtain⟨rows2,σ2,fp2,⟨hb,hm,hlook,hK⟩,⟨hle2,hnd2,hfr2,hin,⟨a,c,hyv,hsrc⟩,hemp⟩⟩:=WX hs1 hy h
  have hs2:=hle2.osim hs1
  have hd:∀g ∈ fp,g ∉ fp2:=fun g hg hm=>(hfr g hg).not_named (hin g hm)
  obtain⟨v',w',fp',hr,hok,hnd',hch,hfp'⟩:=cT (ty:=ty) hti hsz rfl htz htok hnd hnd2 hyv hsrc hd hb hm
  have hntl:¬γ.tl (pos*16):=fun htl=>by
   have h1:=hdom _ htl
   have h2:=hle2.t _ (hle1.t _ h1)
   rw [hlook] at h2; cases h2
  have hTn:σ2.T (pos*16)=none:=by unfold St.T; rw [hlook]; rfl
  have hs3:=hs2.change hch fun g hg=>Free.of_le hle2 (hfr g hg)
  have hfree:∀g ∈ fp',Free cx γ σ2.T σ2.B g:=fun g hg=>by
   rcases hfp' g hg with h|h|h
   ·exact Free.of_le hle2 (hfr g h)
   ·exact hfr2 g h
   ·refine⟨fun t tk h1 h2 hm=>?_,fun b vs h1 h2 e=>?_,.inl (Nat.le_trans hs.frm.size h),fun o=>Th hs.vw.k h⟩
    ·have:=(hs2.tok t tk h1 h2).lt g hm; omega
    ·obtain⟨us,-,h3⟩:=hs2.box b vs h1 h2
     have:=h3.lt; omega
  have hfin:=hs3.putTok hTn (fun h=>absurd h hntl) hok hnd' hfree (fun h=>absurd h hntl) (fun h=>absurd h hntl)
  have hrep:=hok.rep (hs3.vw.k)
  simp only [Rep] at hrep
  obtain⟨a',c',hv',-⟩:=hrep
  refine⟨v',w',γ.tok w' (pos*16) v' fp' 0,σ2.setT (pos*16) ⟨rows++rows2,some (tsz cx.P e),0,z⟩,.own (pos*16),hr,?_,hK,Gh.tok_ext fun h=>absurd h hntl,?_,hle2.s.trans hle1.s,fun zz hz=>?_,fun zz hz=>.inl hz,fun zz hz=>?_,fun zz hz=>by show (look σ2.b zz).isSome =true; exact hle2.b zz (hle1.b zz hz)⟩
  ·simp only [VSim]
   have e1:(γ.tok w' (pos*16) v' fp' 0).tv (pos*16)=v':=by show (if pos*16=pos*16 then _ else _)=_; rw [if_pos rfl]
   rw [e1]
   exact⟨⟨.inr rfl,a',_,c',hv'⟩,rfl⟩
  ·have e1:(σ2.setT (pos*16) ⟨rows++rows2,some (tsz cx.P e),0,z⟩).T =fun x=>if x=pos*16 then some ⟨rows++rows2,some (tsz cx.P e),0,z⟩ else σ2.T x:=funext fun x=>St.T_setT _ _ _ _
   rw [e1]; exact hfin
  ·rcases hz with hz|rfl
   ·exact .inl hz
   ·refine .inr ?_
    show (look ((_,_)::σ2.t) _).isSome =true
    rw [AL,if_pos rfl]; rfl
  ·show (look ((_,_)::σ2.t) zz).isSome =true
   rw [AL]; split
   ·rfl
   ·exact hle2.t zz (hle1.t zz hz)
 ·exact h.elim
end
end Go.Proofs.YtckcfdggbbabfaaGreat.Ab
