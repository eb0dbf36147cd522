/- The abstract walk, twelfth part. -/
import Derived.Test.YthenkmapmnkelaaGreatDoorAbK
namespace Go.Proofs.YthenkmapmnkelaaGreatDoor.Ab
set_option linter.unusedVariables false
set_option maxHeartbeats 1000000
set_option linter.unusedSimpArgs false
open Go.RowKit
section
variable {cx:Cx} {γ:Gh} {w:World}
structure Src (z:ZK) (cx:Cx) (γ:Gh) (σ σ':St) (w:World) (sz:Nat) (rows:List (List D)) (v:Value) (fp:List Nat):Prop where
 le:StLe σ σ'
 nd:fp.Nodup
 fr:∀g ∈ fp,Free cx γ σ'.T σ'.B g
 inn:∀g ∈ fp,Td γ σ g
 src:∃a c,v= .slice a rows.length c∧(rows=[] ∨∃g o cs,a=some ⟨g,o,none⟩∧OwnR (zvw z γ.vw) w cs sz 0 rows fp∧cs.length=rows.length*sz∧∀j u,cs[j]? =some u→w.cell? ⟨g,o+j,none⟩=some u)
 emp:rows=[] →fp=[]
theorem Zx {z} {σ} {yv} {y} {sz} {K} (hs:OSim cx γ σ.T σ.B w) (hy:VSim γ.vw γ yv y) (h:OF z sz yv σ K):
  ∃rows σ' fp,K rows σ'∧Src z cx γ σ σ' w sz rows y fp:=by
 unfold OF at h
 split at h
 ·simp only [VSim] at hy
  exact⟨[],σ,[],h,StLe.refl σ,List.nodup_nil,by simp,by simp,⟨none,0,hy,.inl rfl⟩,fun _=>rfl⟩
 ·rename_i b n p
  obtain⟨vs,hB,rfl,hl,hone,h⟩:=h
  simp only [VSim] at hy
  obtain⟨hbl,hn,rfl⟩:=hy
  obtain⟨us,h1,h2⟩:=hs.box b vs hbl hB
  replace h2:=h2.cells (dT hone)
  have hul:=h1.length
  obtain⟨ds,σ',fp,hK,hle,hov,J,hfr,hdl,G⟩:=DK hs h1 h
  have C:OwnR (zvw z γ.vw) w us p 0 (BD p n ds) fp:=OwnR.of_chunks (by omega) (DR.cells hov fun j _=>by rw [Nat.zero_add])
  refine⟨BD p n ds,σ',fp,hK,hle,J,hfr,G,⟨_,n,by rw [Bx],.inr ⟨_,_,us,rfl,C,by rw [Bx]; omega,fun j u hu=>h2.cell hu⟩⟩,fun v=>?_⟩
  have hn0:n=0:=by rw [← Bx p n ds,v]; rfl
  simp_all [DR]
 ·rename_i rows
  split at h
  ·obtain⟨Y,h⟩:=h
   simp only [VSim,Rep] at hy
   obtain⟨a,c,rfl,h1,h2,h3⟩:=hy
   refine⟨rows,σ,[],h,StLe.refl σ,List.nodup_nil,by simp,by simp,⟨a,c,rfl,?_⟩,fun _=>rfl⟩
   rcases h3 with h3|⟨p,b,off,ha,C⟩
   ·grind
   ·by_cases v:rows=[]
    ·grind
    ·have q:p=sz:=by
      have U:0<rows.length:=List.length_pos_iff.2 v
      have:=(C.at 0 U).1
      grind
     subst q
     obtain⟨us,k1,k2,k3⟩:=KY (RepR.keep hs.vw.k p b off rows C) fun x hx=>(Y x hx).2
     exact .inr ⟨b,off,us,ha,k2,k1,k3⟩
  ·obtain⟨Y,h⟩:=h
   simp only [VSim,Rep] at hy
   obtain⟨a,c,rfl,h1,h2,h3⟩:=hy
   refine⟨rows,σ,[],h,StLe.refl σ,List.nodup_nil,by simp,by simp,⟨a,c,rfl,?_⟩,fun _=>rfl⟩
   rcases h3 with h3|⟨p,b,off,ha,C⟩
   ·grind
   ·by_cases v:rows=[]
    ·grind
    ·have q:p=sz:=by
      have U:0<rows.length:=List.length_pos_iff.2 v
      have:=(C.at 0 U).1
      grind
     subst q
     obtain⟨us,k1,k2,k3⟩:=KY (RepR.keep hs.vw.k p b off rows C) fun x hx=>(Y x hx).2
     exact .inr ⟨b,off,us,ha,k2,k1,k3⟩
  ·obtain⟨Y,h⟩:=h
   simp only [VSim,Rep] at hy
   obtain⟨a,c,rfl,h1,h2,h3⟩:=hy
   have hl:(fzR rows).length =rows.length:=by rw [fzR,List.length_map]
   refine⟨fzR rows,σ,[],h,StLe.refl σ,List.nodup_nil,by simp,by simp,⟨a,c,by rw [hl],?_⟩,fun _=>rfl⟩
   rcases h3 with h3|⟨p,b,off,ha,C⟩
   ·grind
   ·by_cases v:rows=[]
    ·grind
    ·have q:p=sz:=by
      have U:0<rows.length:=List.length_pos_iff.2 v
      have:=(C.at 0 U).1
      grind
     subst q
     obtain⟨us,k1,k2,k3⟩:=Wh hs.vw.k C fun x hx=>(Y x hx).2
     exact .inr ⟨b,off,us,ha,k2 us 0 fun j _=>by rw [Nat.zero_add],by rw [hl]; exact k1,k3⟩
 ·rename_i t
  obtain⟨tk,hT,⟨Y,hzk⟩,h⟩:=h
  simp only [VSim] at hy
  obtain⟨⟨I,-⟩,rfl⟩:=hy
  have O:=Own.mono (Te hzk) (hs.tok t tk I hT).own
  simp only [Own] at O
  rcases O with ⟨v,⟨a,c,hv,-⟩,hfp⟩|⟨p,g,o,c,e,cs,fps,hv,h1,h2,hb,h3,hr,hfp⟩
  ·refine⟨tk.rows,σ.killT t,[],h,StLe.killT σ t,List.nodup_nil,by simp,by simp,⟨a,c,by rw [hv,v]; rfl,.inl v⟩,fun _=>rfl⟩
  ·by_cases v:tk.rows=[]
   ·refine⟨tk.rows,σ.killT t,[],h,StLe.killT σ t,List.nodup_nil,by simp,by simp,⟨_,c,hv,.inl v⟩,fun _=>rfl⟩
   ·have q:p=sz:=by
     have U:0<tk.rows.length:=List.length_pos_iff.2 v
     obtain⟨_,_,_,_,h4,-⟩:=hr.split 0 U
     grind
    subst q
    have hmul:tk.rows.length*p≤c*p:=Nat.mul_le_mul_right _ h1
    have J:=hs.tnd t tk I hT
    rw [hfp] at J
    have G:∀W ∈ fps,W ∈ γ.tf t:=fun W F=>by rw [hfp]; grind
    refine⟨tk.rows,σ.killT t,fps,h,StLe.killT σ t,(List.nodup_cons.1 J).2,fun W F=>Gr hs I hT W (G W F),fun W F=>.inl ⟨t,tk,I,hT,G W F⟩,⟨_,c,hv,.inr ⟨g,o,(cs.drop o).take (tk.rows.length*p),rfl,OwnR.shift hr fun i hi=>?_,?_,fun j u hu=>?_⟩⟩,fun h=>absurd h v⟩
    ·rw [Nat.zero_add,List.getElem?_take_of_lt hi,List.getElem?_drop]
    ·rw [List.length_take,List.length_drop]; omega
    ·rw [hb.cell]
     grind
 grind
theorem Zy {z} {σ} {xv} {x} {e} {sz} {K} (hs:OSim cx γ σ.T σ.B w) (hx:VSim γ.vw γ xv x) (h:TA z e sz xv σ K):
  ∃rows σ' fp,K rows σ'∧StLe σ σ'∧Ae γ.vw w ⟨rows,some sz,0,z⟩ x fp∧fp.Nodup∧(∀g ∈ fp,Free cx γ σ'.T σ'.B g):=by
 unfold TA at h
 split at h
 ·simp only [VSim] at hx
  exact⟨[],σ,[],h,StLe.refl σ,.inl ⟨rfl,⟨none,hx⟩,rfl⟩,List.nodup_nil,by simp⟩
 ·simp only [VSim] at hx
  split at h
  ·rename_i C
   subst C
   exact⟨[],σ,[],h,StLe.refl σ,.inl ⟨rfl,⟨_,hx.2.2⟩,rfl⟩,List.nodup_nil,by simp⟩
  grind [Vl,StLe.killB]
 ·rename_i t
  obtain⟨tk,q,⟨p,u⟩,h⟩:=h
  simp only [VSim] at hx
  obtain⟨⟨j,-⟩,rfl⟩:=hx
  have v:=Gr hs j q
  refine⟨tk.rows,σ.killT t,γ.tf t,h,StLe.killT σ t,?_,hs.tnd t tk j q,v⟩
  have:=hs.tok t tk j q
  have hm:=Te (V:=γ.vw) u
  obtain⟨r,G,k,F⟩:=tk
  simp only at p
  subst p
  exact SA.mono hm this
 grind
theorem Chg.mono {w w'} {W W'} (h:Chg w w' W) (hs:∀g,W g→W' g):Chg w w' W':=⟨h.os,h.tape,h.output,h.size,fun k hk j=>h.block k hk fun p=>j (hs k p),h.shape⟩
theorem Qn {P} (w:World) (t ty e e':TypeId) (i:TypeInfo) (ht:P.underlying t=some (.slice e)) (hi:P.info? e=some i)
  (g o sLen sCap:Nat) (cur:Array Value) (hg:w.heap[g]? =some (.cells cur e' (0,0)))
  (a:Addr) (m c:Nat) (news:List Value) (hl:news.length=m*i.size) (hnews:∀j u,news[j]? =some u→w.cell? (a.add j)=some u) (h1:∀u ∈ news,u.oneCell'=true)
  (hroom:sLen+m≤sCap) (hfit:o+sLen*i.size+news.length≤cur.size):
  (Builtin.append_ #[t,t] ty #[.slice (some ⟨g,o,none⟩) sLen sCap,.slice (some a) m c]).run P w=
   .ok (.slice (some ⟨g,o,none⟩) (sLen+m) sCap) (w.setRow g (cur.toList.take (o+sLen*i.size)++news++cur.toList.drop (o+sLen*i.size+news.length)).toArray):=by
 have q:=run_firstCells_some (P:=P) w i.size m a m c news hl hnews
 have p:=run_storeCells_at P g (o+sLen*i.size) e' news 0 cur w hg (by omega) h1
 simp only [Nat.add_zero] at p
 simp [Builtin.append_,run_underlying ht,sizeOf,typeInfo,hi,Builtin.lenOf,hroom,q,Addr.add_lit,p]
theorem jZ {z} {V w} {P} {t ty e} {sz} (ht:ti P t= .sl e) (hsz:0<sz) (htsz:tsz P e=sz) (htz:(tz P e).length =sz)
  {rows rows2} {x y} {fp fp2} (hx:Ae V w ⟨rows,some sz,0,z⟩ x fp) (hnd:fp.Nodup) (hnd2:fp2.Nodup)
  {a} {c} (hy:y= .slice a rows2.length c) (hsrc:rows2=[] ∨∃g o cs2,a=some ⟨g,o,none⟩∧OwnR (zvw z V) w cs2 sz 0 rows2 fp2∧cs2.length=rows2.length*sz∧∀j u,cs2[j]? =some u→w.cell? ⟨g,o+j,none⟩=some u)
  (hd:∀g ∈ fp,g ∉ fp2) (hb:(rows.length+rows2.length)*P.bytesOf e≤140737488355328) (hm:rows.length+rows2.length≤maxLen):
  ∃v' w' fp',(Builtin.append_ #[t,t] ty #[x,y]).run P w= .ok v' w'∧Ae V w' ⟨rows++rows2,some sz,0,z⟩ v' fp'∧fp'.Nodup∧Chg w w' (· ∈ fp)∧∀g ∈ fp',g ∈ fp∨g ∈ fp2∨w.heap.size≤g:=by
 have I:=H9 ht
 obtain⟨i,hi,his⟩:=KW (P:=P) (t:=e) (by omega)
 have Y:∃z,i.zero=some z∧z.cells.size=sz:=by
  unfold tz at htz
  simp only [hi,Option.bind_some] at htz
  cases hzz:i.zero with
  |none=>grind
  |some z=>grind
 obtain⟨U,hz,hzs⟩:=Y
 have hby:P.bytesOf e=i.bytes:=by simp [Program.bytesOf,hi]
 rw [hby] at hb
 have q:i.size=sz:=by omega
 have hmax:rows.length+rows2.length≤9223372036854775807:=by grind [maxLen]
 subst hy
 by_cases he:rows2=[]
 ·subst he
  have hrun:∀base n cap,n≤cap→(base=none→n=0)→(Builtin.append_ #[t,t] ty #[.slice base n cap,.slice a 0 c]).run P w= .ok (.slice base n cap) w:=by
   intro base n cap hle hb0
   cases base <;> cases a <;> simp [Builtin.append_,run_underlying I,sizeOf,typeInfo,hi,Builtin.lenOf,Builtin.firstCells,loadCells,loadCellsFrom,hle,storeCells]
  refine⟨x,w,fp,?_,by rw [List.append_nil]; exact hx,hnd,Chg.refl _ _,fun g hg=>.inl hg⟩
  rcases hx with ⟨-,⟨a0,rfl⟩,-⟩|⟨g,o,cap,e1,cs,fps,rfl,h1,-⟩
  ·grind
  grind
 ·rcases hsrc with h|⟨g2,o2,cs2,rfl,hR2,hl2,hc2⟩
  ·grind
  ·have hpos:0<rows2.length:=List.length_pos_iff.2 he
   have G:∀j u,cs2[j]? =some u→w.cell? ((⟨g2,o2,none⟩:Addr).add j)=some u:=fun j u I=>by rw [Addr.add_lit]; grind
   have hone:∀u ∈ cs2,u.oneCell'=true:=fun u I=>by
    grind [List.getElem_of_mem,OwnR.one]
   have hlt2:=OwnR.lt hR2
   rcases hx with ⟨O,⟨a0,rfl⟩,rfl⟩|⟨g,o,cap,e1,cs,fps,rfl,h1,h2,hblk,h3,hR,rfl⟩
   ·simp only at O
    subst O
    cases a0 with
    |some p=>
     have O:=run_append_grow (P:=P) w t ty e i U I hi hz p 0 0 [] (by simp) (by simp) ⟨g2,o2,none⟩ rows2.length c cs2 (by rw [q]; omega) G (by omega) (by omega) (growslice_fits (by omega) (by omega))
     have W:=grownCap_ge w (0+rows2.length) 0 e
     obtain⟨k1,k2,k3⟩:=PR (V:=V) (e:=e) hR2 hl2 (zs:=(Builtin.zeroCells U.cells (grownCap w (0+rows2.length) 0 e - (0+rows2.length))).toList) (cap:=grownCap w (0+rows2.length) 0 e) (n:=0+rows2.length) (by rw [Array.length_toList,size_zeroCells,hzs]; simp) (by omega) (by omega) (grownCap_le_maxLen w _ 0 e (by omega)) hnd2 (arr:=([] :List Value).toArray ++cs2.toArray++Builtin.zeroCells U.cells (grownCap w (0+rows2.length) 0 e - (0+rows2.length))) (by simp)
     grind [Chg.below]
    |none=>
     simp only [List.length_nil,Nat.zero_add] at hb hm hmax
     have O:=run_append_nil (P:=P) w t ty e i U I hi hz ⟨g2,o2,none⟩ rows2.length c cs2 (by rw [q]; omega) G hpos (by omega) (by omega)
     have W:=grownCap_ge w rows2.length 0 e
     obtain⟨k1,k2,k3⟩:=PR (V:=V) (e:=e) hR2 hl2 (zs:=(Builtin.zeroCells U.cells (grownCap w rows2.length 0 e - rows2.length)).toList) (cap:=grownCap w rows2.length 0 e) (by rw [Array.length_toList,size_zeroCells,hzs]) rfl W (grownCap_le_maxLen w _ 0 e hm) hnd2 (arr:=cs2.toArray++Builtin.zeroCells U.cells (grownCap w rows2.length 0 e - rows2.length)) (by simp)
     grind [Chg.below]
   ·simp only at h1 h3 hR
    have hmul:rows.length*sz≤cap*sz:=Nat.mul_le_mul_right _ h1
    obtain⟨hg,hnds⟩:=List.nodup_cons.1 hnd
    have hlt:=OwnR.lt hR
    have hndj:(fps++fp2).Nodup :=List.nodup_append.2 ⟨hnds,hnd2,fun u I v hv e=>hd u (by grind) (e ▸ hv)⟩
    by_cases hroom:rows.length+rows2.length≤cap
    ·have hmul2:(rows.length+rows2.length)*sz≤cap*sz:=Nat.mul_le_mul_right _ hroom
     rw [Nat.add_mul] at hmul2
     have hfit:o+rows.length*i.size+cs2.length≤cs.toArray.size:=by rw [List.size_toArray,q]; omega
     have O:=Qn (P:=P) w t ty e e1 i I hi g o rows.length cap cs.toArray hblk ⟨g2,o2,none⟩ rows2.length c cs2 (by rw [q]; omega) G hone hroom hfit
     rw [q] at O
     simp only [List.toList_toArray] at O
     have C:(cs.take ((o+rows.length*sz))++cs2++cs.drop ((o+rows.length*sz)+cs2.length)).toArray.size =cs.toArray.size:=by
      rw [List.size_toArray,List.size_toArray,List.length_append,List.length_append,List.length_take,List.length_drop]; omega
     have hch:=Chg.setRow hblk C
     have hnew:=setRow_heap w g cs.toArray (cs.take ((o+rows.length*sz))++cs2++cs.drop ((o+rows.length*sz)+cs2.length)).toArray e1 (0,0) hblk
     have J:∀j,(cs.take ((o+rows.length*sz))++cs2++cs.drop ((o+rows.length*sz)+cs2.length))[j]? =if j<(o+rows.length*sz) then cs[j]? else if j<(o+rows.length*sz)+cs2.length then cs2[j - (o+rows.length*sz)]? else cs[j]? :=fun j=>Iq (by omega) j
     have F:∀k,k≠g→(w.setRow g (cs.take ((o+rows.length*sz))++cs2++cs.drop ((o+rows.length*sz)+cs2.length)).toArray).heap[k]? =w.heap[k]? :=fun k hk=>setRow_other w g k _ hk
     rw [List.size_toArray] at C
     generalize (cs.take ((o+rows.length*sz))++cs2++cs.drop ((o+rows.length*sz)+cs2.length))=cs' at*
     refine⟨_,_,g::(fps++fp2),O,.inr ⟨g,o,cap,e1,cs',fps++fp2,by rw [List.length_append],by grind,h2,hnew,by rw [C,List.size_toArray]; exact h3,?_,rfl⟩,?_,hch.mono fun k hk=>by rw [hk]; simp,fun k hk=>?_⟩
     ·refine OwnR.append (OwnR.shift (OwnR.keep hR fun k hk=>F k fun e=>hg (e ▸ hk)) fun j hj=>?_) (OwnR.shift (OwnR.keep hR2 fun k hk=>F k fun e=>hd g (by simp) (e ▸ hk)) fun j hj=>?_)
      ·have hj':j<rows.length*sz:=hj
       rw [J,if_pos (by omega)]
      grind
     ·grind
     grind
    ·have hRt:OwnR (zvw z V) w ((cs.drop o).take (rows.length*sz)) sz 0 rows fps:=OwnR.shift hR fun j hj=>by rw [Nat.zero_add,List.getElem?_take_of_lt hj,List.getElem?_drop]
     have htl:((cs.drop o).take (rows.length*sz)).length =rows.length*sz:=by rw [List.length_take,List.length_drop]; omega
     have O:=run_append_grow (P:=P) w t ty e i U I hi hz ⟨g,o,none⟩ rows.length cap ((cs.drop o).take (rows.length*sz)) (by rw [q]; omega) (fun j u I=>by
      rw [Addr.add_lit,hblk.cell]
      grind) ⟨g2,o2,none⟩ rows2.length c cs2 (by rw [q]; omega) G (by omega) (by omega) (growslice_fits (by omega) hb)
     have W:=grownCap_ge w (rows.length+rows2.length) cap e
     have hRj:OwnR (zvw z V) w ((cs.drop o).take (rows.length*sz)++cs2) sz 0 (rows++rows2) (fps++fp2):=by
      grind [OwnR.append,OwnR.shift]
     obtain⟨k1,k2,k3⟩:=PR (V:=V) (e:=e) hRj (by rw [List.length_append,List.length_append,htl,hl2,Nat.add_mul]) (zs:=(Builtin.zeroCells U.cells (grownCap w (rows.length+rows2.length) cap e - (rows.length+rows2.length))).toList) (cap:=grownCap w (rows.length+rows2.length) cap e) (by rw [Array.length_toList,size_zeroCells,hzs,List.length_append]) rfl (by rw [List.length_append]; omega) (grownCap_le_maxLen w _ cap e hm) hndj (arr:=((cs.drop o).take (rows.length*sz)).toArray ++cs2.toArray++Builtin.zeroCells U.cells (grownCap w (rows.length+rows2.length) cap e - (rows.length+rows2.length))) (by simp)
     rw [List.length_append] at k1
     grind [Chg.below]
theorem dU {σ} {pos} {t ty} {xv yv} {x y} {K} (hs:OSim cx γ σ.T σ.B w) (hdom:∀z,γ.tl z→(look σ.t z).isSome =true) (hx:VSim γ.vw γ xv x) (hy:VSim γ.vw γ yv y) (h:Zl cx.P pos t xv yv σ K):
  ∃F w' γ' σ' av,(Builtin.append_ #[t,t] ty #[x,y]).run cx.P w= .ok F w'∧VSim γ'.vw γ' av F∧K av σ'∧Out cx γ σ γ' σ' w':=by
 unfold Zl at h
 split at h
 ·rename_i e hti
  obtain⟨hsz,htz,z,h⟩:=h
  obtain⟨u,σ1,fp,h,p,W,hnd,hfr⟩:=Zy hs hx h
  have hs1:=p.osim hs
  obtain⟨rows2,σ2,fp2,⟨hb,hm,G,hK⟩,⟨j,hnd2,hfr2,hin,⟨a,c,hyv,hsrc⟩,hemp⟩⟩:=Zx hs1 hy h
  have O:=j.osim hs1
  have hd:∀g ∈ fp,g ∉ fp2:=fun g hg hm=>(hfr g hg).not_named (hin g hm)
  obtain⟨F,w',I,hr,hok,U,hch,Y⟩:=jZ (ty:=ty) hti hsz rfl htz W hnd hnd2 hyv hsrc hd hb hm
  have q:¬γ.tl (pos*16):=fun htl=>by
   have h1:=hdom _ htl
   have h2:=j.t _ (p.t _ h1)
   rw [G] at h2; cases h2
  have hTn:σ2.T (pos*16)=none:=by grind [St.T]
  have hs3:=O.change hch fun g hg=>Free.of_le j (hfr g hg)
  have J:∀g ∈ I,Free cx γ σ2.T σ2.B g:=fun g hg=>by
   rcases Y g hg with h|h|h
   ·grind [Free.of_le]
   ·grind
   ·refine⟨fun t tk h1 h2 hm=>?_,fun b vs h1 h2 e=>?_,.inl (Nat.le_trans hs.frm.size h),fun o=>WZ hs.vw.k h⟩
    ·have:=(O.tok t tk h1 h2).lt g hm; omega
    ·obtain⟨us,-,h3⟩:=O.box b vs h1 h2
     have:=h3.lt; omega
  have hfin:=hs3.putTok hTn (fun h=>absurd h q) hok U J (fun h=>absurd h q) (fun h=>absurd h q)
  have C:=hok.rep (hs3.vw.k)
  simp only [Rep] at C
  obtain⟨a',c',hv',-⟩:=C
  refine⟨F,w',γ.tok w' (pos*16) F I 0,σ2.setT (pos*16) ⟨u++rows2,some (tsz cx.P e),0,z⟩,.own (pos*16),hr,?_,hK,Gh.tok_ext fun h=>absurd h q,?_,j.s.trans p.s,fun v hz=>?_,fun v hz=>.inl hz,fun v hz=>?_,fun v hz=>by show (look σ2.b v).isSome =true; exact j.b v (p.b v hz)⟩
  ·simp only [VSim]
   have e1:(γ.tok w' (pos*16) F I 0).tv (pos*16)=F:=by show (if pos*16=pos*16 then _ else _)=_; rw [if_pos rfl]
   rw [e1]
   exact⟨⟨.inr rfl,a',_,c',hv'⟩,rfl⟩
  ·have e1:(σ2.setT (pos*16) ⟨u++rows2,some (tsz cx.P e),0,z⟩).T =fun x=>if x=pos*16 then some ⟨u++rows2,some (tsz cx.P e),0,z⟩ else σ2.T x:=funext fun x=>St.T_setT _ _ _ _
   rw [e1]; exact hfin
  ·rcases hz with hz|rfl
   ·grind
   ·refine .inr ?_
    show (look ((_,_)::σ2.t) _).isSome =true
    rw [AJ,if_pos rfl]; rfl
  ·show (look ((_,_)::σ2.t) v).isSome =true
   rw [AJ]; split
   ·rfl
   ·exact j.t v (p.t v hz)
 grind
end
end Go.Proofs.YthenkmapmnkelaaGreatDoor.Ab
