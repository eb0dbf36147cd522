/- The abstract walk, eighth part. -/
import Derived.Test.YthenkmapmnkelaaGreatDoorAbG
import Derived.Laws.Small
namespace Go.Proofs.YthenkmapmnkelaaGreatDoor.Ab
set_option linter.unusedVariables false
set_option linter.unusedSimpArgs false
open Go.RowKit
mutual
theorem OwnR.shift {V w} {cs cs'} {sz}:∀ {o o'} {xs} {fp},OwnR V w cs sz o xs fp→(∀i,i<xs.length*sz→cs'[o'+i]? =cs[o+i]?)→OwnR V w cs' sz o' xs fp
 |_,_,[],_,h,_=>by grind [OwnR]
 | o,o',x::xs,fp,h,hk=>by
  simp only [OwnR] at h ⊢
  obtain⟨p,v,u,q,j,rfl⟩:=h
  have e:(x::xs).length *sz=sz+xs.length*sz:=by rw [List.length_cons,Nat.add_mul]; omega
  rw [e] at hk
  exact⟨p,v,u,OwnC.shift q fun i h1=>hk i (by omega),OwnR.shift j fun i h1=>by
   have:=hk (sz+i) (by omega)
   simpa [Nat.add_assoc] using this,rfl⟩
theorem OwnC.shift {V w} {cs cs'}:∀ {o o'} {ds} {fp},OwnC V w cs o ds fp→(∀i,i<ds.length→cs'[o'+i]? =cs[o+i]?)→OwnC V w cs' o' ds fp
 |_,_,[],_,h,_=>by grind [OwnC]
 | o,o',d::ds,fp,h,hk=>by
  simp only [OwnC] at h ⊢
  obtain⟨u,v,j,p,ho,q,rfl⟩:=h
  exact⟨u,v,j,by rw [show o'=o'+0 from rfl,hk 0 (by simp)]; exact p,ho,OwnC.shift q fun i h1=>by
   have:=hk (i+1) (by simpa using h1)
   simpa [Nat.add_assoc,Nat.add_comm 1 i] using this,rfl⟩
end
theorem Own.one {V w} {d} {u} {fp} (h:Own V w d u fp):u.oneCell'=true:=by
 cases d with
 |int k n=>simp only [Own] at h; rw [h.1]; rfl
 |bool b=>simp only [Own] at h; rw [h.1]; rfl
 |str s=>simp only [Own] at h; rw [h.1]; rfl
 |sl rows=>
  simp only [Own] at h
  rcases h with ⟨-,⟨a,c,rfl,-⟩,-⟩|⟨_,_,_,_,_,_,_,rfl,-⟩ <;> rfl
 |gone=>grind [Own]
 |fz rows=>simp only [Own,Rep] at h; obtain⟨⟨a,c,rfl,-⟩,-⟩:=h; rfl
 |ptr ds=>simp only [Own,Rep] at h; obtain⟨⟨b,o,rfl,-⟩,-⟩:=h; rfl
 |nilp=>simp only [Own] at h; rw [h.1]; rfl
 |nl=>simp only [Own] at h; obtain⟨⟨a,rfl⟩,-⟩:=h; rfl
theorem OwnC.one {V w} {cs}:∀ {o} {ds} {fp},OwnC V w cs o ds fp→∀j u,j<ds.length→cs[o+j]? =some u→u.oneCell'=true
 |_,[],_,_,j,u,hj,_=>by grind
 |o,d::ds,fp,h,0,u,hj,hu=>by
  grind [OwnC,Own.one]
 |o,d::ds,fp,h,j+1,u,hj,hu=>by
  simp only [OwnC] at h
  obtain⟨C,v,F,q,ho,p,rfl⟩:=h
  exact OwnC.one p j u (by simpa using hj) (by rw [show o+1+j=o+(j+1) from by omega]; exact hu)
theorem OwnR.one {V w} {cs} {sz}:∀ {o} {xs} {fp},OwnR V w cs sz o xs fp→∀j u,j<xs.length*sz→cs[o+j]? =some u→u.oneCell'=true
 |_,[],_,_,j,u,hj,_=>by grind
 |o,x::xs,fp,h,j,u,hj,hu=>by
  simp only [OwnR] at h
  obtain⟨v,F,C,q,p,rfl⟩:=h
  rw [List.length_cons,Nat.add_mul] at hj
  by_cases hlt:j<sz
  ·exact OwnC.one q j u (by omega) hu
  ·exact OwnR.one p (j - sz) u (by omega) (by rw [show o+sz+(j - sz)=o+j from by omega]; exact hu)
theorem ft {V w} {d} {u} (h:Rep w d u) (hf:d.flat=true):Own V w d u [] :=by
 cases d with
 |int k n=>grind [Rep,Own]
 |bool b=>grind [Rep,Own]
 |str s=>grind [Rep,Own]
 |sl rows=>cases hf
 |gone=>cases hf
 |fz rows=>cases hf
 |ptr ds=>cases hf
 |nilp=>grind [Rep,Own]
 |nl=>cases hf
theorem TV {V w} {b}:∀ {off} {ds},RepC w b off ds→(∀d ∈ ds,d.flat=true)→∃us:List Value,us.length=ds.length∧OwnC V w us 0 ds [] ∧∀j u,us[j]? =some u→w.cell? ⟨b,off+j,none⟩=some u
 |_,[],_,_=>⟨[],rfl,by rfl,fun j u h=>by grind⟩
 | off,d::ds,h,hf=>by
  simp only [RepC] at h
  obtain⟨⟨⟨u,v,q⟩,-⟩,h2⟩:=h
  obtain⟨us,h3,p,C⟩:=TV h2 fun d hd=>hf d (by grind)
  refine⟨u::us,by simp [h3],?_,fun j x hx=>?_⟩
  ·simp only [OwnC]
   exact⟨u,[],[],rfl,ft q (hf d (by simp)),OwnC.shift p fun i _=>by grind,rfl⟩
  grind
theorem KY {V w} {b sz}:∀ {off} {xs},RepR w sz b off xs→(∀x ∈ xs,∀d ∈ x,d.flat=true)→∃us:List Value,us.length=xs.length*sz∧OwnR V w us sz 0 xs [] ∧∀j u,us[j]? =some u→w.cell? ⟨b,off+j,none⟩=some u
 |_,[],_,_=>⟨[],by simp,by rfl,fun j u h=>by grind⟩
 | off,x::xs,h,hf=>by
  simp only [RepR] at h
  obtain⟨p,h1,h2⟩:=h
  obtain⟨C,k1,k2,k3⟩:=TV h1 (hf x (by simp))
  obtain⟨q,k4,k5,k6⟩:=KY h2 fun y hy=>hf y (by simp [hy])
  refine⟨C++q,by simp [k1,k4,p,Nat.add_mul]; omega,?_,fun j u F=>?_⟩
  ·simp only [OwnR]
   refine⟨[],[],p,OwnC.shift k2 fun i v=>?_,OwnR.shift k5 fun i v=>?_,rfl⟩
   ·rw [Nat.zero_add,List.getElem?_append_left (by omega)]
   grind
  grind
theorem PR {z} {V w} {e} {sz n cap} {rows} {cs zs} {fp} (hR:OwnR (zvw z V) w cs sz 0 rows fp) (hl:cs.length=rows.length*sz) (hz:zs.length=(cap - rows.length)*sz) (hn:n=rows.length) (hc:rows.length≤cap) (hm:cap≤maxLen) (hnd:fp.Nodup) {arr} (harr:arr.toList=cs++zs):
  Ae V (w.drew.alloc (.cells arr e)) ⟨rows,some sz,0,z⟩ (.slice (some ⟨w.heap.size,0,none⟩) n cap) (w.heap.size::fp)∧(w.heap.size::fp).Nodup ∧Below w.heap.size w (w.drew.alloc (.cells arr e)):=by
 have j:Below w.heap.size w (w.drew.alloc (.cells arr e)):=((Below.refl _ w).drew).alloc (Nat.le_refl _) _
 have p:=OwnR.lt hR
 subst hn
 have q:arr=(cs++zs).toArray :=by rw [← harr]
 subst q
 refine⟨.inr ⟨w.heap.size,0,cap,e,cs++zs,fp,rfl,hc,hm,heap_alloc_new w.drew _,?_,?_,rfl⟩,List.nodup_cons.2 ⟨fun hm=>by grind,hnd⟩,j⟩
 ·rw [List.length_append,hl,hz,← Nat.add_mul,Nat.zero_add]; grind
 ·refine OwnR.shift (OwnR.keep hR fun g hg=>j.block g (p g hg)) fun i u=>?_
  have v:i<rows.length*sz:=u
  rw [List.getElem?_append_left (by omega)]
theorem mP {V w} {d} {u} (h:Rep V d u) (hf:d≠ .gone):Own V w (fz1 d) u [] :=by
 cases d with
 |int k n=>grind [Rep,fz1,Own]
 |bool b=>grind [Rep,fz1,Own]
 |str s=>grind [Rep,fz1,Own]
 |sl rows=>grind [fz1,Own]
 |gone=>grind
 |fz rows=>grind [fz1,Own,Rep]
 |ptr ds=>grind [fz1,Own]
 |nilp=>grind [Rep,fz1,Own]
 |nl=>simp only [Rep] at h; obtain⟨a,h⟩:=h; exact⟨⟨a,0,h,Nat.le_refl _,Nat.zero_le _,.inl rfl⟩,rfl⟩
theorem X5 {V w} (hk:Keeps V w) {b}:∀ {off} {ds},RepC V b off ds→(∀d ∈ ds,d≠ .gone)→∃us:List Value,us.length=ds.length∧(∀cs o,(∀j,j<us.length→cs[o+j]? =us[j]?)→OwnC V w cs o (fzC ds) [])∧∀j u,us[j]? =some u→w.cell? ⟨b,off+j,none⟩=some u
 |_,[],_,_=>⟨[],rfl,fun cs o _=>by rfl,fun j u h=>by grind⟩
 | off,d::ds,h,hf=>by
  simp only [RepC] at h
  obtain⟨⟨⟨u,v,q⟩,-⟩,h2⟩:=h
  obtain⟨us,h3,F,C⟩:=X5 hk h2 fun d hd=>hf d (by simp [hd])
  refine⟨u::us,by simp [h3],fun cs o p=>?_,fun j x hx=>?_⟩
  ·simp only [fzC,List.map_cons,OwnC]
   refine⟨u,[],[],by simpa using p 0 (by simp),mP q (hf d (by simp)),F cs (o+1) fun j hj=>?_,rfl⟩
   have:=p (j+1) (by simpa using hj)
   rw [show o+1+j=o+(j+1) from by omega]; simpa using this
  ·cases j with
   |zero=>simp at hx; subst hx; exact hk _ _ v
   |succ j=>
    have:=C j x (by simpa using hx)
    rw [show off+(j+1)=off+1+j from by omega]; exact this
theorem Wh {V w} (hk:Keeps V w) {b sz}:∀ {off} {rows},RepR V sz b off rows→(∀p ∈ rows,∀d ∈ p,d≠ .gone)→∃us:List Value,us.length=rows.length*sz∧(∀cs o,(∀j,j<us.length→cs[o+j]? =us[j]?)→OwnR V w cs sz o (fzR rows) [])∧∀j u,us[j]? =some u→w.cell? ⟨b,off+j,none⟩=some u
 |_,[],_,_=>⟨[],by simp,fun cs o _=>by rfl,fun j u h=>by grind⟩
 | off,x::xs,h,hf=>by
  simp only [RepR] at h
  obtain⟨G,O,I⟩:=h
  obtain⟨F,k1,k2,k3⟩:=X5 hk O fun d hd=>hf x (by simp) d hd
  obtain⟨J,k4,k5,k6⟩:=Wh hk I fun p q=>hf p (by simp [q])
  refine⟨F++J,by rw [List.length_append,k1,k4,List.length_cons,Nat.add_mul,G]; omega,fun cs o v=>?_,fun j u C=>?_⟩
  ·simp only [fzR,List.map_cons,OwnR]
   refine⟨[],[],by rw [fzC,List.length_map]; exact G,k2 cs o fun j hj=>?_,k5 cs (o+sz) fun j hj=>?_,rfl⟩
   ·rw [v j (by rw [List.length_append]; omega),List.getElem?_append_left hj]
   ·rw [show o+sz+j=o+(sz+j) from by omega,v (sz+j) (by rw [List.length_append]; omega),List.getElem?_append_right (by omega)]
    congr 1; omega
  ·rw [List.getElem?_append] at C
   split at C
   ·exact k3 j u C
   ·have:=k6 _ u C
    rw [show off+sz+(j - F.length)=off+j from by omega] at this
    exact this
theorem Qh {P} {V w} {q} {t ty e} {sz} (ht:ti P t= .sl e) (hsz:0<sz) (htsz:tsz P e=sz) (htz:(tz P e).length =sz) {rows2} {x y} (hx:∃a,x= .slice a 0 0)
  {a} {c} (hy:y= .slice a rows2.length c) (hsrc:rows2=[] ∨∃g2 o2 cs2,a=some ⟨g2,o2,none⟩∧cs2.length=rows2.length*sz∧OwnR (zvw q V) w cs2 sz 0 rows2 [] ∧∀j u,cs2[j]? =some u→w.cell? ⟨g2,o2+j,none⟩=some u) (hb:rows2.length*P.bytesOf e≤140737488355328) (hm:rows2.length≤maxLen):
  ∃v' w' fp',(Builtin.append_ #[t,t] ty #[x,y]).run P w= .ok v' w'∧Ae V w' ⟨rows2,some sz,0,q⟩ v' fp'∧fp'.Nodup∧Below w.heap.size w w'∧∀g ∈ fp',w.heap.size≤g:=by
 have U:=H9 ht
 obtain⟨i,O,his⟩:=KW (P:=P) (t:=e) (by omega)
 have F:∃z,i.zero=some z∧z.cells.size=sz:=by
  unfold tz at htz
  simp only [O,Option.bind_some] at htz
  cases hzz:i.zero with
  |none=>grind
  |some z=>grind
 obtain⟨z,hz,J⟩:=F
 have W:P.bytesOf e=i.bytes:=by simp [Program.bytesOf,O]
 rw [W] at hb
 have C:i.size=sz:=by omega
 have hmax:rows2.length≤9223372036854775807:=by grind [maxLen]
 subst hy
 obtain⟨Y,rfl⟩:=hx
 by_cases he:rows2=[]
 ·subst he
  refine⟨.slice Y 0 0,w,[],?_,Ae.nil ⟨_,rfl⟩,List.nodup_nil,Below.refl _ _,by simp⟩
  cases Y <;> cases a <;> simp [Builtin.append_,run_underlying U,sizeOf,typeInfo,O,Builtin.lenOf,Builtin.firstCells,loadCells,loadCellsFrom,storeCells]
 ·rcases hsrc with h|⟨g2,o2,cs2,rfl,hl2,hR2,hc2⟩
  ·grind
  ·have I:0<rows2.length:=List.length_pos_iff.2 he
   have v:∀j u,cs2[j]? =some u→w.cell? ((⟨g2,o2,none⟩:Addr).add j)=some u:=fun j u U=>by rw [Addr.add_lit]; grind
   cases Y with
   |some p=>
    have hr:=run_append_grow (P:=P) w t ty e i z U O hz p 0 0 [] (by simp) (by simp) ⟨g2,o2,none⟩ rows2.length c cs2 (by rw [C]; omega) v (by omega) (by omega) (growslice_fits (by omega) (by grind))
    have G:=grownCap_ge w (0+rows2.length) 0 e
    obtain⟨k1,k2,k3⟩:=PR (e:=e) hR2 hl2 (zs:=(Builtin.zeroCells z.cells (grownCap w (0+rows2.length) 0 e - (0+rows2.length))).toList) (cap:=grownCap w (0+rows2.length) 0 e) (n:=0+rows2.length) (by rw [Array.length_toList,size_zeroCells,J]; simp) (by omega) (by omega) (grownCap_le_maxLen w _ 0 e (by omega)) List.nodup_nil (arr:=([] :List Value).toArray ++cs2.toArray++Builtin.zeroCells z.cells (grownCap w (0+rows2.length) 0 e - (0+rows2.length))) (by simp)
    grind
   |none=>
    have hr:=run_append_nil (P:=P) w t ty e i z U O hz ⟨g2,o2,none⟩ rows2.length c cs2 (by rw [C]; omega) v I (by omega) (by omega)
    have G:=grownCap_ge w rows2.length 0 e
    obtain⟨k1,k2,k3⟩:=PR (e:=e) hR2 hl2 (zs:=(Builtin.zeroCells z.cells (grownCap w rows2.length 0 e - rows2.length)).toList) (cap:=grownCap w rows2.length 0 e) (by rw [Array.length_toList,size_zeroCells,J]) rfl G (grownCap_le_maxLen w _ 0 e hm) List.nodup_nil (arr:=cs2.toArray++Builtin.zeroCells z.cells (grownCap w rows2.length 0 e - rows2.length)) (by simp)
    grind
theorem fu {P:Program} {V w:World} {t ty e:TypeId} {sz:Nat} (ht:ti P t= .sl e) (hsz:0<sz) (htsz:tsz P e=sz) (htz:(tz P e).length =sz) {rows:List (List D)} {x y:Value} (hx:∃a,x= .slice a 0 0) {z:ZK} {K:List (List D)→Prop}
  (hk:Keeps V w) (hy:Rep V (.sl rows) y) (h:roZ z sz rows fun rows2=>(rows2.length*P.bytesOf e≤140737488355328∧rows2.length≤maxLen)∧K rows2):
  ∃rows2 I w' v,K rows2∧(Builtin.append_ #[t,t] ty #[x,y]).run P w= .ok I w'∧Ae V w' ⟨rows2,some sz,0,z⟩ I v∧v.Nodup∧Below w.heap.size w w'∧∀g ∈ v,w.heap.size≤g:=by
 simp only [Rep] at hy
 obtain⟨a,c,rfl,h1,h2,h3⟩:=hy
 cases z with
 | no =>
  obtain⟨G,⟨J,hm⟩,W⟩:=h
  refine⟨rows,?_⟩
  obtain⟨I,w',v,k⟩:=Qh (V:=V) (q:=.no) (a:=a) (c:=c) (ty:=ty) (w:=w) ht hsz htsz htz (rows2:=rows) hx rfl (by
   rcases h3 with h3|⟨sz',g2,o2,rfl,hR⟩
   ·grind
   ·by_cases he:rows=[]
    ·grind
    ·have u:0<rows.length:=List.length_pos_iff.2 he
     have p:sz'=sz:=by
      have:=(hR.at 0 u).1
      grind
     subst p
     obtain⟨U,O,F,C⟩:=KY (V:=zvw .no V) (RepR.keep hk _ _ _ _ hR) fun x hx=>(G x hx).2
     grind) J hm
  grind
 | nl =>
  obtain⟨G,⟨J,hm⟩,W⟩:=h
  refine⟨rows,?_⟩
  obtain⟨I,w',v,k⟩:=Qh (V:=V) (q:=.nl) (a:=a) (c:=c) (ty:=ty) (w:=w) ht hsz htsz htz (rows2:=rows) hx rfl (by
   rcases h3 with h3|⟨sz',g2,o2,rfl,hR⟩
   ·grind
   ·by_cases he:rows=[]
    ·grind
    ·have u:0<rows.length:=List.length_pos_iff.2 he
     have p:sz'=sz:=by
      have:=(hR.at 0 u).1
      grind
     subst p
     obtain⟨U,O,F,C⟩:=KY (V:=zvw .nl V) (RepR.keep hk _ _ _ _ hR) fun x hx=>(G x hx).2
     grind) J hm
  grind
 | yes=>
  obtain⟨G,⟨J,hm⟩,W⟩:=h
  refine⟨fzR rows,?_⟩
  have Y:(fzR rows).length =rows.length:=by rw [fzR,List.length_map]
  obtain⟨I,w',v,k⟩:=Qh (V:=V) (q:=.yes) (a:=a) (c:=c) (ty:=ty) (w:=w) ht hsz htsz htz (rows2:=fzR rows) hx (by rw [Y]) (by
   rcases h3 with h3|⟨sz',g2,o2,rfl,hR⟩
   ·grind
   ·by_cases he:rows=[]
    ·grind
    ·have u:0<rows.length:=List.length_pos_iff.2 he
     have p:sz'=sz:=by
      have:=(hR.at 0 u).1
      grind
     subst p
     obtain⟨us,O,F,C⟩:=Wh hk hR fun x hx=>(G x hx).2
     exact .inr ⟨g2,o2,us,rfl,by rw [Y]; omega,F us 0 fun j hj=>by rw [Nat.zero_add],C⟩) J hm
  grind
theorem Va {sz} {el}:∀ {n off f} {q},(MN sz el n off)[f]? =some q→q=(off+f*sz,el)
 |0,_,_,_,h=>by grind [MN]
 |n+1,off,0,q,h=>by grind [MN]
 |n+1,off,f+1,q,h=>by
  rw [MN,List.getElem?_cons_succ] at h
  rw [Va h,Nat.succ_mul]
  grind
theorem Vb {k:IntKind}:∀ {vs:List AV} {ns:List Int} {i:Nat} {m:Int},N2 k vs=some ns→ns[i]? =some m→vs[i]? =some (.int k m)
 | [],ns,i,m,h,hm=>by grind [N2]
 | v::vs,ns,i,m,h,hm=>by
  cases v <;> simp only [N2] at h <;> try (cases h; done)
  split at h
  ·rename_i hk
   subst hk
   simp only [Option.map_eq_some_iff] at h
   obtain⟨j,h1,rfl⟩:=h
   cases i with
   |zero=>simp at hm; simp [hm]
   |succ i=>simp only [List.getElem?_cons_succ] at hm ⊢; exact Vb h1 hm
  ·cases h
theorem Vc:∀ {vs:List AV} {ns:List ByteArray} {i:Nat} {m:ByteArray},PI vs=some ns→ns[i]? =some m→vs[i]? =some (.str m)
 | [],ns,i,m,h,hm=>by grind [PI]
 |v::vs,ns,i,m,h,hm=>by
  cases v <;> simp only [PI] at h <;> try (cases h; done)
  simp only [Option.map_eq_some_iff] at h
  obtain⟨j,h1,rfl⟩:=h
  cases i with
  |zero=>simp at hm; simp [hm]
  |succ i=>simp only [List.getElem?_cons_succ] at hm ⊢; exact Vc h1 hm
theorem Zs {P:Program} {w w0:World} {γ:Gh} {t:TypeId} {x i v:AV} {u u':Value} (hx:VSim w0 γ x u) (hi:VSim w0 γ i u') (h:VQ P t x i v):
  ∃r,(Instr.index t u u').run P w= .ok r w∧VSim w0 γ v r:=by
 unfold VQ at h
 split at h
 ·rename_i vs k' k
  split at h
  ·rename_i n G hu
   split at h
   ·rename_i kd O
    obtain⟨q,ns,h1,h2,m,h3,rfl⟩:=h
    simp only [VSim] at hi
    obtain⟨rfl,-⟩:=hi
    have j:=hx
    simp only [VSim] at j
    obtain⟨us,rfl,W⟩:=j
    unfold atI at h3
    split at h3
    ·rename_i I
     have Y:k.toNat<ns.length:=by
      rw [List.getElem?_eq_some_iff] at h3
      grind
     have F:k<(n:Int):=by omega
     obtain⟨u,J,U⟩:=W.get (Vb h1 h3)
     refine⟨u,?_,U⟩
     have C:(sizeOf G).run P w= .ok 1 w:=by rw [C7 (by omega),q]
     have p:(isAgg G).run P w= .ok false w:=Xz (by rw [O]; rfl)
     simp [Instr.index,asIntOf,run_underlying (Wd hu),I,F,C,part,p,J]
    grind
   ·rename_i O
    obtain⟨q,ns,h1,h2,m,h3,rfl⟩:=h
    simp only [VSim] at hi
    obtain⟨rfl,-⟩:=hi
    have j:=hx
    simp only [VSim] at j
    obtain⟨us,rfl,W⟩:=j
    unfold atS at h3
    split at h3
    ·rename_i I
     have Y:k.toNat<ns.length:=by
      rw [List.getElem?_eq_some_iff] at h3
      grind
     have F:k<(n:Int):=by omega
     obtain⟨u,J,U⟩:=W.get (Vc h1 h3)
     refine⟨u,?_,U⟩
     have C:(sizeOf G).run P w= .ok 1 w:=by rw [C7 (by omega),q]
     have p:(isAgg G).run P w= .ok false w:=Xz (by rw [O]; rfl)
     simp [Instr.index,asIntOf,run_underlying (Wd hu),I,F,C,part,p,J]
    grind
   ·rename_i O
    obtain⟨q,rfl,I,h1⟩:=h
    simp only [VSim] at hi
    obtain⟨rfl,-⟩:=hi
    have j:=hx
    simp only [VSim] at j
    obtain⟨us,rfl,W⟩:=j
    have Y:k.toNat<vs.length:=(List.getElem?_eq_some_iff.mp h1).1
    have F:k<(vs.length:Int):=by omega
    obtain⟨u,J,U⟩:=W.get h1
    refine⟨u,?_,U⟩
    have C:(sizeOf G).run P w= .ok 1 w:=by rw [C7 (by omega),q]
    have p:(isAgg G).run P w= .ok false w:=Xz (by rw [O]; rfl)
    simp [Instr.index,asIntOf,run_underlying (Wd hu),I,F,C,part,p,J]
   grind
  grind
 ·rename_i s k' k
  obtain⟨hu,m,h1,rfl⟩:=h
  simp only [VSim] at hx hi
  obtain⟨rfl,-⟩:=hx
  obtain⟨rfl,-⟩:=hi
  unfold atB at h1
  split at h1
  ·rename_i I
   simp only [Option.map_eq_some_iff] at h1
   obtain⟨b,hb,rfl⟩:=h1
   refine⟨.int .u8 b.toNat,by simp_all [Instr.index,asIntOf,run_underlying,Wc],?_⟩
   simp only [VSim,true_and]
   have:=b.toNat_lt
   grind [Lit.wf,IntKind.min,IntKind.max,IntKind.signed,IntKind.bits]
  grind
 grind
theorem Qi {P:Program} {w:World} {k:IntKind} {n:Int} {y:Nat} {c:BoundsCode} (h:0≤n∧n≤y):(Instr.sliceBound (.int k n) y c).run P w= .ok n.toNat w:=by
 simp_all [Instr.sliceBound,asIntOf]
theorem Gq {w0} {γ} {a} {v} {d n} (hv:∀x,a=some x→∃u,v=some u∧VSim w0 γ x u) (hn:a=none→v=none) (h:bndI a d=some n):(v=none∧n=d)∨∃k,v=some (.int k n):=by
 cases a with
 |none=>
  grind [bndI]
 |some x=>
  obtain⟨u,rfl,j⟩:=hv x rfl
  cases x <;> simp only [bndI] at h <;> try (cases h)
  grind [VSim]
theorem LR {P:Program} {w:World} {b:Bool} {len cap:Nat} {l h:Option Value} {i j:Int} (hl:(l=none∧i=0)∨∃k,l=some (.int k i)) (hh:(h=none∧j=len)∨∃k,h=some (.int k j)) (hc:len≤cap) (h0:0≤i∧i≤j∧j≤len):
  (Instr.sliceBounds b len cap l h none).run P w= .ok (i.toNat,j.toNat,cap) w:=by
 have hj:(0:Int)≤j∧j≤cap:=by omega
 have p:(0:Int)≤i∧i≤j.toNat:=by omega
 rcases hl with ⟨rfl,rfl⟩|⟨k,rfl⟩
 ·rcases hh with ⟨rfl,rfl⟩|⟨k',rfl⟩
  ·rfl
  ·simp [Instr.sliceBounds,Qi hj]
 ·rcases hh with ⟨rfl,rfl⟩|⟨k',rfl⟩
  ·simp_all [Instr.sliceBounds,Qi]
  simp_all [Instr.sliceBounds,Qi]
theorem Zt {P:Program} {w w0:World} {γ:Gh} {T:Nat→Option Tok} {B:Nat→Option (List AV)} (hv:VwOk w0 γ T B w) {t:TypeId} {x v:AV} {l h:Option AV} {u:Value} {ul uh:Option Value} (hx:VSim w0 γ x u) (hl:∀y,l=some y→∃z,ul=some z∧VSim w0 γ y z) (hln:l=none→ul=none) (hh:∀y,h=some y→∃z,uh=some z∧VSim w0 γ y z) (hhn:h=none→uh=none) (hs:Wa P T t x l h v):
  ∃r,(Instr.sliceAt t u ul uh none).run P w= .ok r w∧VSim w0 γ v r:=by
 unfold Wa at hs
 split at hs
 ·rename_i m
  obtain⟨tk,U,el,J,⟨F,Y⟩,i,hi,j,hj,r,I,rfl⟩:=hs
  simp only [VSim] at hx
  obtain⟨⟨G,-⟩,rfl⟩:=hx
  have p:=(hv.tok m tk G U).rep hv.keeps
  simp only [Rep] at p
  obtain⟨a,c,C,h1,h2,h3⟩:=p
  unfold cutL at I
  split at I
  ·rename_i W
   have hb:=LR (P:=P) (w:=w) (b:=true) (Gq hl hln hi) (Gq hh hhn hj) h1 W
   have q:=C7 (P:=P) (w:=w) F
   have O:j.toNat - i.toNat=(j - i).toNat :=by omega
   refine⟨.slice (if c=i.toNat then a else a.map (·.add (i.toNat*tsz P el))) (j.toNat - i.toNat) (c - i.toNat),by rw [C]; simp [Instr.sliceAt,Instr.slice,run_underlying (H9 J),hb,q],?_⟩
   grind [VSim]
  grind
 grind
theorem X6 {P:Program} {w w0:World} {γ:Gh} {t:TypeId} {x v:AV} {l h:Option AV} {u:Value} {ul uh:Option Value} (hx:VSim w0 γ x u) (hl:∀y,l=some y→∃z,ul=some z∧VSim w0 γ y z) (hln:l=none→ul=none) (hh:∀y,h=some y→∃z,uh=some z∧VSim w0 γ y z) (hhn:h=none→uh=none) (hs:Qc P t x l h v):
  ∃r,(Instr.sliceAt t u ul uh none).run P w= .ok r w∧VSim w0 γ v r:=by
 unfold Qc at hs
 split at hs
 ·rename_i p
  obtain⟨U,W,⟨I,J⟩,i,O,j,hj,r,C,rfl⟩:=hs
  simp only [VSim,Rep] at hx
  obtain⟨a,c,rfl,h1,h2,h3⟩:=hx
  unfold cutL at C
  split at C
  ·rename_i G
   cases C
   have hb:=LR (P:=P) (w:=w) (b:=true) (Gq hl hln O) (Gq hh hhn hj) h1 G
   have F:=C7 (P:=P) (w:=w) I
   have q:((p.drop i.toNat).take (j - i).toNat).length =j.toNat - i.toNat:=by rw [List.length_take,List.length_drop]; omega
   refine⟨.slice (if c=i.toNat then a else a.map (·.add (i.toNat*tsz P U))) (j.toNat - i.toNat) (c - i.toNat),by simp [Instr.sliceAt,Instr.slice,run_underlying (H9 W),hb,F],?_⟩
   simp only [VSim,Rep]
   refine⟨_,_,by rw [q],by rw [q]; omega,by omega,?_⟩
   by_cases he:j.toNat - i.toNat=0
   ·grind
   ·rcases h3 with h3|⟨sz,b,off,rfl,hR⟩
    ·rw [h3] at G; grind
    ·have Y:0<p.length:=by omega
     have h6:=(hR.at 0 Y).1
     have h7:=J p[0] (List.getElem_mem Y)
     have h8:sz=tsz P U:=by omega
     subst h8
     rw [if_neg (by omega)]
     refine .inr ⟨_,b,off+i.toNat*tsz P U,?_,bZ hR⟩
     grind [Addr.add]
  grind
 ·rename_i s
  obtain⟨W,i,O,j,hj,r,C,rfl⟩:=hs
  simp only [VSim] at hx
  obtain⟨rfl,hm⟩:=hx
  unfold pY at C
  split at C
  ·rename_i G
   cases C
   have hb:=LR (P:=P) (w:=w) (b:=false) (Gq hl hln O) (Gq hh hhn hj) (Nat.le_refl _) G
   refine⟨.string (s.extract i.toNat j.toNat),by simp_all [Instr.sliceAt,Instr.slice,run_underlying,Wc],?_⟩
   grind [VSim,ByteArray.size_extract]
  grind
 grind
theorem be {w} {sz b}:∀ {ns} {off},RepR w sz b off (Hm ns)→∀i,i<ns.length→w.cell? ⟨b,off+i,none⟩=some (.int .u8 (ns.getD i 0))
 | [],_,_,i,hi=>by grind
 | n::ns,off,h,i,hi=>by
  simp only [Hm,List.map_cons,RepR,RepC,Rep,and_true] at h
  obtain⟨q,⟨⟨u,p,j,-⟩,-⟩,h⟩:=h
  obtain rfl:sz=1:=by simpa using q.symm
  cases i with
  |zero=>rw [Nat.add_zero,p,j]; rfl
  |succ i=>
   have:=be (ns:=ns) h i (by simpa using hi)
   rw [show off+(i+1)=off+1+i from by omega,this]
   rfl
theorem dN {P} {w} {s d el} {v} {ns} (h:VSim w Gh.none (.ro (Hm ns)) v) (hm:ns.length≤maxLen) (hs:ti P s= .sl el) (he:ti P el= .int .u8) (hd:ti P d= .str):
  ∃_:Unit,(convert s d v).run P w= .ok (.string (strOfNums ns)) w∧(strOfNums ns).size ≤maxLen:=by
 have q:P.underlying s=some (.slice el):=by unfold ti at hs; split at hs <;> simp_all
 have u:P.underlying d=some .string :=by unfold ti at hd; split at hd <;> simp_all
 have p:=Zr he
 refine⟨(),?_,by rw [strOfNums_size]; exact hm⟩
 simp only [VSim,Rep] at h
 obtain⟨a,c,rfl,-,-,h3⟩:=h
 have j:(Hm ns).length =ns.length:=by simp [Hm]
 rw [j]
 have C:ns=[] →(convert s d (.slice a ns.length c)).run P w= .ok (.string (strOfNums ns)) w:=by
  rintro rfl
  cases a with
  |none=>exact run_convert_bytes_nil w s el q p _ _ d u
  |some a=>
   rw [run_convert_bytes_string w s d el _ _ c q p u]
   rfl
 grind [run_convert_bytes_arg,be]
theorem mQ (u:Value):(zAV u).mp? =false:=by
 unfold zAV
 split <;> first|rfl|(split <;> rfl)
theorem X7 {sz}:∀ {parts} {k} {vs},Du sz k parts=some vs→PD vs=true
 | [],k,vs,h=>by simp only [Du,Option.some.injEq] at h; subst h; rfl
 | (i,x)::parts,k,vs,h=>by
  simp only [Du] at h
  split at h
  ·split at h
   ·rename_i v1 j h1 h2
    split at h
    ·cases h
     rw [fk,TU h1,X7 h2]; rfl
    ·cases h
   ·cases h
  ·cases h
theorem N3 {α:Type} {xs:Array α} {x:α} (h:xs.toList=[x]):xs= #[x] :=by grind
theorem Rh {w0:World} {γ:Gh} {e:Operand→AV} {ρ:Operand→Value} {sz:Nat}:∀ {parts:List (Nat × Operand)} {k:Nat} {vs:List AV},(∀x ∈ parts,VSim w0 γ (e x.2) (ρ x.2))→Du sz k (parts.map fun x=>(x.1,e x.2))=some vs→
  parts.map (fun x=>(x.1,ρ x.2))=((parts.map fun x=>ρ x.2).zipIdx k).map (fun x=>(x.2,x.1))∧(∀x ∈ parts,(ρ x.2).cells.size =sz)∧AH w0 γ vs ((parts.map fun x=>(ρ x.2).cells.toList).flatten)∧vs.length=parts.length*sz
 | [],k,vs,h,hp=>by
  simp only [List.map_nil,Du,Option.some.injEq] at hp
  subst hp
  exact⟨rfl,by simp,by rfl,by simp⟩
 | (i,x)::parts,k,vs,h,hp=>by
  simp only [List.map_cons,Du] at hp
  split at hp
  ·rename_i hk
   subst hk
   cases h1:cellsOf (e x) with
   |none=>grind
   | some v1=>
    cases h2:Du sz (k+1) (parts.map fun x=>(x.1,e x.2)) with
    |none=>grind
    | some v2=>
     simp only [h1,h2] at hp
     split at hp
     ·rename_i q
      simp only [Option.some.injEq] at hp; subst hp
      obtain⟨k1,k2,k3,k4⟩:=Rh (fun y hy=>h y (by grind)) h2
      have j:=Fc (h (k,x) (by simp)) h1
      have p:=j.length
      refine⟨by simp [k1],fun y hy=>?_,by simpa using j.append k3,by grind⟩
      grind
     grind
  grind
def KT.desc:KT→TypeDesc
 | .int k=>.int k
 | .str =>.string
 | .wide _=>.bool
def KT.one:KT→Bool
 | .wide _=>false
 |_=>true
theorem Qj {P} {t} {q} (h:SD P t=some q) (h1:q.one=true):P.underlying t=some q.desc:=by
 unfold SD at h
 split at h
 ·rename_i k hk; cases h; exact Zr hk
 ·rename_i hk; cases h; exact Wc hk
 unfold Zk at h
 split at h
 ·split at h
  ·split at h
   ·cases h; cases h1
   ·cases h
  ·cases h
 ·cases h
theorem bf:∀ {ks} {ds},RZ ks ds=true→isKI ks ds
 | [],[],_=>trivial
 |k::ks,[],h=>by simp [RZ] at h
 | [],d::ds,h=>by simp [RZ] at h
 |k::ks,d::ds,h=>by
  cases d <;> simp only [RZ,Bool.and_eq_true,beq_iff_eq,Bool.false_eq_true] at h
  exact⟨h.1,bf h.2⟩
theorem fv {q} {d} (h:Ux q d=true):isKD q d:=by
 unfold Ux at h
 unfold isKD
 split at h
 ·simpa using h
 ·trivial
 ·exact bf h
 ·cases h
theorem Sz {q} {d} {v} (h:isKD q d) (h1:q.one=true) (hv:G3 d v):GP d v:=by
 cases q <;> cases d <;> simp_all [isKD,G3,KT.one]
theorem X8 {q} {d} {v} (h:isKD q d) (h1:q.one=true) (hv:GP d v):MapKept.IsKey q.desc v:=by
 unfold isKD at h
 split at h
 ·simp only [GP] at hv
  rw [hv.1]; exact h
 ·simp only [GP] at hv
  rw [hv.1]; trivial
 ·cases h1
 ·exact h.elim
theorem X9 {w0} {γ} {d} {v} (h:GP d v):VSim w0 γ (ofD d) v:=by
 cases d <;> simp only [GP] at h <;> simp only [ofD,VSim]
 ·exact h
 ·exact h
 omega
theorem fw {q} {d d'} {v v'} (h1:q.one=true) (h:isKD q d) (h':isKD q d') (hv:GP d v) (hv':GP d' v'):Instr.sameNow q.desc v v'=some (Gp d d')∧(Gp d d'=true→v=v'):=by
 cases q with
 |int k=>
  cases d <;> simp only [isKD] at h
  cases d' <;> simp only [isKD] at h'
  grind [GP,KT.desc,Instr.sameNow,Gp]
 | str=>
  cases d <;> simp only [isKD] at h
  cases d' <;> simp only [isKD] at h'
  rename_i s j
  simp only [GP] at hv hv'
  obtain⟨rfl,-⟩:=hv
  obtain⟨rfl,-⟩:=hv'
  have p:(s.toList == j.toList)=(s == j):=by
   rw [Bool.eq_iff_iff,MapKept.bytes_beq,beq_iff_eq,ByteArray.toList_eq,ByteArray.toList_eq]
   exact⟨fun e=>ByteArray.ext (Array.toList_inj.mp e),fun e=>by rw [e]⟩
  grind [KT.desc,Instr.sameNow,Gp,MapKept.bytes_beq]
 |wide ks=>cases h1
def mpos (k:D):List (List D)→Option Nat
 | [k',_] ::rows=>if Gp k k'=true then some 0 else (mpos k rows).map (· +1)
 |_::rows=>(mpos k rows).map (· +1)
 | [] =>none
theorem PS {q} {r} {e} (h:VP q r e):∃k d,r=[k,d] ∧isKD q k∧G3 k e.1 ∧GP d e.2 :=by
 unfold VP at h
 grind
theorem find_ents {q} {k} {kv} (h1:q.one=true) (hk:isKD q k) (hkv:GP k kv):∀ {rows} {es} {i},Ba q rows (es.map fun e=>(e.key,e.val))→
  (mpos k rows=none∧GQ k rows=none∧Instr.findNow q.desc kv es i=some none)∨
  ∃j e d,mpos k rows=some j∧GQ k rows=some d∧Instr.findNow q.desc kv es i=some (some (i+j,e.val))∧es[j]? =some e∧e.key=kv∧GP d e.val
 | [],es,i,h=>by
  simp only [Ba,List.map_eq_nil_iff] at h
  subst h
  exact .inl ⟨rfl,rfl,rfl⟩
 | r::rows,es,i,h=>by
  simp only [Ba] at h
  obtain⟨J,G,h2,h3,u⟩:=h
  cases es with
  |nil=>simp at h2
  | cons e es=>
   simp only [List.map_cons,List.cons.injEq] at h2
   obtain⟨rfl,rfl⟩:=h2
   obtain⟨I,d,rfl,p,F,v⟩:=PS h3
   obtain⟨hs,C⟩:=fw h1 hk p hkv (Sz p h1 F)
   cases hsd:Gp k I with
   |true=>
    refine .inr ⟨0,e,d,by simp [mpos,hsd],by simp [GQ,hsd],by simp [Instr.findNow,hs,hsd],rfl,(C hsd).symm,v⟩
   |false=>
    rcases find_ents h1 hk hkv (i:=i+1) u with ⟨k1,k2,k3⟩|⟨j,e1,d1,k1,k2,k3,k4,k5,k6⟩
    ·exact .inl ⟨by simp [mpos,hsd,k1],by simp [GQ,hsd,k2],by simp [Instr.findNow,hs,hsd,k3]⟩
    ·exact .inr ⟨j+1,e1,d1,by simp [mpos,hsd,k1],by simp [GQ,hsd,k2],by simp [Instr.findNow,hs,hsd,k3]; omega,by simpa using k4,k5,k6⟩
def litI:List D→List Lit
 | .int k n::ds=>.int k n::litI ds
 |_=>[]
structure WideOk (P:Program) (t:TypeId) (ks:List IntKind) (fs:Array Field):Prop where
 u:P.underlying t=some (.struct fs)
 k:VU P 0 fs.toList=some ks
 a:P.keyTypeAt 2 t=true
 b:P.keyType t=true
 c:P.cellsOf t=ks.length
 s:0<P.types.size
theorem bg {P} {t} {ks} (h:SD P t=some (.wide ks)):∃fs,WideOk P t ks fs:=by
 unfold SD at h
 split at h
 ·cases h
 ·cases h
 unfold Zk at h
 split at h
 ·rename_i fs p
  split at h
  ·rename_i q hk
   split at h
   ·rename_i j
    cases h
    exact⟨fs,p,hk,j.1,j.2.1,j.2.2.1,j.2.2.2⟩
   ·cases h
  ·cases h
 ·cases h
theorem WideOk.deep {P} {t} {ks} {fs} (h:WideOk P t ks fs):(match P.underlying t with|some (.array _ _)|some (.struct _)=>true|_=>false)=true:=by
 rw [h.u]
theorem Qk:∀ {ds} {us},Dh ds us→us.length=ds.length
 | [],us,h=>by simp only [Dh] at h; rw [h]; rfl
 |d::ds,us,h=>by
  cases d <;> simp only [Dh] at h
  obtain⟨j,rfl,-,h2⟩:=h
  simp [Qk h2]
theorem TW:∀ {ks} {ds},isKI ks ds→ds.length=ks.length
 | [],[],_=>rfl
 |k::ks,[],h=>h.elim
 | [],d::ds,h=>by simp [isKI] at h
 |k::ks,d::ds,h=>by
  cases d <;> simp only [isKI] at h
  simp [TW h.2]
theorem Vd {P}:∀ {fs:List Field} {ks} {ds} {us pre:List Value} {m:Nat},VU P pre.length fs=some ks→isKI ks ds→Dh ds us→
  ∃l,fs.mapM (fun f=>P.keyLits (m+1) f.type (((pre++us).drop f.offset).take (P.cellsOf f.type)))=some l∧l.flatten=litI ds
 | [],ks,ds,us,pre,m,h,hk,q=>by
  simp only [VU,Option.some.injEq] at h
  subst h
  cases ds with
  |nil=>exact⟨[],rfl,rfl⟩
  |cons d ds=>simp [isKI] at hk
 | f ::fs,ks,ds,us,pre,m,h,hk,q=>by
  unfold VU at h
  split at h
  ·rename_i k C
   split at h
   ·rename_i v
    simp only [Option.map_eq_some_iff] at h
    obtain⟨F,h1,rfl⟩:=h
    cases ds with
    |nil=>simp [isKI] at hk
    | cons d ds=>
     cases d <;> simp only [isKI] at hk
     rename_i p n
     obtain⟨rfl,hk⟩:=hk
     simp only [Dh] at q
     obtain⟨j,rfl,u,q⟩:=q
     have e:pre++Value.int p n::j=(pre++[Value.int p n])++j:=by simp
     obtain⟨l,h2,h3⟩:=Vd (P:=P) (pre:=pre++[.int p n]) (m:=m) (by rw [List.length_append]; exact h1) hk q
     refine⟨[.int p n] ::l,?_,by simp [litI,h3]⟩
     have hd:((pre++Value.int p n::j).drop f.offset).take (P.cellsOf f.type)=[Value.int p n] :=by
      rw [v.1,v.2,List.drop_left']
      ·rfl
      ·rfl
     rw [List.mapM_cons,hd,e,h2]
     simp [Program.keyLits,C,u]
   ·cases h
  ·cases h
theorem NT {P} {t} {ks} {fs} (h:WideOk P t ks fs) {ds} {us:List Value} (hk:isKI ks ds) (hf:Dh ds us) (m:Nat):P.keyLits (m+2) t us=some (litI ds):=by
 obtain⟨l,h1,h2⟩:=Vd (P:=P) (pre:=[]) (m:=m) h.k hk hf
 have p:fs.all (fun x=>x.name != "_")=true:=by
  have:=h.a
  unfold Program.keyTypeAt at this
  simp only [h.u,Bool.and_eq_true] at this
  have h3:=this.1.1
  rw [Array.all_eq_true] at h3 ⊢
  intro i j
  have:=h3 i j
  simp only [Bool.and_eq_true] at this
  exact this.1
 unfold Program.keyLits
 rw [h.u]
 simp only
 rw [if_pos ⟨by rw [Qk hf,TW hk,h.c],p⟩]
 simp only [List.nil_append] at h1
 rw [h1,Option.map_some,h2]
theorem Ri {P} {t} {ks} {fs} (h:WideOk P t ks fs) {ds} {us:List Value} (hk:isKI ks ds) (hf:Dh ds us):(Value.agg us.toArray).formed P t=true:=by
 unfold Value.formed
 simp [h.u,h.c,Qk hf,TW hk]
theorem TX {P} {t} {ks} {fs} (h:WideOk P t ks fs) {ds} {us:List Value} (hk:isKI ks ds) (hf:Dh ds us):keyOf P t (.agg us.toArray)=some (.string (keyBytes (litI ds))):=by
 obtain⟨s,hs⟩:∃s,P.types.size=s+1:=⟨P.types.size - 1,by have:=h.s; omega⟩
 unfold keyOf
 rw [h.u]
 simp only
 rw [if_pos (by rw [h.b,Ri h hk hf]; rfl),hs]
 show Option.map _ (P.keyLits (s+1+1) t us)=_
 rw [NT h hk hf]
 rfl
theorem Ve:∀ {ks} {ds ds'},isKI ks ds→isKI ks ds'→(litI ds=litI ds'↔Jv ds ds'=true)
 | [],[],[],_,_=>by simp [litI,Jv]
 | [],[],d::ds,_,h=>by simp [isKI] at h
 | [],d::ds,_,h,_=>by simp [isKI] at h
 |k::ks,[],_,h,_=>by simp [isKI] at h
 |k::ks,d::ds,[],_,h=>by simp [isKI] at h
 |k::ks,d::ds,d'::ds',h,h'=>by
  cases d <;> simp only [isKI] at h
  cases d' <;> simp only [isKI] at h'
  have:=Ve h.2 h'.2
  simp only [litI,Jv,List.cons.injEq,Lit.int.injEq,Bool.and_eq_true,beq_iff_eq,decide_eq_true_eq,this]
theorem Vf:∀ {ds ds'} {us us':List Value},Dh ds us→Dh ds' us'→Jv ds ds'=true→us=us'
 | [],[],us,us',h,h',_=>by simp only [Dh] at h h'; rw [h,h']
 | [],d::ds,_,_,_,_,h=>by simp [Jv] at h
 |d::ds,[],_,_,_,_,h=>by cases d <;> simp [Jv] at h
 |d::ds,d'::ds',us,us',h,h',hs=>by
  cases d <;> simp only [Dh] at h
  cases d' <;> simp only [Dh] at h'
  obtain⟨vs,rfl,-,h1⟩:=h
  obtain⟨p,rfl,-,j⟩:=h'
  simp only [Jv,Bool.and_eq_true,beq_iff_eq,decide_eq_true_eq] at hs
  rw [hs.1.1,hs.1.2,Vf h1 j hs.2]
theorem Zu {P} {t} {ks} {fs} {w:World} (h:WideOk P t ks fs) {ds ds'} {us us':List Value} (hk:isKI ks ds) (hf:Dh ds us) (hk':isKI ks ds') (hf':Dh ds' us'):
  (Op.equal t (.agg us.toArray) (.agg us'.toArray)).run P w= .ok (Jv ds ds') w:=by
 obtain⟨r,h1,h2⟩:=run_equal_deep w (m:=2) (by omega) h.a h.deep (TX h hk hf) (TX h hk' hf')
 rw [h1]
 congr 1
 have h3:(Lit.string (keyBytes (litI ds))=Lit.string (keyBytes (litI ds')))↔litI ds=litI ds':=
  ⟨fun e=>keyLits_inj (NT h hk hf 0) (NT h hk' hf' 0) (by simpa using e),fun e=>by rw [e]⟩
 rw [Bool.eq_iff_iff,h2,h3,Ve hk hk']
theorem find_wide {P} {t} {ks} {fs} {w:World} (h:WideOk P t ks fs) {dk} {ku:List Value} (hk:isKI ks dk) (hf:Dh dk ku):∀ {rows} {es:List MapEntry} {i},Ba (.wide ks) rows (es.map fun e=>(e.key,e.val))→
  (mpos (.ptr dk) rows=none∧GQ (.ptr dk) rows=none∧(Instr.findAsking t (.agg ku.toArray) es i).run P w= .ok none w)∨
  ∃j e d,mpos (.ptr dk) rows=some j∧GQ (.ptr dk) rows=some d∧(Instr.findAsking t (.agg ku.toArray) es i).run P w= .ok (some (i+j,e.val)) w∧es[j]? =some e∧e.key= .agg ku.toArray∧GP d e.val
 | [],es,i,hE=>by
  simp only [Ba,List.map_eq_nil_iff] at hE
  subst hE
  exact .inl ⟨rfl,rfl,rfl⟩
 | r::rows,es,i,hE=>by
  simp only [Ba] at hE
  obtain⟨W,J,h2,h3,G⟩:=hE
  cases es with
  |nil=>simp at h2
  | cons e es=>
   simp only [List.map_cons,List.cons.injEq] at h2
   obtain⟨rfl,rfl⟩:=h2
   obtain⟨U,d,rfl,C,q,I⟩:=PS h3
   cases U <;> simp only [isKD] at C
   rename_i u
   simp only [G3] at q
   obtain⟨O,q,F⟩:=q
   have v:=Zu (w:=w) h hk hf C F
   have p:Gp (.ptr dk) (.ptr u)=Jv dk u:=rfl
   cases hsd:Jv dk u with
   |true=>
    rw [hsd] at p v
    refine .inr ⟨0,e,d,by simp [mpos,p],by simp [GQ,p],by simp [Instr.findAsking,q,v],rfl,?_,I⟩
    rw [q,Vf hf F hsd]
   |false=>
    rw [hsd] at p v
    rcases find_wide (w:=w) h hk hf (i:=i+1) G with ⟨k1,k2,k3⟩|⟨j,e1,d1,k1,k2,k3,k4,k5,k6⟩
    ·exact .inl ⟨by simp [mpos,p,k1],by simp [GQ,p,k2],by simp [Instr.findAsking,q,v,k3]⟩
    ·exact .inr ⟨j+1,e1,d1,by simp [mpos,p,k1],by simp [GQ,p,k2],by simp [Instr.findAsking,q,v,k3]; omega,by simpa using k4,k5,k6⟩
theorem TY:∀ {ds} {us:List Value} (n:Nat),Dh ds us→((us.zip us).all fun (x,y)=>Instr.sameBits n x y)=true
 | [],us,n,h=>by simp only [Dh] at h; rw [h]; rfl
 |d::ds,us,n,h=>by
  cases d <;> simp only [Dh] at h
  obtain⟨j,rfl,-,h2⟩:=h
  have:=TY n h2
  simp only [List.zip_cons_cons,List.all_cons,this,Bool.and_true]
  cases n <;> simp [Instr.sameBits]
theorem Vh {P} {t} {q} {k} {kv} {w:World} (hq:SD P t=some q) (hk:isKD q k) (hv:G3 k kv) (e:Bool):(Instr.checkKey e 10000 t kv).run P w= .ok () w:=by
 cases h1:q.one with
 |true=>exact MapKept.run_checkKey (Qj hq h1) (X8 hk h1 (Sz hk h1 hv)) e 9999
 | false=>
  cases q with
  |wide ks=>
   obtain⟨fs,h⟩:=bg hq
   cases k <;> simp only [isKD] at hk
   simp only [G3] at hv
   obtain⟨us,rfl,j⟩:=hv
   exact run_checkKey_deep e 9998 2 t h.a w 2 (.agg us.toArray) _ (Ri h hk j) (NT h hk j 0)
  |_=>cases h1
theorem dO {P} {q} {k} {kv} {w:World} (hk:isKD q k) (hv:G3 k kv):(Instr.keyThatStays kv kv).run P w= .ok kv w:=by
 have:Instr.sameBits 10000 kv kv=true:=by
  cases h1:q.one with
  |true=>exact MapKept.sameBits_self (X8 hk h1 (Sz hk h1 hv)) 10000
  | false=>
   cases q with
   |wide ks=>
    cases k <;> simp only [isKD] at hk
    simp only [G3] at hv
    obtain⟨us,rfl,j⟩:=hv
    have:=TY 9999 j
    show Instr.sameBits (9999+1) (.agg us.toArray) (.agg us.toArray)=true
    simp only [Instr.sameBits,beq_self_eq_true,Bool.true_and]
    exact this
   |_=>cases h1
 simp [Instr.keyThatStays,this]
theorem key_find {P} {t} {q} {k} {kv} {w:World} (hq:SD P t=some q) (hk:isKD q k) (hv:G3 k kv) {rows} {es:List MapEntry} (hE:Ba q rows (es.map fun e=>(e.key,e.val))):
  (mpos k rows=none∧GQ k rows=none∧(Instr.findKey t kv es).run P w= .ok none w)∨
  ∃j e d,mpos k rows=some j∧GQ k rows=some d∧(Instr.findKey t kv es).run P w= .ok (some (j,e.val)) w∧es[j]? =some e∧e.key=kv∧GP d e.val:=by
 cases h1:q.one with
 | true=>
  rcases find_ents h1 hk (Sz hk h1 hv) (i:=0) hE with ⟨k1,k2,k3⟩|⟨j,e,d,k1,k2,k3,k4,k5,k6⟩
  ·exact .inl ⟨k1,k2,MapKept.run_findKey (Qj hq h1) k3⟩
  ·refine .inr ⟨j,e,d,k1,k2,?_,k4,k5,k6⟩
   rw [MapKept.run_findKey (w:=w) (Qj hq h1) k3,Nat.zero_add]
 | false=>
  cases q with
  | wide ks=>
   obtain⟨fs,h⟩:=bg hq
   cases k <;> simp only [isKD] at hk
   simp only [G3] at hv
   obtain⟨us,rfl,p⟩:=hv
   rw [run_findKey_eq w h.deep]
   rcases find_wide (w:=w) h hk p (i:=0) hE with ⟨k1,k2,k3⟩|⟨j,e,d,k1,k2,k3,k4,k5,k6⟩
   ·exact .inl ⟨k1,k2,k3⟩
   ·refine .inr ⟨j,e,d,k1,k2,?_,k4,k5,k6⟩
    rw [k3,Nat.zero_add]
  |_=>cases h1
theorem fx {k d k' d'} {rows}:mput k d ([k',d'] ::rows)=if Gp k k'=true then [k,d] ::rows else [k',d'] ::mput k d rows:=rfl
theorem fy {k k' d'} {rows}:mpos k ([k',d'] ::rows)=if Gp k k'=true then some 0 else (mpos k rows).map (· +1):=rfl
theorem NU {q} (k d:D):∀ {rows} {es},Ba q rows es→mput k d rows=match mpos k rows with
  |some j=>rows.set j [k,d]
  |none=>rows++[[k,d]]
 | [],_,_=>rfl
 | r::rows,es,h=>by
  simp only [Ba] at h
  obtain⟨v,p,rfl,h2,h3⟩:=h
  obtain⟨u,C,rfl,-⟩:=PS h2
  rw [fx,fy,NU k d h3]
  cases hsd:Gp k u with
  |true=>rfl
  |false=>
   rw [if_neg (by simp),if_neg (by simp)]
   cases mpos k rows <;> rfl
theorem Ba.set {q} {r} {e} (he:VP q r e):∀ {rows} {es} {j},Ba q rows es→Ba q (rows.set j r) (es.set j e)
 | [],es,j,h=>by grind [Ba]
 |x::rows,es,0,h=>by
  grind [Ba]
 |x::rows,es,j+1,h=>by
  simp only [Ba] at h
  obtain⟨v,u,rfl,p,h⟩:=h
  simp only [List.set_cons_succ,Ba]
  exact⟨_,_,rfl,p,Ba.set he h⟩
theorem Ba.snoc {q} {r} {e} (he:VP q r e):∀ {rows} {es},Ba q rows es→Ba q (rows++[r]) (es++[e])
 | [],es,h=>by grind [Ba]
 |x::rows,es,h=>by
  simp only [Ba] at h
  obtain⟨u,p,rfl,j,h⟩:=h
  simp only [List.cons_append,Ba]
  exact⟨_,_,rfl,j,Ba.snoc he h⟩
theorem Vi:∀ {ds ds':List D} {us:List Value},Dh ds us→Dh ds' us→ds=ds'
 | [],[],_,_,_=>rfl
 | [],d::ds,us,h,h'=>by
  simp only [Dh] at h
  subst h
  cases d <;> simp [Dh] at h'
 |d::ds,[],us,h,h'=>by
  simp only [Dh] at h'
  subst h'
  cases d <;> simp [Dh] at h
 |d::ds,d'::ds',us,h,h'=>by
  cases d <;> simp only [Dh] at h
  cases d' <;> simp only [Dh] at h'
  obtain⟨vs,rfl,-,h1⟩:=h
  obtain⟨j,h2,-,h3⟩:=h'
  cases h2
  rw [Vi h1 h3]
theorem TZ:∀ {ks:List IntKind} {ds:List D},isKI ks ds→Jv ds ds=true
 | [],[],_=>rfl
 | [],d::ds,h=>by simp [isKI] at h
 |k::ks,[],h=>by simp [isKI] at h
 |k::ks,d::ds,h=>by
  cases d <;> simp only [isKI] at h
  simp only [Jv,beq_self_eq_true,decide_true,Bool.true_and]
  exact TZ h.2
theorem Zv {q} {k:D} (h:isKD q k):Gp k k=true:=by
 cases q <;> cases k <;> simp only [isKD] at h
 ·simp [Gp]
 ·simp [Gp]
 ·exact TZ h
theorem dP {q} {k k':D} {v:Value} (hk:isKD q k) (hk':isKD q k') (h:G3 k v) (h':G3 k' v):k=k':=by
 cases q <;> cases k <;> simp only [isKD] at hk <;> cases k' <;> simp only [isKD] at hk' <;> simp only [G3,GP] at h h'
 ·obtain⟨h1,-⟩:=h
  obtain⟨h2,-⟩:=h'
  rw [h1] at h2
  cases h2; rfl
 ·obtain⟨h1,-⟩:=h
  obtain⟨h2,-⟩:=h'
  rw [h1] at h2
  cases h2; rfl
 ·obtain⟨us,h1,h2⟩:=h
  obtain⟨j,h3,p⟩:=h'
  rw [h1] at h3
  have:us=j:=by simpa using h3
  subst this
  rw [Vi h2 p]
theorem Vj {q} {k:D} {kv:Value} (hk:isKD q k) (hv:G3 k kv):∀ {rows} {es:List MapEntry},Ba q rows (es.map fun e=>(e.key,e.val))→mpos k rows=none→∀e ∈ es,e.key≠kv
 | [],es,h,_=>by
  simp only [Ba,List.map_eq_nil_iff] at h
  subst h
  intro e F; cases F
 | r ::rows,es,h,hp=>by
  simp only [Ba] at h
  obtain⟨J,G,h2,h3,C⟩:=h
  cases es with
  |nil=>simp at h2
  | cons e es=>
   simp only [List.map_cons,List.cons.injEq] at h2
   obtain⟨rfl,rfl⟩:=h2
   obtain⟨I,d,rfl,u,v,-⟩:=PS h3
   cases hsd:Gp k I with
   |true=>simp [mpos,hsd] at hp
   | false=>
    have j:mpos k rows=none:=by simpa [mpos,hsd] using hp
    intro x hx p
    rcases List.mem_cons.1 hx with rfl|hx
    ·rw [p] at v
     rw [dP hk u hv v,Zv u] at hsd
     cases hsd
    ·exact Vj hk hv C j x hx p
theorem Rj {w0} {γ}:∀ {as} {us:List Value} {ds},AH w0 γ as us→VT as=some ds→Dh ds us
 | [],us,ds,hv,h=>by
  simp only [VT,Option.some.injEq] at h
  subst h
  simpa only [AH,Dh] using hv
 |a::as,us,ds,hv,h=>by
  simp only [AH] at hv
  obtain⟨u,j,rfl,h1,h2⟩:=hv
  cases a <;> simp only [VT] at h <;> try (cases h; done)
  simp only [Option.map_eq_some_iff] at h
  obtain⟨p,h3,rfl⟩:=h
  simp only [VSim] at h1
  simp only [Dh]
  exact⟨j,by rw [h1.1],h1.2,Rj h2 h3⟩
theorem Ta {w0} {γ} {a} {v} {k} (hv:VSim w0 γ a v) (h:keyD a=some k):G3 k v:=by
 cases a <;> simp only [keyD] at h <;> try (cases h; done)
 ·cases h
  simp only [G3]
  grind [VSim,GP]
 ·cases h
  simp only [G3]
  grind [VSim,GP]
 ·simp only [Option.map_eq_some_iff] at h
  obtain⟨j,h1,rfl⟩:=h
  simp only [VSim] at hv
  obtain⟨us,rfl,h2⟩:=hv
  simp only [G3]
  exact⟨us,rfl,Rj h2 h1⟩
theorem dQ {P} {w} {t} {z} (h:tz1 P t=some z):(zeroValue t).run P w= .ok z w:=by
 unfold tz1 at h
 cases hi:P.info? t with
 |none=>grind
 |some i=>simp_all [zeroValue,typeInfo]
section
variable {cx:Cx} {γ:Gh} {T:Nat→Option Tok} {B:Nat→Option (List AV)} {w:World} {o:Oper} {a:Act} {next:Act→World→Prop} {Q:Exit→Act→World→Prop}
theorem Zw (hs:OSim cx γ T B w) {b} {vs} {us} {av} {v} (e:TypeId) (hn:¬γ.bl b) (hB:B b=some vs) (hm:isMp vs=false) (hv:AH γ.vw γ vs us)
  (hr:(execOp a.eval o).run cx.P w= .ok (.value v) (w.alloc (.cells us.toArray e)))
  (hav:∀γ':Gh,γ'.bl b→γ'.bb b=w.heap.size→γ'.bo b=0→VSim γ'.vw γ' av v)
  (hk:EvK cx γ T B o a next ⟨av,[],[(b,vs)]⟩):o.wp cx.P a w next Q:=by
 refine LO hr (hk v _ (γ.box b w.heap.size) (Gh.box_ext hn) (fun t h=>.inl h) (fun x h=>?_) (hs.newBox hn hB hm hv e) (hav _ (.inr rfl) ?_ ?_))
 ·rcases h with h|rfl
  ·grind
  simp_all
 ·show (if b=b then _ else _)=_; rw [if_pos rfl]
 ·show (if b=b then _ else _)=_; rw [if_pos rfl]
theorem mR (hs:OSim cx γ T B w):cx.P.low≤w.heap.size:=Nat.le_trans cx.lowe hs.frm.size
theorem JB (γ:Gh):Gh.Ext Gh.none γ:=⟨fun _ h=>h.elim,fun _ h=>h.elim,fun _ h=>h.elim,fun _ h=>h.elim,fun _ h=>h.elim,fun _ _ h=>h.elim,fun _ _ h=>h.elim,Keeps.void _⟩
theorem YA (hs:OSim cx γ T B w) {f} {as} {us} {rv} {qt} {qb} (hag:AG cx.P f as [] [] rv qt qb) (hv:AH γ.vw Gh.none as us):
  GU cx.P f=true∧Calls cx.P f us.toArray w fun e w'=>∃v γ' γc,e= .returned v∧Gh.Ext γ γ'∧(∀t,γ'.tl t→γ.tl t)∧(∀b,γ'.bl b→γ.bl b)∧OSim cx γ' T B w'∧γ'.vw=γc.vw∧γ'.tf=γ.tf∧VSim γc.vw γc rv v∧Below w.heap.size w w'∧
   (∀q tk,γc.tl q→look qt q=some tk→Ae γc.vw w' tk (γc.tv q) (γc.tf q)∧(γc.tf q).Nodup ∧(∀g ∈ γc.tf q,w.heap.size≤g)∧∀g ∈ γc.tf q,∀o,γc.vw.cell? ⟨g,o,none⟩=none):=by
 refine⟨hag.1,?_⟩
 obtain⟨γ0,W⟩:∃γ0:Gh,γ0= {Gh.none with vw:=γ.vw}:=⟨_,rfl⟩
 have p:∀t,¬γ0.tl t:=fun t h=>by rw [W] at h; exact h
 have F:∀b,¬γ0.bl b:=fun b h=>by rw [W] at h; exact h
 have I:γ0.vw=γ.vw:=by rw [W]
 obtain⟨j,c1,C,c3,c4,c5,c6⟩:∃j:Cx,j.P=cx.P∧j.we=w∧j.w0=γ.vw∧j.L=[] ∧(∀g,¬j.LF g)∧j.g0=γ0.pin:=
  ⟨⟨cx.P,w,γ.vw,[],fun _=>False,hs.vw.k,(fun g o h=>h.elim (fun h=>h.elim) fun ⟨x,hx,_⟩=>by cases hx),(fun g h=>h.elim (fun h=>h.elim) fun ⟨x,hx,_⟩=>by cases hx),Nat.le_trans cx.lowe hs.frm.size,Zj hs,γ0.pin,I,fun t h=>absurd h.1 (p t),fun b h=>absurd h.1 (F b)⟩,rfl,rfl,rfl,rfl,fun _ h=>h,rfl⟩
 have Y:OSim j γ0 (look []) (look []) w:=by
  refine⟨⟨by rw [c1]; exact hs.frm.sh,by rw [C],by rw [C],by rw [C],by rw [C]; omega,fun k _ _ _=>by rw [C],fun x hx=>by rw [c4] at hx; cases hx⟩,fun t _ h=>absurd h (p t),fun t _ h=>absurd h (p t),fun t _ _ _ _ h=>absurd h (p t),fun b _ h=>absurd h (F b),fun b _ _ _ _ h=>absurd h (F b),fun b _ _ _ h=>absurd h (F b),fun t _ h=>absurd h (p t),fun b _ h=>absurd h (F b),fun t _ h=>absurd h (p t),by rw [c6]; exact Gh.pin_ext _,⟨by rw [I]; exact hs.vw.k,fun t _ h=>absurd h (p t),fun b _ h=>absurd h (F b),fun a u h=>.inl (by rw [c3,← I]; exact h)⟩⟩
 have hc:=hag.2 j γ0 us c1 c6 (fun t=>⟨fun h=>absurd h (p t),fun h=>by cases h⟩) (fun b=>⟨fun h=>absurd h (F b),fun h=>by cases h⟩) (by rw [C]; omega) (by rw [I]; exact AH.mono (Keeps.refl _) (JB γ0) hv)
 rw [C] at hc
 refine hc.mono ?_
 rintro e w' ⟨v,γc,rfl,h1,h2⟩
 have U:Below w.heap.size w w':=⟨by rw [h1.frm.os,C],by rw [h1.frm.tape,C],by rw [h1.frm.output,C],by have:=h1.frm.size; rw [C] at this; omega,fun k hk=>by
  have:=h1.frm.block k (by rw [C]; exact hk) (c5 k) (fun x hx=>by rw [c4] at hx; cases hx)
  rw [C] at this; omega⟩
 have hk:Keeps γ.vw γc.vw:=by
  have:=h1.beg.vw
  rw [c6] at this
  have e:γ0.pin.vw=γ.vw:=I
  rw [e] at this; omega
 have J:=hs.below U
 have O:∀g o,g<w.heap.size→γ.vw.cell? ⟨g,o,none⟩=none→γc.vw.cell? ⟨g,o,none⟩=none:=fun g o hg hn=>by
  cases hu:γc.vw.cell? ⟨g,o,none⟩ with
  |none=>rfl
  |some u=>
   rcases h1.vw.f _ u hu with h|h|h
   ·rw [c3,hn] at h; cases h
   ·rw [C] at h; grind
   grind
 obtain⟨γ',G⟩:∃γ':Gh,γ'= {γ with vw:=γc.vw}:=⟨_,rfl⟩
 have he:Gh.Ext γ γ':=by rw [G]; exact⟨fun _ h=>h,fun _ _=>rfl,fun _ h=>h,fun _ _=>rfl,fun _ _=>rfl,fun _ _ _ h=>h,fun _ _ _ _=>rfl,hk⟩
 have ev:γ'.vw=γc.vw:=by rw [G]
 refine⟨v,γ',γc,rfl,he,fun t h=>by rw [G] at h; exact h,fun b h=>by rw [G] at h; exact h,?_,ev,by rw [G],h2,U,fun q tk k1 k2=>⟨h1.tok q tk k1 k2,h1.tnd q tk k1 k2,fun g hg=>?_,h1.vw.t q tk k1 k2⟩⟩
 ·subst G
  refine⟨J.frm,fun t tk k1 k2=>(J.tok t tk k1 k2).mono hk,J.tnd,J.tds,fun b vs k1 k2=>?_,J.bds,J.btd,J.tfr,J.bfr,J.hds,J.beg.trans he,⟨h1.vw.k,fun t tk k1 k2 g hg o=>?_,fun b vs k1 k2 o=>?_,fun x u hu=>?_⟩⟩
  ·obtain⟨us',k3,k4⟩:=J.box b vs k1 k2
   grind [AH.mono]
  ·exact O g o ((hs.tok t tk k1 k2).lt g hg) (hs.vw.t t tk k1 k2 g hg o)
  ·obtain⟨us',-,k4⟩:=hs.box b vs k1 k2
   exact O _ o k4.lt (hs.vw.b b vs k1 k2 o)
  ·rcases h1.vw.f x u hu with h|h|h
   ·rw [c3] at h; exact hs.vw.f x u h
   ·rw [C] at h; exact .inr (.inl (Nat.le_trans hs.frm.size h))
   grind
 ·rcases h1.tfr q tk k1 k2 g hg with h|h
  ·rw [C] at h; exact h
  grind
theorem Ql {w0} {γ γ'} {p:AV→Bool} (hP:∀a v,p a=true→VSim w0 γ a v→VSim w0 γ' a v):∀ (vs:List AV) (us:List Value),vs.all p=true→AH w0 γ vs us→AH w0 γ' vs us
 | [],us,_,h=>by simpa only [AH] using h
 |a::vs,us,hp,h=>by
  simp only [List.all_cons,Bool.and_eq_true] at hp
  simp only [AH] at h ⊢
  obtain⟨u,j,h1,h2,h3⟩:=h
  exact⟨u,j,h1,hP a u hp.1 h2,Ql hP vs j hp.2 h3⟩
theorem Rk {w0} {γ γ'} (a:AV) (v:Value) (hp:bP a=true) (h:VSim w0 γ a v):VSim w0 γ' a v:=by
 rcases (Bool.or_eq_true _ _).mp hp with hp|hp
 ·exact EK (Keeps.refl _) hp h
 ·cases a <;> first|cases hp|skip
  simp only [VSim] at h ⊢
  exact h
theorem Rl {w0} {γ γ'} (a:AV) (v:Value) (hp:bQ a=true) (h:VSim w0 γ a v):VSim w0 γ' a v:=by
 rcases (Bool.or_eq_true _ _).mp hp with hp|hp
 ·exact Rk a v hp h
 ·cases a <;> first|cases hp|skip
  simp only [VSim] at h ⊢
  obtain⟨us,h1,h2⟩:=h
  exact⟨us,h1,Ql Rk _ _ hp h2⟩
theorem YB {w0} {γ γ'} {rv} {v} (hp:VS rv=true) (h:VSim w0 γ rv v):VSim w0 γ' rv v:=by
 rcases (Bool.or_eq_true _ _).mp hp with hp|hp
 ·exact Rl rv v hp h
 ·cases rv <;> first|cases hp|skip
  simp only [VSim] at h ⊢
  obtain⟨us,h1,h2⟩:=h
  exact⟨us,h1,Ql Rl _ _ hp h2⟩
theorem f5 (hs:OSim cx γ T B w) {f} {A:List AV} {U:List Value} {r}
  {pos} (hc:AH γ.vw γ A U) (hz:lq cx.P pos f A r) (hT:∀x ∈ r.t,T x.1 =some x.2 ∧¬γ.tl x.1)
  (hr:(execOp a.eval o).run cx.P w=(callFunc f U.toArray).run cx.P w)
  (hk:EvK cx γ T B o a next r):o.wp cx.P a w next Q:=by
 obtain⟨as,rv,qt,qb,hag,hcl,hq⟩:=hz
 have O:VwOk γ.vw γ (fun _=>none) (fun _=>none) γ.vw:=⟨Keeps.refl _,fun _ _ _ h=>(by cases h),fun _ _ _ h=>(by cases h),fun _ _ _ h=>(by cases h)⟩
 obtain⟨F,p⟩:=YA hs hag (Io O hc hcl)
 unfold GU at F
 cases hf:cx.P.funcs[f]? with
 |none=>grind
 | some fn=>
  simp only [hf,Option.any_some,Bool.and_eq_true,Bool.not_eq_true',beq_eq_false_iff_ne] at F
  have G:(callFunc f U.toArray).run cx.P w= .ok (.enter f U.toArray) w:=by
   obtain⟨c,h1⟩:=Option.isSome_iff_exists.1 F.1
   simp [callFunc,hf,F.2,h1]
  unfold Oper.wp
  rw [hr,G]
  simp only [Oper.upon]
  refine p.mono ?_
  rintro e w' ⟨v,γ',γc,rfl,h1,h2,h3,h4,h5,h5f,Y,h7,h8⟩
  simp only
  rcases hq with ⟨rfl,hp,rfl⟩|⟨q,tk,rfl,rfl,hg0,rfl⟩|⟨⟨q,k,rfl⟩,rfl⟩
  ·exact hk v w' γ' h1 (fun t h=>.inl (h2 t h)) (fun b h=>.inl (h3 b h)) h4 (by rw [h5]; grind [YB])
  ·simp only [VSim] at Y
   obtain⟨⟨hql,hqs⟩,rfl⟩:=Y
   obtain⟨m1,m2,m3,m4⟩:=h8 q tk hql (by grind [look])
   have C:=hT (pos*16,tk) (by simp)
   obtain⟨C,I⟩:=C
   simp only at C I
   have j:¬γ'.tl (pos*16):=fun h=>I (h2 _ h)
   have hs0:OSim cx γ' (fun x=>if x=pos*16 then none else T x) B w':=h4.tables (fun x W _ h=>by grind) fun _ _ _ h=>h
   have J:∀g ∈ γc.tf q,Free cx γ' (fun x=>if x=pos*16 then none else T x) B g:=fun g hg=>⟨fun x W hx h hg'=>by
     split at h
     ·cases h
     ·have k:=(hs.tok x W (h2 x hx) h).lt g (by rw [← h5f]; omega)
      grind,fun b vs F hB e=>by
     obtain⟨us',-,k4⟩:=hs.box b vs (h3 b F) hB
     have:=k4.lt
     have:=m3 g hg
     rw [h1.bb b (h3 b F)] at e
     omega,.inl (Nat.le_trans hs.frm.size (m3 g hg)),fun o=>by rw [h5]; grind⟩
   have u:=hs0.putTok (t:=pos*16) (tk:=tk) (v:=γc.tv q) (fp:=γc.tf q) (if_pos rfl) (fun h=>absurd h j) (by rw [h5]; exact m1) m2 J (fun h=>absurd h j) (fun h=>absurd h j)
   have hTe:(fun x=>if x=pos*16 then some tk else if x=pos*16 then none else T x)=T:=by
    grind
   rw [hTe] at u
   have he2:=Gh.tok_ext (w:=w') (fp:=γc.tf q) (k:=tk.gen) (γ:=γ') (t:=pos*16) (v:=γc.tv q) (fun h=>absurd h j)
   refine hk _ w' _ (h1.trans he2) (fun t h=>?_) (fun b h=>.inl (h3 b h)) u ?_
   ·rcases h with h|rfl
    ·grind
    simp_all
   grind [VSim,Gh.tok]
  ·exact hk v w' γ' h1 (fun t h=>.inl (h2 t h)) (fun b h=>.inl (h3 b h)) h4 (by
    simp only [VSim] at Y ⊢
    obtain⟨-,rfl⟩:=Y
    simp [AH,AV.pts])
theorem jY (hs:OSim cx γ T B w) {f} {A:List AV} {U:List Value} {as} {rv} {n}
  (hc:AH γ.vw γ A U) (hcl:cls T B A=some as) (p:AC cx.P f as rv)
  (hT:∀x ∈ (conv n rv).2,T x.1 =some x.2 ∧¬γ.tl x.1)
  (hr:(execOp a.eval o).run cx.P w=(callFunc f U.toArray).run cx.P w)
  (hk:EvK cx γ T B o a next ⟨(conv n rv).1,(conv n rv).2,[]⟩):o.wp cx.P a w next Q:=by
 obtain⟨F,p⟩:=p
 unfold GU at F
 cases hf:cx.P.funcs[f]? with
 |none=>grind
 | some fn=>
  simp only [hf,Option.any_some,Bool.and_eq_true,Bool.not_eq_true',beq_eq_false_iff_ne] at F
  have u:(callFunc f U.toArray).run cx.P w= .ok (.enter f U.toArray) w:=by
   obtain⟨c,h1⟩:=Option.isSome_iff_exists.1 F.1
   simp [callFunc,hf,F.2,h1]
  unfold Oper.wp
  rw [hr,u]
  simp only [Oper.upon]
  refine(p w U hs.frm.sh (mR hs) (Zj hs) (Io hs.see hc hcl)).mono ?_
  rintro e w' ⟨v,fp,rfl,h1,h2,h3,h4⟩
  simp only
  obtain⟨tv,tf,k1,k2⟩:=TQ γ.vw n h1 h2
  have j:∀t ∈ (conv n rv).2.map (·.1),∃x ∈ (conv n rv).2,x.1 =t:=fun t C=>by grind
  have q:∀t ∈ (conv n rv).2.map (·.1),¬γ.tl t:=fun t C=>by
   grind
  refine hk v w' (γ.toks w' ((conv n rv).2.map (·.1)) tv tf) (Gh.toks_ext q) (fun t h=>?_) (fun b h=>.inl h) (hs.newToks h4 q (fun t C tk I=>?_) fun t C t' G J=>?_) (k2 _ fun x hx=>⟨.inr (List.mem_map.2 ⟨x,hx,rfl⟩),?_⟩)
  ·rcases h with h|h
   ·grind
   grind
  ·obtain⟨x,hx,rfl⟩:=j t C
   have:=(hT x hx).1
   rw [I] at this
   simp only [Option.some.injEq] at this
   obtain⟨Y,O,W⟩:=k1.ok x hx
   exact⟨⟨by rw [this]; exact Y.mono (Keeps.void _),O,fun g hg=>h3 g (W g hg)⟩,by rw [this]; grind [X3]⟩
  ·obtain⟨x,hx,rfl⟩:=j t C
   obtain⟨y,hy,rfl⟩:=j t' G
   exact k1.dis x hx y hy J
  ·show (if x.1 ∈ (conv n rv).2.map (·.1) then _ else _)=_
   rw [if_pos (List.mem_map.2 ⟨x,hx,rfl⟩)]
theorem AH.of_map {w0:World} {γ:Gh} {e:Operand→AV} {ρ:Operand→Value}:∀ {l:List Operand},(∀x ∈ l,VSim w0 γ (e x) (ρ x))→AH w0 γ (l.map e) (l.map ρ)
 | [],_=>by rfl
 |x::l,h=>by
  simp only [List.map_cons,AH]
  exact⟨_,_,rfl,h x (by simp),AH.of_map fun y hy=>h y (by simp [hy])⟩
theorem YC {P} {w} {α β:Type} (g:α→Sem β) (h:α→β):∀l:List α,(∀x ∈ l,(g x).run P w= .ok (h x) w)→(l.mapM g).run P w= .ok (l.map h) w
 | [],_=>rfl
 |x::l,hx=>by
  rw [List.mapM_cons]
  simp [hx x (by simp),YC g h l fun y hy=>hx y (by simp [hy])]
set_option maxHeartbeats 1000000 in
theorem Tb {pos:Nat} {e:Operand→AV} {r:Res} (C:Ev cx.P pos o e T B r) (hop:∀x ∈ o.op.operands,VSim γ.vw γ (e x) (a.eval x)) (hs:OSim cx γ T B w)
  (hT:∀x ∈ r.t,T x.1 =some x.2 ∧¬γ.tl x.1) (hB:∀x ∈ r.b,B x.1 =some x.2 ∧¬γ.bl x.1) (hk:EvK cx γ T B o a next r):o.wp cx.P a w next Q:=by
 obtain⟨dst,op,ty,ps,after,guard⟩:=o
 unfold Ev at C
 dsimp only at C hop
 split at C
 · -- move
  rename_i x
  subst C
  exact Aq hs (by rfl) (hop x (by simp [Op.operands])) hk
 ·rename_i x
  subst C
  exact Aq hs (by rfl) (hop x (by simp [Op.operands])) hk
 · -- pick
  rename_i c x y
  obtain⟨t,hc,rfl⟩:=C
  have h1:=hop c (by simp [Op.operands])
  rw [hc] at h1
  simp only [VSim] at h1
  cases t
  ·exact Aq hs (by simp [execOp,h1,asBool]) (hop y (by simp [Op.operands])) hk
  ·exact Aq hs (by simp [execOp,h1,asBool]) (hop x (by simp [Op.operands])) hk
 · -- box
  rename_i t x
  split at C
  ·rename_i vs hc
   subst C
   have h1:=Fc (hop x (by simp [Op.operands])) hc
   have hb:=hB (pos,vs) (by simp)
   refine Zw hs t hb.2 hb.1 (OD (TU hc)) h1 (v:=.pointer (some ⟨w.heap.size,0,none⟩)) ?_ (fun γ' h2 h3 h4=>?_) hk
   ·rfl
   grind [VSim]
  grind
 · -- load
  rename_i t x
  obtain⟨v,h1,rfl⟩:=C
  obtain⟨u,h2,h3⟩:=TM hs (hop x (by simp [Op.operands])) h1
  exact Aq hs (by simp [execOp,h2]) h3 hk
 · -- nilCheck
  rename_i x
  have h1:=hop x (by simp [Op.operands])
  split at C
  ·rename_i b off W
   subst C
   rw [W] at h1
   have h2:=h1
   simp only [VSim] at h1
   exact Aq hs (by simp [execOp,h1.2]; rfl) (by rw [← h1.2]; exact h2) hk
  ·rename_i ds off W
   subst C
   rw [W] at h1
   have h2:=h1
   simp only [VSim] at h1
   obtain⟨b,o,us,h3,-⟩:=h1
   exact Aq hs (by simp [execOp,h3]; rfl) (by rw [← h3]; exact h2) hk
  ·rename_i t sz i off W
   subst C
   rw [W] at h1
   have h2:=h1
   simp only [VSim] at h1
   obtain⟨-,g,o,n,c,-,h3⟩:=h1
   exact Aq hs (by simp [execOp,h3]; rfl) (by rw [← h3]; exact h2) hk
  ·rename_i t g p sz i off W
   subst C
   rw [W] at h1
   have h2:=h1
   simp only [VSim] at h1
   obtain⟨-,b,o,n,c,-,h3⟩:=h1
   exact Aq hs (by simp [execOp,h3]; rfl) (by rw [← h3]; exact h2) hk
  grind
 · -- binOp
  rename_i op t x y yt
  obtain⟨v,h1,rfl⟩:=C
  obtain⟨u,h2,h3⟩:=VZ (cx:=cx) (w:=w) (ox:=x) (oy:=y) (hop x (by simp [Op.operands])) (hop y (by simp [Op.operands])) h1
  refine Aq hs (v:=u) ?_ h3 hk
  simp only [execOp,Sem.run_bind] at h2 ⊢
  rw [h2]; rfl
 · -- unOp
  rename_i op t x
  obtain⟨v,h1,rfl⟩:=C
  obtain⟨u,h2,h3⟩:=dI (cx:=cx) (w:=w) (hop x (by simp [Op.operands])) h1
  exact Aq hs (by simp [execOp,h2]) h3 hk
 · -- convert
  rename_i s d x
  split at C
  ·rename_i k k' n hd W
   obtain⟨hsc,rfl⟩:=C
   have h1:=hop x (by simp [Op.operands])
   rw [W] at h1
   simp only [VSim] at h1
   have hu:∃d,cx.P.underlying s=some d:=by
    unfold ti at hsc
    split at hsc <;> simp [TI.sc] at hsc <;> (rename_i hu; exact⟨_,hu⟩)
   obtain⟨ds,hu⟩:=hu
   exact Aq hs (v:=.int k (k.wrap n)) (by simp [execOp,h1.1,convert,run_underlying hu,run_underlying (Zr hd),Conv.intToInt]) (DQ (Gi _ _)) hk
  ·rename_i hd
   obtain⟨J,ns,hsl,hel,hmx,hc,rfl⟩:=C
   have h1:=JA hs.see (hop x (by simp [Op.operands])) hc
   obtain⟨-,hu,Y⟩:=dN h1 hmx hsl hel hd
   exact Aq hs (by simp [execOp,hu]) (We Y) hk
  grind
 · -- fieldAddr
  rename_i s x f
  have h1:=hop x (by simp [Op.operands])
  have key:∀q,fOff cx.P s f=some q→0<tsz cx.P q.2 →∀g o,(Instr.fieldAt s (.pointer (some ⟨g,o,none⟩)) f).run cx.P w= .ok (.pointer (some ⟨g,o+q.1,none⟩)) w:=by
   intro q U hz g o
   unfold fOff at U
   split at U
   ·rename_i fs hfs
    obtain⟨gs,hgs,rfl⟩:=bW hfs
    rw [List.getElem?_map,Array.getElem?_toList] at U
    cases hg:gs[f]? with
    |none=>grind
    |some fd=>
     simp only [hg,Option.map_some,Option.some.injEq] at U
     subst U
     have hz':tsz cx.P fd.type≠0:=by grind
     simp_all [Instr.fieldAt,run_underlying,Instr.sureAddr,fieldPlace,C7,Addr.add_lit]
   grind
  split at C
  ·rename_i b off W
   obtain⟨q,U,hz,rfl⟩:=C
   rw [W] at h1
   simp only [VSim] at h1
   exact Aq hs (by simp [execOp,h1.2,key q U hz]; rfl) (by grind [VSim]) hk
  ·rename_i ds off W
   obtain⟨q,U,hz,rfl⟩:=C
   rw [W] at h1
   simp only [VSim] at h1
   obtain⟨b,o,us,h3,h4⟩:=h1
   exact Aq hs (by simp [execOp,h3,key q U hz]; rfl) (by grind [VSim]) hk
  ·rename_i t sz i off W
   obtain⟨q,U,hz,rfl⟩:=C
   rw [W] at h1
   simp only [VSim] at h1
   obtain⟨h2,g,o,n,c,h3,h4⟩:=h1
   exact Aq hs (by simp [execOp,h4,key q U hz]; rfl) (by grind [VSim]) hk
  ·rename_i t g p sz i off W
   obtain⟨q,U,hz,rfl⟩:=C
   rw [W] at h1
   simp only [VSim] at h1
   obtain⟨h2,b,o,n,c,h3,h4⟩:=h1
   exact Aq hs (by simp [execOp,h4,key q U hz]; rfl) (by grind [VSim]) hk
  grind
 · -- field
  rename_i s x f
  have h1:=hop x (by simp [Op.operands])
  split at C
  ·rename_i vs W
   obtain⟨q,U,C⟩:=C
   rw [W] at h1
   simp only [VSim] at h1
   obtain⟨us,h2,h3⟩:=h1
   have hl:=h3.length
   unfold fOff at U
   split at U
   ·rename_i fs hfs
    obtain⟨gs,hgs,rfl⟩:=bW hfs
    rw [List.getElem?_map,Array.getElem?_toList] at U
    cases hg:gs[f]? with
    |none=>grind
    | some fd=>
     simp only [hg,Option.map_some,Option.some.injEq] at U
     subst U
     simp only at C
     split at C
     ·rename_i hagg
      obtain⟨hle,rfl⟩:=C
      refine Aq hs (v:=.agg ((us.drop fd.offset).take (tsz cx.P fd.type)).toArray) ?_ (by simp only [VSim]; exact⟨_,rfl,h3.take_drop _ _⟩) hk
      simp_all [execOp,Instr.field,run_underlying,asAgg,part,Xy,TK]
     ·obtain⟨hsc,v,hv,rfl⟩:=C
      obtain⟨u,h4,h5⟩:=h3.get hv
      exact Aq hs (v:=u) (by simp_all [execOp,Instr.field,run_underlying,asAgg,part,Xz]) h5 hk
   grind
  grind
 · -- indexAddr
  rename_i t x i
  obtain⟨v,h1,rfl⟩:=C
  obtain⟨u,h2,h3⟩:=dJ hs (hop x (by simp [Op.operands])) (hop i (by simp [Op.operands])) h1
  exact Aq hs (by simp [execOp,h2]) h3 hk
 · -- index
  rename_i t x i
  obtain⟨v,h1,rfl⟩:=C
  obtain⟨u,h2,h3⟩:=Zs (w:=w) (hop x (by simp [Op.operands])) (hop i (by simp [Op.operands])) h1
  exact Aq hs (by simp [execOp,h2]) h3 hk
 · -- slice
  rename_i t x l h
  obtain⟨v,h1,rfl⟩:=C
  have k1:∀y,l.map e=some y→∃z,l.map a.eval=some z∧VSim _ γ y z:=fun y hy=>by
   cases l with
   |none=>cases hy
   |some q=>cases hy; exact⟨_,rfl,hop q (by simp [Op.operands])⟩
  have k2:∀y,h.map e=some y→∃z,h.map a.eval=some z∧VSim _ γ y z:=fun y hy=>by
   cases h with
   |none=>cases hy
   |some q=>cases hy; exact⟨_,rfl,hop q (by simp [Op.operands])⟩
  obtain⟨u,h2,h3⟩:∃r,(Instr.sliceAt t (a.eval x) (l.map a.eval) (h.map a.eval) none).run cx.P w= .ok r w∧VSim _ γ v r:=by
   rcases h1 with h1|h1
   ·exact X6 (hop x (by simp [Op.operands])) k1 (fun hy=>by cases l <;> simp_all) k2 (fun hy=>by cases h <;> simp_all) h1
   ·exact Zt hs.see (hop x (by simp [Op.operands])) k1 (fun hy=>by cases l <;> simp_all) k2 (fun hy=>by cases h <;> simp_all) h1
  exact Aq hs (by cases l <;> cases h <;> (simp only [Option.map_none,Option.map_some] at h2; simp [execOp,h2])) h3 hk
 · -- extract
  rename_i x i
  have h1:=hop x (by simp [Op.operands])
  split at C
  ·rename_i vs W
   obtain⟨v,hv,rfl⟩:=C
   rw [W] at h1
   simp only [VSim] at h1
   obtain⟨us,h2,h3⟩:=h1
   obtain⟨u,h4,h5⟩:=h3.get hv
   exact Aq hs (v:=u) (by simp_all [execOp,Instr.extract]) h5 hk
  grind
 · -- makeFunc
  rename_i f first caps
  subst C
  refine Aq hs (v:=.func (.func f) (first.map a.eval) (caps.map a.eval)) (by rfl) ?_ hk
  simp only [VSim,AH]
  refine⟨.agg (first.map a.eval)::caps.toList.map a.eval,.inr ⟨_,_,rfl,by rw [← Array.toList_map,Array.toArray_toList]⟩,_,_,rfl,⟨first.toList.map a.eval,by rw [← Array.toList_map,Array.toArray_toList],AH.of_map fun x hx=>hop x ?_⟩,AH.of_map fun x hx=>hop x ?_⟩
  ·grind [Op.operands]
  grind [Op.operands]
 · -- len
  rename_i I F
  split at C
  ·rename_i x t hx ht
   obtain⟨v,h1,rfl⟩:=C
   obtain rfl:I= #[x] :=N3 hx
   obtain rfl:F= #[t] :=N3 ht
   obtain⟨u,h2,h3⟩:=dL (ty:=ty) hs (hop x (by simp [Op.operands,Call.operands])) h1
   exact Aq hs (by simp [execOp,resolve,invoke,builtin,h2]) h3 hk
  grind
 · -- max
  rename_i I F
  split at C
  ·rename_i x y hx
   have O:I= #[x,y] :=by grind
   subst O
   have h1:=hop x (by simp [Op.operands,Call.operands])
   have h2:=hop y (by simp [Op.operands,Call.operands])
   split at C
   ·rename_i k n k' m hx' hy'
    obtain⟨rfl,rfl⟩:=C
    rw [hx'] at h1; rw [hy'] at h2
    simp only [VSim] at h1 h2
    refine Aq hs (v:=.int k (if n<m then m else n)) ?_ (DQ ?_) hk
    ·simp_all [execOp,resolve,invoke,builtin,run_max_int2]
    grind
   grind
  grind
 · -- min
  rename_i I F
  split at C
  ·rename_i x y hx
   have O:I= #[x,y] :=by grind
   subst O
   have h1:=hop x (by simp [Op.operands,Call.operands])
   have h2:=hop y (by simp [Op.operands,Call.operands])
   split at C
   ·rename_i k n k' m hx' hy'
    obtain⟨rfl,rfl⟩:=C
    rw [hx'] at h1; rw [hy'] at h2
    simp only [VSim] at h1 h2
    refine Aq hs (v:=.int k (if m<n then m else n)) ?_ (DQ ?_) hk
    ·simp_all [execOp,resolve,invoke,builtin,run_min_int2]
    grind
   grind
  grind
 · -- call
  rename_i g I F
  unfold S9 at C
  have h1:=hop g (by simp [Op.operands,Call.operands])
  split at C
  ·rename_i f caps W
   rw [W] at h1
   simp only [VSim] at h1
   obtain⟨cv,h2,h3⟩:=h1
   obtain⟨ho,C⟩:=C
   obtain⟨O,ws,cs,hfv,e1⟩:=bN ho h2 h3 (AH.of_map (e:=e) (ρ:=a.eval) (l:=I.toList) fun x hx=>hop x (by grind [Op.operands,Call.operands]))
   have e2:(I.toList.map a.eval).toArray =I.map a.eval:=by grind
   rw [e2] at e1
   grind [jY,execOp,resolve,Deferred.ofValue,invoke,f5]
  grind
 · -- append
  rename_i I F
  split at C
  ·rename_i x y t t' hx ht
   obtain⟨rfl,hnx,C⟩:=C
   have O:I= #[x,y] :=by grind
   have hat:F= #[t',t'] :=by grind
   subst O hat
   have h1:=hop x (by simp [Op.operands,Call.operands])
   have h2:=hop y (by simp [Op.operands,Call.operands])
   split at C
   ·rename_i J rows hel hey
    obtain⟨⟨Y,htz⟩,z,C⟩:=C
    rw [hey] at h2
    simp only [VSim] at h2
    have hx0:∃a0,a.eval x= .slice a0 0 0:=by
     generalize e x=ex at hnx h1
     cases ex <;> simp only [bS] at hnx <;> try (cases hnx; done)
     ·grind [VSim]
     grind [VSim]
    obtain⟨rows,v',w',fp',rfl,hr,hok,hnd,hbel,hfr⟩:=fu (ty:=ty) hel Y rfl htz hx0 hs.vw.k h2 C
    have hids:∀x ∈ [pos*16],¬γ.tl x:=fun x hx=>by
     simp_all
    have htok:=(hT (pos*16,⟨rows,some (tsz cx.P J),0,z⟩) (by simp)).1
    have hrep:=hok.rep (Keeps.trans hs.vw.k (Keeps.of_below hbel))
    simp only [Rep] at hrep
    obtain⟨a',c',hv',-⟩:=hrep
    refine LO (v:=v') (w':=w') (by simp [execOp,resolve,invoke,builtin,hr]) (hk _ _ (γ.toks w' [pos*16] (fun _=>v') (fun _=>fp')) (Gh.toks_ext hids) (fun x hx=>?_) (fun b h=>.inl h) (hs.newToks hbel hids (fun x hx tk htk=>?_) fun x hx y hy hne=>?_) ?_)
    ·rcases hx with h|h
     ·grind
     simp_all
    ·grind
    ·grind
    ·simp only [VSim]
     have:(γ.toks w' [pos*16] (fun _=>v') (fun _=>fp')).tv (pos*16)=v':=by
      show (if pos*16 ∈ [pos*16] then _ else _)=_
      rw [if_pos (by simp)]
     rw [this]
     exact⟨⟨.inr (by simp),_,_,_,hv'⟩,rfl⟩
   grind
  grind
 · -- buildSlice
  rename_i t n parts
  split at C
  ·rename_i J hel
   obtain⟨hlen,hmax,Y,hz,C⟩:=C
   split at C
   ·rename_i vs hp
    subst C
    obtain⟨k1,k2,k3,k4⟩:=Rh (ρ:=a.eval) (fun x hx=>hop x.2 (by grind [Op.operands])) hp
    rw [List.length_map] at hlen
    have hb:=hB (pos,vs) (by simp)
    obtain⟨i,hi1,hi2⟩:=KW Y
    have G:∃z,i.zero=some z∧z.cells.toList=tz cx.P J:=by
     unfold tz at hz ⊢
     simp only [hi1,Option.bind_some] at hz ⊢
     cases hzz:i.zero with
     |none=>grind
     |some z=>grind
    obtain⟨z,hz1,hz2⟩:=G
    refine Zw hs J hb.2 hb.1 (OD (X7 hp)) k3 (v:=.slice (some ⟨w.heap.size,0,none⟩) n n) ?_ (fun γ' h2 h3 h4=>?_) hk
    ·have hfill:=X4 (tsz cx.P J) (parts.toList.map fun x=>a.eval x.2) 0 [] (((Array.range (n*tsz cx.P J)).map (z.cells[· % z.cells.size]!)).toList) (fun v hv=>by
      grind) (by simp) (by grind)
     rw [← k1] at hfill
     have hsz':tsz cx.P J≠0:=by omega
     have hn0:¬ (2 ^ 24<n*tsz cx.P J):=by omega
     have e1:(parts.map fun x=>(x.1,a.eval x.2)).toList =parts.toList.map fun x=>(x.1,a.eval x.2):=by simp
     have e2:(parts.toList.map fun x=>a.eval x.2).map (fun v=>v.cells.toList)=parts.toList.map fun x=>(a.eval x.2).cells.toList :=by simp
     simp only [List.nil_append,Array.toArray_toList] at hfill
     rw [e2] at hfill
     by_cases hnz:n*tsz cx.P J=0
     ·have hn:n=0:=by
       grind [Nat.mul_eq_zero]
      subst hn
      have hp0:parts.toList=[] :=List.eq_nil_of_length_eq_zero hlen
      have hp1:parts= #[] :=by grind
      subst hp1
      have e0:Array.range 0= #[] :=by rfl
      simp [execOp,Instr.buildSlice,run_underlying (H9 hel),C7 Y,Instr.fill,newRow,e0]
     ·simp only [execOp,Instr.buildSlice,Sem.run_bind,run_underlying (H9 hel),Result.andThen_ok,C7 Y,Sem.run_ite,if_neg hn0,hnz,if_false,zeroValue,typeInfo,run_program,hi1,hz1,Sem.run_pure]
      have e3:(Array.map (fun x=>match x with|(i,x)=>(i,a.eval x)) parts).toList =parts.toList.map fun x=>(x.1,a.eval x.2):=by simp
      simp_all [newRow]
    ·simp only [VSim]
     exact⟨h2,by have:=Nat.le_mul_of_pos_right n Y; grind [maxLen],by rw [h3,h4]⟩
   grind
  grind
 · -- alloc
  rename_i t
  obtain⟨vs,hz,hl,rfl⟩:=C
  have hb:=hB (pos,vs.map zAV) (by simp)
  have G:∃z,(zeroValue t).run cx.P w= .ok z w∧z.cells.toList=vs:=by
   unfold tz at hz
   cases hi:cx.P.info? t with
   |none=>grind
   |some i=>
    cases hzz:i.zero with
    |none=>grind
    |some z=>simp_all [zeroValue,typeInfo]
  obtain⟨z,hz1,hz2⟩:=G
  refine Zw hs (us:=vs) t hb.2 hb.1 (OD (by grind [PD,mQ])) (AH.mk (by simp) fun i x u h1 h2=>?_) (v:=.pointer (some ⟨w.heap.size,0,none⟩)) ?_ (fun γ' h2 h3 h4=>?_) hk
  ·rw [List.getElem?_map,h2] at h1
   grind [KX]
  ·subst hz2
   simp [execOp,Instr.alloc,hz1,newVar,newRow]
  grind [VSim]
 · -- build
  rename_i t parts
  split at C
  ·rename_i fs hfs
   obtain⟨hall,hpos,ws,hb,rfl⟩:=C
   obtain⟨gs,hu,rfl⟩:=bW hfs
   rw [List.all_eq_true] at hall
   have G:∃z,(zeroValue t).run cx.P w= .ok z w∧z.cells.toList=tz cx.P t:=by
    unfold tz at hpos ⊢
    cases hi:cx.P.info? t with
    |none=>grind
    |some i=>
     cases hzz:i.zero with
     |none=>grind
     |some z=>simp_all [zeroValue,typeInfo]
   obtain⟨z,hz1,hz2⟩:=G
   have hall':∀f ∈ gs.toList,0<tsz cx.P f.type:=fun f hf=>by
    simp_all
   have hpl:=YC (P:=cx.P) (w:=w) (fun f:Field=>Functor.map (Prod.mk f.offset) (sizeOf f.type)) (fun f=>(f.offset,tsz cx.P f.type)) gs.toList fun f hf=>by simp_all [C7]
   obtain⟨us',h1,h2⟩:=MU (ρ:=a.eval) (pl:=fun x=>Option.map (fun f:Field=>(f.offset,tsz cx.P f.type)) gs[x]?) (fs:=gs.toList.map fun f=>(f.offset,f.type)) (fun f q U=>by
    grind)
    (fun x hx=>hop x.2 (by grind [Op.operands]))
    (AH.mk (us:=tz cx.P t) (by simp) fun i x u h1 h2=>by
     rw [List.getElem?_map,h2] at h1
     grind [KX]) hb
   refine Aq hs (v:=.agg us'.toArray) ?_ (by grind [VSim]) hk
   have e0:z.cells.toList.toArray=z.cells:=Array.toArray_toList
   rw [← hz2,e0] at h1
   have e1:(Array.map (fun x=>match x with|(i,x)=>(i,a.eval x)) parts).toList =parts.toList.map fun x=>(x.1,a.eval x.2):=by simp
   simp only [execOp,Instr.build,Sem.run_bind,hz1,Result.andThen_ok,run_underlying hu]
   rw [Array.mapM_eq_mapM_toList]
   simp_all
  ·rename_i n J hfs
   obtain⟨Y,hall,hpos,ws,hb,rfl⟩:=C
   have hu:=Wd hfs
   have G:∃z,(zeroValue t).run cx.P w= .ok z w∧z.cells.toList=tz cx.P t:=by
    unfold tz at hpos ⊢
    cases hi:cx.P.info? t with
    |none=>grind
    |some i=>
     cases hzz:i.zero with
     |none=>grind
     |some z=>simp_all [zeroValue,typeInfo]
   obtain⟨z,hz1,hz2⟩:=G
   obtain⟨us',h1,h2⟩:=MU (ρ:=a.eval) (pl:=fun i=>some (i*tsz cx.P J,tsz cx.P J)) (fs:=MN (tsz cx.P J) J n 0) (fun f q U=>by
    rw [Va U]; simp)
    (fun x hx=>hop x.2 (by grind [Op.operands]))
    (AH.mk (us:=tz cx.P t) (by simp) fun i x u h1 h2=>by
     rw [List.getElem?_map,h2] at h1
     grind [KX]) hb
   refine Aq hs (v:=.agg us'.toArray) ?_ (by grind [VSim]) hk
   have e0:z.cells.toList.toArray=z.cells:=Array.toArray_toList
   rw [← hz2,e0] at h1
   have e1:(Array.map (fun x=>match x with|(i,x)=>(i,a.eval x)) parts).toList =parts.toList.map fun x=>(x.1,a.eval x.2):=by simp
   simp_all [execOp,Instr.build,run_underlying,C7]
  grind
 · -- makeSlice
  rename_i t l c
  split at C
  ·rename_i J n m hel hl hc
   obtain⟨hnm,h0,hb,h63,Y,htz,q,z,hz,rfl⟩:=C
   unfold leX at hnm
   have k1:=hop l (by simp [Op.operands])
   have k2:=hop c (by simp [Op.operands])
   rw [hl] at k1; rw [hc] at k2
   simp only [VSim] at k1 k2
   obtain⟨i,hi,his⟩:=KW (P:=cx.P) (t:=J) Y
   have G:∃zv,i.zero=some zv∧zv.cells.toList=tz cx.P J:=by
    unfold tz at htz ⊢
    simp only [hi,Option.bind_some] at htz ⊢
    cases hzz:i.zero with
    |none=>grind
    |some zv=>grind
   obtain⟨zv,hz1,hz2⟩:=G
   have hby:cx.P.bytesOf J=i.bytes:=by simp [Program.bytesOf,hi]
   rw [hby] at hb
   obtain⟨m',rfl⟩:=Int.eq_ofNat_of_zero_le (Int.le_trans h0 hnm)
   obtain⟨n',rfl⟩:=Int.eq_ofNat_of_zero_le h0
   have hle:n'≤m':=by omega
   simp only [Int.toNat_natCast] at hb
   have hr:=run_make (P:=cx.P) w t J i zv (H9 hel) hi hz1 .i64 .i64 (n':Int) (m':Int) h0 hnm (by
    have:((m'*i.bytes:Nat):Int)≤281474976710656:=by omega
    rw [Int.natCast_mul] at this
    rw [Int.mul_comm]; omega) (by omega)
   simp only [Int.toNat_natCast] at hr
   have hids:∀x ∈ [pos*16],¬γ.tl x:=fun x hx=>by
    simp_all
   have htok:=(hT (pos*16,⟨List.replicate ((n':Int)).toNat z,some (tsz cx.P J),0,q⟩) (by simp)).1
   simp only [Int.toNat_natCast] at htok
   have hbel:Below w.heap.size w (w.alloc (.cells (madeCells zv.cells (m'*i.size)) J)):=(Below.refl _ w).alloc (Nat.le_refl _) _
   have hlen:(madeCells zv.cells (m'*i.size)).toList.length =m'*tsz cx.P J:=by rw [Array.length_toList,size_madeCells,his]
   have hzl:zv.cells.size=tsz cx.P J:=by rw [← Array.length_toList,hz2,htz]
   refine LO (v:=.slice (some ⟨w.heap.size,0,none⟩) n' m') (w':=w.alloc (.cells (madeCells zv.cells (m'*i.size)) J)) (by simp_all [execOp]) (hk _ _ (γ.toks (w.alloc (.cells (madeCells zv.cells (m'*i.size)) J)) [pos*16] (fun _=>.slice (some ⟨w.heap.size,0,none⟩) n' m') (fun _=>[w.heap.size])) (Gh.toks_ext hids) (fun x hx=>?_) (fun b h=>.inl h) (hs.newToks hbel hids (fun x hx tk htk=>?_) fun x hx y hy hne=>?_) ?_)
   ·rcases hx with h|h
    ·grind
    simp_all
   ·simp only [List.mem_singleton] at hx; subst hx
    have:T (pos*16)=some ⟨List.replicate n' z,some (tsz cx.P J),0,q⟩:=htok
    rw [this] at htk
    cases htk
    have hR:OwnR (zvw q γ.vw) (w.alloc (.cells (madeCells zv.cells (m'*i.size)) J)) (madeCells zv.cells (m'*i.size)).toList (tsz cx.P J) 0 (List.replicate n' z) [] :=by
     grind [fo,Nat.mod_lt,Nat.lt_of_lt_of_le,Nat.mul_le_mul_right,madeCells]
    have hB0:Blk (w.alloc (.cells (madeCells zv.cells (m'*i.size)) J)) w.heap.size J (madeCells zv.cells (m'*i.size)).toList :=by
     unfold Blk
     rw [Array.toArray_toList]
     exact heap_alloc_new w _
    exact⟨⟨.inr ⟨w.heap.size,0,m',_,_,[],by simp,by grind,by grind [maxLen],hB0,by rw [hlen]; omega,hR,rfl⟩,by simp,by simp⟩,rfl⟩
   ·grind
   ·simp only [VSim]
    have:(γ.toks (w.alloc (.cells (madeCells zv.cells (m'*i.size)) J)) [pos*16] (fun _=>Value.slice (some ⟨w.heap.size,0,none⟩) n' m') (fun _=>[w.heap.size])).tv (pos*16)= .slice (some ⟨w.heap.size,0,none⟩) n' m':=by
     show (if pos*16 ∈ [pos*16] then _ else _)=_
     rw [if_pos (by simp)]
    rw [this]
    exact⟨⟨.inr (by simp),_,_,_,rfl⟩,rfl⟩
  grind
 · -- makeMap
  rename_i t
  obtain⟨q,-,rfl⟩:=C
  have hb:=hB (pos,[.mpc q []]) (by simp)
  refine LO (v:=.map (some w.heap.size)) (w':=w.alloc (.map #[] 0)) (by rfl) (hk _ _ (γ.box pos w.heap.size) (Gh.box_ext hb.2) (fun t h=>.inl h) (fun x h=>?_) (hs.newMap hb.2 hb.1) ?_)
  ·rcases h with h|rfl
   ·grind
   simp_all
  ·simp only [VSim]
   refine⟨.inr rfl,?_⟩
   show _=Value.map (some (if pos=pos then _ else _))
   rw [if_pos rfl]
 · -- lookup
  rename_i t x i ok
  obtain⟨v,hl,rfl⟩:=C
  unfold Ra at hl
  split at hl
  ·rename_i kt et b hu hx
   obtain⟨q,rows,hBb,U,k,hkd,hkb,z,hz,rfl⟩:=hl
   have h1:=hop x (by simp [Op.operands])
   have h2:=hop i (by simp [Op.operands])
   rw [hx] at h1
   simp only [VSim] at h1
   obtain⟨hbl,hm⟩:=h1
   obtain⟨es,c,h3,h4,-⟩:=Wf hs hbl hBb
   have hkv:=Ta h2 hkd
   have hkk:=fv hkb
   have hck:=fun e=>Vh (P:=cx.P) (w:=w) U hkk hkv e
   have hzr:=dQ (w:=w) hz
   rcases key_find (P:=cx.P) (w:=w) U hkk hkv h4 with ⟨-,k2,hf⟩|⟨j,e,d,-,k2,hf,-,-,k6⟩
   ·rw [k2] at hk
    simp only [Option.map_none,Option.getD_none,Option.isSome_none] at hk
    cases ok with
    |false=>exact Aq hs (v:=z) (by simp [execOp,Instr.lookup,run_underlying (OM hu),hm,MapKept.run_getObj_map h3,hck,hf,hzr]) (KX z) hk
    |true=>exact Aq hs (v:=.tuple #[z,.bool false]) (by simp [execOp,Instr.lookup,run_underlying (OM hu),hm,MapKept.run_getObj_map h3,hck,hf,hzr]) (by grind [VSim,AH,KX]) hk
   ·rw [k2] at hk
    simp only [Option.map_some,Option.getD_some,Option.isSome_some] at hk
    cases ok with
    |false=>exact Aq hs (v:=e.val) (by simp [execOp,Instr.lookup,run_underlying (OM hu),hm,MapKept.run_getObj_map h3,hck,hf]) (X9 k6) hk
    |true=>exact Aq hs (v:=.tuple #[e.val,.bool true]) (by simp [execOp,Instr.lookup,run_underlying (OM hu),hm,MapKept.run_getObj_map h3,hck,hf]) (by grind [VSim,AH,X9]) hk
  grind
 grind
end
end Go.Proofs.YthenkmapmnkelaaGreatDoor.Ab
