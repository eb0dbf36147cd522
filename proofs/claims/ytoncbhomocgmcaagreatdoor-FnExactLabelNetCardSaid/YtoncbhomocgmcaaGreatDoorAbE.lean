/-
  The abstract walk, fifth part: arguments of calls, results of calls, arithmetic.
-/
import Derived.Test.YtoncbhomocgmcaaGreatDoorAbD
namespace Go.Proofs.YtoncbhomocgmcaaGreatDoor.Ab
set_option linter.unusedVariables false
set_option maxHeartbeats 1000000
set_option linter.unusedSimpArgs false
open Go.RowKit
theorem Tok.rep_er {tk:Tok} {w:World} {r:List (List D)} {v:Value} (h:Rep w (.sl r) v):Rep w (.sl (tk.er r)) v:=by
 unfold Tok.er zer
 have:=h.er
 split
 ·grind [Ab.er]
 ·exact h
 ·grind [Ab.er]
theorem PI {T} {t g} {p} {r} (h:subE T t g p=some r):∃rows tk,subR T t g p=some rows∧T t=some tk∧r=tk.er rows:=by
 unfold subE at h
 unfold subR
 cases hT:T t with
 |none=>grind
 | some tk=>
  simp only [hT] at h ⊢
  by_cases hg:tk.gen=g
  ·rw [if_pos hg] at h ⊢
   cases hp:getP p tk.rows with
   |none=>rw [hp] at h; cases h
   |some rows=>
    rw [hp] at h
    grind
  grind
theorem eF {a:AV} {d:D} (h:unD a=some d) (e:d.pt=true):a.pt=true:=by
 cases a with
 |rop vs off=>rfl
 |nilp=>rfl
 |_=>simp [unD] at h <;> subst h <;> cases e
theorem eG {T:Nat→Option Tok} {B:Nat→Option (List AV)} {a x:AV} (h:cl T B a=some x) (e:x.pt=true):a.pt=true:=by
 cases a with
 |rop|nilp|box|elt|els=>rfl
 | _=>
  simp only [cl] at h
  repeat' split at h
  all_goals first
   |(simp only [Option.map_eq_some_iff] at h; obtain⟨_,_,rfl⟩:=h; cases e)
   |(simp only [Option.some.injEq] at h; subst h; cases e)
   |cases h
theorem WX {T:Nat→Option Tok} {B:Nat→Option (List AV)}:∀ {vs xs:List AV},cls T B vs=some xs→AV.pts xs=true→AV.pts vs=true
 | [],xs,h,e=>by simp only [cls,Option.some.injEq] at h; subst h; exact e
 | a::as,xs,h,e=>by
  simp only [cls] at h
  split at h
  ·rename_i x ys h1 h2
   simp only [Option.some.injEq] at h
   subst h
   simp only [AV.pts,List.any_cons,Bool.or_eq_true] at e ⊢
   exact e.imp (eG h1) (WX h2)
  ·cases h
theorem YT {T:Nat→Option Tok} {B:Nat→Option (List AV)} {vs xs:List AV} {P:Prop} (h:cls T B vs=some xs) (k:AV.pts vs=true→P):AV.pts xs=true→P:=fun e=>k (WX h e)
mutual
theorem Iy {w0} {γ}:∀ {a} {u} {d},VSim w0 γ a u→unD a=some d→Rep w0 d u
 | .int k n,u,d,ha,h=>by grind [unD,VSim,Rep]
 | .bool b,u,d,ha,h=>by grind [unD,VSim,Rep]
 | .str s,u,d,ha,h=>by grind [unD,VSim,Rep]
 | .ro rows,u,d,ha,h=>by grind [unD,VSim]
 | .nilp,u,d,ha,h=>by grind [unD,VSim,Rep]
 | .rop vs 0,u,d,ha,h=>by
  simp only [unD] at h
  cases hu:unDs vs with
  |none=>rw [hu] at h; cases h
  |some ds=>
   rw [hu] at h
   simp only [Option.map_some,Option.some.injEq] at h
   subst h
   simp only [VSim] at ha
   obtain⟨b,o,us,rfl,h1,hp,h2⟩:=ha
   simp only [Rep]
   exact⟨b,o,rfl,NT h1 hu hp h2⟩
 | .rop vs (_+1),_,_,_,h=>by simp [unD] at h
 | .any,_,_,_,h=>by simp [unD] at h
 | .own _,_,_,_,h=>by simp [unD] at h
 | .box _ _,_,_,_,h=>by simp [unD] at h
 | .bsl _ _ _,_,_,_,h=>by simp [unD] at h
 | .elt _ _ _ _,_,_,_,h=>by simp [unD] at h
 | .sub _ _ _,_,_,_,h=>by simp [unD] at h
 | .par _ _ _ _,_,_,_,h=>by simp [unD] at h
 | .els _ _ _ _ _ _,_,_,_,h=>by simp [unD] at h
 | .agg _,_,_,_,h=>by simp [unD] at h
 | .tup _,_,_,_,h=>by simp [unD] at h
 | .fn _ _,_,_,_,h=>by simp [unD] at h
 | .nils,_,_,_,h=>by simp [unD] at h
 | .mpr _,_,_,_,h=>by simp [unD] at h
 | .mpc _ _,_,_,_,h=>by simp [unD] at h
theorem NT {w0} {γ}:∀ {vs} {us} {ds},AD w0 γ vs us→unDs vs=some ds→∀ {b o},(AV.pts vs=true→PF w0 b)→(∀j u,us[j]? =some u→w0.cell? ⟨b,o+j,none⟩=some u)→RepC w0 b o ds
 | [],us,ds,_,h,b,o,_,hc=>by grind [unDs,RepC]
 | a ::as,us,ds,hv,h,b,o,hp,hc=>by
  simp only [AD] at hv
  obtain⟨u,us',rfl,h1,h2⟩:=hv
  simp only [unDs] at h
  cases ha:unD a with
  |none=>rw [ha] at h; cases h
  | some d=>
   cases has:unDs as with
   |none=>rw [ha,has] at h; cases h
   | some ds'=>
    rw [ha,has] at h
    simp only [Option.some.injEq] at h
    subst h
    simp only [RepC]
    exact⟨⟨⟨u,hc 0 u rfl,Iy h1 ha⟩,fun e=>hp (by simp [AV.pts,eF ha e])⟩,NT h2 has (fun e=>hp (by rw [AV.pts] at e ⊢; simp [e])) fun j x hx=>by
     have:=hc (j+1) x (by simpa using hx)
     rw [show o+1+j=o+(j+1) from by omega]; exact this⟩
end
theorem U8 {w0:World} {γ:Gh} {T:Nat→Option Tok} {B:Nat→Option (List AV)} {w:World} (hs:VwOk w0 γ T B w) {a:AV} {u:Value} {d:D} (ha:VSim w0 γ a u) (h:toD T a=some d):Rep w d u:=by
 cases a with
 |int k n=>grind [toD,VSim,Rep]
 |bool b=>grind [toD,VSim,Rep]
 |str s=>grind [toD,VSim,Rep]
 |ro rows=>simp only [toD,Option.some.injEq] at h; subst h; simp only [VSim] at ha; exact Rep.keep hs.keeps _ _ ha
 |nils=>simp only [toD,Option.some.injEq] at h; subst h; simp only [VSim] at ha; subst ha; exact⟨none,0,rfl,Nat.le_refl _,Nat.zero_le _,.inl rfl⟩
 | own t=>
  simp only [toD] at h
  cases hT:T t with
  |none=>grind
  |some tk=>
   simp only [hT,Option.map_some,Option.some.injEq] at h; subst h
   simp only [VSim] at ha
   obtain⟨h1,rfl⟩:=ha
   exact Tok.rep_er ((hs.tok t tk h1.1 hT).rep hs.keeps)
 |nilp=>grind [toD,VSim,Rep]
 |rop vs off=>simp only [toD] at h; exact Rep.keep hs.keeps _ _ (Iy ha h)
 |_=>simp [toD] at h
theorem NU {w0} {γ} {T} {B} {w} (hs:VwOk w0 γ T B w):∀ {as} {us} {ds},AD w0 γ as us→toDs T as=some ds→ds.length=us.length∧∀ (i:Nat) (d:D) (u:Value),ds[i]? =some d→us[i]? =some u→Rep w d u
 | [],us,ds,h,hd=>by
  grind [AD,toDs]
 | a::as,us,ds,h,hd=>by
  simp only [AD] at h
  obtain⟨u,us',rfl,h1,h2⟩:=h
  simp only [toDs] at hd
  cases ha:toD T a with
  |none=>simp [ha] at hd
  | some d=>
   cases has:toDs T as with
   |none=>simp [ha,has] at hd
   |some ds'=>
    simp only [ha,has,Option.some.injEq] at hd
    subst hd
    obtain⟨h3,h4⟩:=NU hs h2 has
    refine⟨by simp [h3],fun i d' u' h5 h6=>?_⟩
    cases i with
    |zero=>simp at h5 h6; subst h5 h6; exact U8 hs h1 ha
    |succ i=>exact h4 i d' u' (by simpa using h5) (by simpa using h6)
theorem PJ {T} {B} {vs} {ds} (h:toAs T B vs=some ds):isMp vs=false:=by
 cases vs with
 |nil=>rfl
 |cons a l=>cases l with
  |nil=>cases a <;> simp [toAs,toA,isMp,AV.mp?] at h ⊢
  |cons b l=>rfl
theorem U9 {T} {vs} {ds} (h:toDs T vs=some ds):isMp vs=false:=by
 cases vs with
 |nil=>rfl
 |cons a l=>cases l with
  |nil=>cases a <;> simp [toDs,toD,isMp,AV.mp?] at h ⊢
  |cons b l=>rfl
theorem UL {w0} {γ} {T} {B} {w} (hs:VwOk w0 γ T B w) {b} {vs} {ds} (hbl:γ.bl b) (hB:B b=some vs) (hd:toDs T vs=some ds):
  ds.length=vs.length∧RepC w (γ.bb b) (γ.bo b) ds:=by
 obtain⟨us,h1,h2⟩:=hs.box b vs hbl hB
 replace h2:=h2.cells (U9 hd)
 obtain⟨h3,h4⟩:=NU hs h1 hd
 have hl:=h1.length
 refine⟨by omega,RepC.mk (fun _ _ _=>h2.pf) fun i hi=>?_⟩
 have hi':i<us.length:=by omega
 exact⟨us[i],h2.cell (List.getElem?_eq_getElem hi'),h4 i _ _ (List.getElem?_eq_getElem hi) (List.getElem?_eq_getElem hi')⟩
theorem RepC.take {w} {b} {off} {ds} (h:RepC w b off ds) (n:Nat):RepC w b off (ds.take n):=
 RepC.mk (fun d hd e=>h.pf d (List.mem_of_mem_take hd) e) fun i hi=>by
  have hi':i<ds.length:=by rw [List.length_take] at hi; omega
  rw [List.getElem_take]; exact h.at i hi'
theorem RepC.drop {w} {b} {off} {ds} (h:RepC w b off ds) (n:Nat):RepC w b (off+n) (ds.drop n):=
 RepC.mk (fun d hd e=>h.pf d (List.mem_of_mem_drop hd) e) fun i hi=>by
  have hi':n+i<ds.length:=by rw [List.length_drop] at hi; omega
  rw [List.getElem_drop,Nat.add_assoc]; exact h.at (n+i) hi'
theorem BD (sz:Nat):∀ (n:Nat) (ds:List D),(An sz n ds).length =n
 |0,_=>rfl
 |n+1,ds=>by simp [An,BD sz n]
theorem Jk {w} {b sz}:∀ {n} {off} {ds},ds.length=n*sz→RepC w b off ds→RepR w sz b off (An sz n ds)
 |0,_,_,_,_=>by simp [An,RepR]
 |n+1,off,ds,hl,h=>by
  rw [Nat.add_mul] at hl
  simp only [An,RepR]
  exact⟨by rw [List.length_take]; omega,h.take sz,Jk (by rw [List.length_drop]; omega) (h.drop sz)⟩
mutual
theorem Cl {w0 w1} {γ γ'} (hk:Keeps w0 w1):∀ {a} {u},BM a=true→VSim w0 γ a u→VSim w1 γ' a u
 | .int _ _,u,_,h=>by grind [VSim]
 | .bool _,u,_,h=>by grind [VSim]
 | .str _,u,_,h=>by grind [VSim]
 | .ro _,u,_,h=>by grind [VSim,Rep.keep]
 | .nilp,u,_,h=>by grind [VSim]
 | .rop vs off,u,hp,h=>by
  simp only [BM] at hp
  simp only [VSim] at h ⊢
  obtain⟨b,o,us,hv,h1,hq,hc⟩:=h
  exact⟨b,o,us,hv,FX hk hp h1,NE hk h1 hc hq,fun j u hu=>hk _ _ (hc j u hu)⟩
 | .fn f vs,u,hp,h=>by
  simp only [BM] at hp
  simp only [VSim] at h ⊢
  obtain⟨us,hv,h1⟩:=h
  exact⟨us,hv,FX hk hp h1⟩
 | .agg vs,u,hp,h=>by
  simp only [BM] at hp
  simp only [VSim] at h ⊢
  obtain⟨us,hv,h1⟩:=h
  exact⟨us,hv,FX hk hp h1⟩
theorem FX {w0 w1} {γ γ'} (hk:Keeps w0 w1):∀ {as} {us},Bj as=true→AD w0 γ as us→AD w1 γ' as us
 | [],us,_,h=>by grind [AD]
 |a::as,us,hp,h=>by
  simp only [Bj,Bool.and_eq_true] at hp
  simp only [AD] at h ⊢
  obtain⟨u,us',rfl,h1,h2⟩:=h
  exact⟨u,us',rfl,Cl hk hp.1 h1,FX hk hp.2 h2⟩
end
theorem VA {w0:World} {γ:Gh} {T:Nat→Option Tok} {B:Nat→Option (List AV)} {w:World} (hs:VwOk w0 γ T B w) {a:AV} {u:Value} {x:AV} (ha:VSim w0 γ a u) (h:toA T B a=some x):VSim w Gh.none x u:=by
 have hk:=hs.keeps
 cases a with
 | own t=>
  simp only [toA] at h
  cases hT:T t with
  |none=>grind
  |some tk=>
   simp only [hT,Option.map_some,Option.some.injEq] at h; subst h
   simp only [VSim] at ha ⊢
   obtain⟨h1,rfl⟩:=ha
   exact Tok.rep_er ((hs.tok t tk h1.1 hT).rep hs.keeps)
 |nils=>simp only [toA,Option.some.injEq] at h; subst h; simp only [VSim] at ha ⊢; subst ha; exact⟨none,0,rfl,Nat.le_refl _,Nat.zero_le _,.inl rfl⟩
 |int k n=>simp only [toA,Option.some.injEq] at h; subst h; exact Cl hk rfl ha
 |bool b=>simp only [toA,Option.some.injEq] at h; subst h; exact Cl hk rfl ha
 |str s=>simp only [toA,Option.some.injEq] at h; subst h; exact Cl hk rfl ha
 |ro rows=>simp only [toA,Option.some.injEq] at h; subst h; exact Cl hk rfl ha
 |nilp=>simp only [toA,Option.some.injEq] at h; subst h; exact Cl hk rfl ha
 |rop vs off=>
  grind [toA,Cl,BM]
 |fn f vs=>
  grind [toA,Cl,BM]
 |mpr b=>grind [toA,VSim]
 | sub t g p=>
  simp only [toA] at h
  simp only [VSim] at ha
  cases hse:subE T t g p with
  |none=>grind
  |some r=>
   simp only [hse,Option.map_some,Option.some.injEq] at h; subst h
   obtain⟨rows,tk',hsub,-,rfl⟩:=PI hse
   obtain⟨tk,f1,f2,f3,-,-,-,-,-,hown,-⟩:=GU hs ha.1.1 hsub
   rw [ha.2.2]
   simp only [VSim]
   exact Tok.rep_er (hown.rep (Tok.vwk hs.keeps))
 | bsl b n sz=>
  simp only [toA] at h
  simp only [VSim] at ha
  cases hB:B b with
  |none=>grind
  | some vs=>
   cases hd:toDs T vs with
   |none=>grind
   | some ds=>
    simp only [hB,hd] at h
    split at h
    ·rename_i hl
     simp only [Option.some.injEq] at h; subst h
     simp only [VSim,Rep,BD]
     exact⟨_,_,ha.2.2,Nat.le_refl _,ha.2.1,.inr ⟨sz,_,_,rfl,Jk hl (UL hs ha.1 hB hd).2⟩⟩
    grind
 |_=>simp [toA] at h
theorem NV {w0} {γ} {T} {B} {w} (hs:VwOk w0 γ T B w):∀ {as} {us} {xs},AD w0 γ as us→toAs T B as=some xs→AD w Gh.none xs us
 | [],us,xs,h,hd=>by
  grind [toAs,AD]
 | a::as,us,xs,h,hd=>by
  simp only [AD] at h
  obtain⟨u,us',rfl,h1,h2⟩:=h
  simp only [toAs] at hd
  cases ha:toA T B a with
  |none=>simp [ha] at hd
  | some d=>
   cases has:toAs T B as with
   |none=>simp [ha,has] at hd
   |some ds'=>
    simp only [ha,has,Option.some.injEq] at hd
    subst hd
    simp only [AD]
    exact⟨u,us',rfl,VA hs h1 ha,NV hs h2 has⟩
theorem UM {w} {sz b off i n} {rows} (h:RepR w sz b off rows):RepR w sz b (off+i*sz) ((rows.drop i).take n):=
 RepR.mk fun k hk=>by
  have hk':i+k<rows.length:=by rw [List.length_take,List.length_drop] at hk; omega
  have:=h.at (i+k) hk'
  rw [Nat.add_mul,← Nat.add_assoc] at this
  rw [List.getElem_take,List.getElem_drop]
  omega
theorem WY {w} {rows} {v} {a} {m c sz i n} {r} (h:Rep w (.sl rows) v) (hv:v= .slice a m c) (hp:parR sz i n rows=some r):Rep w (.sl r) (.slice (if c=i then a else a.map (·.add (i*sz))) n (c - i)):=by
 unfold parR at hp
 split at hp
 ·rename_i h0
  obtain⟨hrl,hn⟩:=h0
  cases hp
  subst hv
  simp only [Rep] at h ⊢
  obtain⟨a',c',hv,h1,h2,h3⟩:=h
  simp only [Value.slice.injEq] at hv
  obtain⟨rfl,rfl,rfl⟩:=hv
  have hlen:((rows.drop i).take n).length =n:=by rw [List.length_take,List.length_drop]; omega
  refine⟨_,_,by rw [hlen],by rw [hlen]; omega,by omega,?_⟩
  by_cases he:n=0
  ·grind
  ·rcases h3 with h3|⟨sz',b,off,rfl,hR⟩
   ·rw [h3] at hn; grind
   ·have h5:0<rows.length:=by omega
    have h6:=(hR.at 0 h5).1
    have h7:=hrl rows[0] (List.getElem_mem h5)
    have h8:sz'=sz:=by omega
    subst h8
    rw [if_neg (by omega)]
    refine .inr ⟨_,b,off+i*sz',?_,UM hR⟩
    grind [Addr.add]
 grind
mutual
theorem Fu {w0:World} {γ:Gh} {T:Nat→Option Tok} {B:Nat→Option (List AV)} {w:World} (hs:VwOk w0 γ T B w):∀ {a:AV} {u:Value} {x:AV},VSim w0 γ a u→cl T B a=some x→VSim w Gh.none x u
 | .int k n,u,x,ha,h=>by grind [cl,VSim]
 | .bool b,u,x,ha,h=>by grind [cl,VSim]
 | .str s,u,x,ha,h=>by grind [cl,VSim]
 | .ro rows,u,x,ha,h=>by simp only [cl,Option.some.injEq] at h; subst h; simp only [VSim] at ha ⊢; exact Rep.keep hs.keeps _ _ ha
 | .nils,u,x,ha,h=>by simp only [cl,Option.some.injEq] at h; subst h; simp only [VSim] at ha ⊢; subst ha; exact⟨none,0,rfl,Nat.le_refl _,Nat.zero_le _,.inl rfl⟩
 | .mpr b,u,x,ha,h=>by grind [cl,VSim]
 | .mpc _ rows,u,x,ha,h=>by grind [cl,VSim]
 | .nilp,u,x,ha,h=>by grind [cl,VSim]
 | .own t,u,x,ha,h=>by
  simp only [cl] at h
  cases hT:T t with
  |none=>grind
  |some tk=>
   simp only [hT,Option.map_some,Option.some.injEq] at h; subst h
   simp only [VSim] at ha ⊢
   obtain⟨h1,rfl⟩:=ha
   exact Tok.rep_er ((hs.tok t tk h1.1 hT).rep hs.keeps)
 | .rop vs off,u,x,ha,h=>by
  simp only [cl] at h
  simp only [VSim] at ha
  obtain⟨b,o,us,hv,h1,hq,hc⟩:=ha
  cases hcl:cls T B vs with
  |none=>grind
  |some xs=>
   simp only [hcl,Option.map_some,Option.some.injEq] at h; subst h
   simp only [VSim]
   exact⟨b,o,us,hv,Fa hs h1 hcl,YT hcl (NE hs.keeps h1 hc hq),fun j u hu=>hs.keeps _ _ (hc j u hu)⟩
 | .box b off,u,x,ha,h=>by
  simp only [cl] at h
  simp only [VSim] at ha
  cases hB:B b with
  |none=>grind
  | some vs=>
   cases hd:toAs T B vs with
   |none=>grind
   |some ds=>
    simp only [hB,hd,Option.map_some,Option.some.injEq] at h; subst h
    obtain⟨us,h1,h2⟩:=hs.box b vs ha.1 hB
    simp only [VSim]
    exact⟨_,_,us,ha.2,NV hs h1 hd,fun _=>(h2.cells (PJ hd)).pf,fun j u hu=>(h2.cells (PJ hd)).cell hu⟩
 | .bsl b n sz,u,x,ha,h=>by
  simp only [cl] at h
  simp only [VSim] at ha
  cases hB:B b with
  |none=>grind
  | some vs=>
   cases hd:toDs T vs with
   |none=>grind
   | some ds=>
    simp only [hB,hd] at h
    split at h
    ·rename_i hl
     simp only [Option.some.injEq] at h; subst h
     simp only [VSim,Rep,BD]
     exact⟨_,_,ha.2.2,Nat.le_refl _,ha.2.1,.inr ⟨sz,_,_,rfl,Jk hl (UL hs ha.1 hB hd).2⟩⟩
    grind
 | .sub t g p,u,x,ha,h=>by
  simp only [cl] at h
  simp only [VSim] at ha
  cases hse:subE T t g p with
  |none=>grind
  |some r=>
   simp only [hse,Option.map_some,Option.some.injEq] at h; subst h
   obtain⟨rows,tk',hsub,-,rfl⟩:=PI hse
   obtain⟨tk,f1,f2,f3,-,-,-,-,-,hown,-⟩:=GU hs ha.1.1 hsub
   rw [ha.2.2]
   simp only [VSim]
   exact Tok.rep_er (hown.rep (Tok.vwk hs.keeps))
 | .par t sz i n,u,x,ha,h=>by
  simp only [cl] at h
  simp only [VSim] at ha
  obtain⟨htl,a,m,c,htv,rfl⟩:=ha
  cases hT:T t with
  |none=>grind
  | some tk=>
   simp only [hT] at h
   cases hp:parR sz i n tk.rows with
   |none=>grind
   |some r=>
    simp only [hp,Option.map_some,Option.some.injEq] at h; subst h
    simp only [VSim]
    exact Tok.rep_er (WY ((hs.tok t tk htl hT).rep hs.keeps) htv hp)
 | .els t g p sz i off,u,x,ha,h=>by
  simp only [cl] at h
  simp only [VSim] at ha
  obtain⟨⟨htl,-⟩,b,o,n,c,hv,rfl⟩:=ha
  cases hsub:subR T t g p with
  |none=>grind
  | some rows=>
   cases hr:rows[i]? with
   |none=>grind
   | some row=>
    simp only [hsub,hr] at h
    split at h
    ·rename_i hl
     simp only [Option.some.injEq] at h; subst h
     have hi:=Au hr
     obtain⟨tk,f1,f2,f3,-,-,-,-,-,hown,-⟩:=GU hs htl hsub
     have hrep:=hown.rep (Tok.vwk hs.keeps)
     rw [hv] at hrep
     simp only [Rep] at hrep
     obtain⟨a',c',hv',-,-,h3⟩:=hrep
     simp only [Value.slice.injEq] at hv'
     obtain⟨rfl,-,-⟩:=hv'
     rcases h3 with h3|⟨sz',b',o',he,hR⟩
     ·rw [h3] at hi; grind
     ·simp only [Option.some.injEq,Addr.mk.injEq,and_true] at he
      obtain⟨rfl,rfl⟩:=he
      have:=hR.at i hi
      rw [List.getElem?_eq_getElem hi] at hr
      simp only [Option.some.injEq] at hr
      rw [hr] at this
      obtain⟨us,h4,h5⟩:=LQ (γ:=Gh.none) this.2
      simp only [VSim]
      exact⟨_,_,us,by rw [← this.1,hl],h4,fun e=>IP this.2 (by rw [KQ]; exact e),h5⟩
    grind
 | .elt t sz i off,u,x,ha,h=>by
  simp only [cl] at h
  simp only [VSim] at ha
  obtain⟨htl,g,o,n,c,htv,rfl⟩:=ha
  cases hT:T t with
  |none=>grind
  | some tk=>
   cases hr:tk.rows[i]? with
   |none=>grind
   | some row=>
    simp only [hT,hr] at h
    split at h
    ·rename_i hl
     simp only [Option.some.injEq] at h; subst h
     have hi:=Au hr
     have hown:=(hs.tok t tk htl hT).rep hs.keeps
     simp only [Rep,htv] at hown
     obtain⟨a',c',hv,-,-,h3⟩:=hown
     simp only [Value.slice.injEq] at hv
     obtain⟨rfl,-,-⟩:=hv
     rcases h3 with h3|⟨sz',b',o',he,hR⟩
     ·rw [h3] at hi; grind
     ·simp only [Option.some.injEq,Addr.mk.injEq,and_true] at he
      obtain⟨rfl,rfl⟩:=he
      have:=hR.at i hi
      rw [List.getElem?_eq_getElem hi] at hr
      simp only [Option.some.injEq] at hr
      rw [hr] at this
      have hsz:sz'=sz:=by omega
      subst hsz
      obtain⟨us,k1,k2⟩:=LQ (γ:=Gh.none) this.2
      simp only [VSim]
      exact⟨_,_,us,rfl,k1,fun e=>IP this.2 (by rw [KQ]; exact e),k2⟩
    grind
 | .agg vs,u,x,ha,h=>by
  simp only [cl] at h
  simp only [VSim] at ha
  obtain⟨us,rfl,h1⟩:=ha
  cases hc:cls T B vs with
  |none=>grind
  |some xs=>
   simp only [hc,Option.map_some,Option.some.injEq] at h; subst h
   simp only [VSim]
   exact⟨us,rfl,Fa hs h1 hc⟩
 | .fn f vs,u,x,ha,h=>by
  simp only [cl] at h
  simp only [VSim] at ha
  obtain⟨us,hf,h1⟩:=ha
  cases hc:cls T B vs with
  |none=>grind
  |some xs=>
   simp only [hc,Option.map_some,Option.some.injEq] at h; subst h
   simp only [VSim]
   exact⟨us,hf,Fa hs h1 hc⟩
 | .tup _,_,_,_,h=>by simp [cl] at h
 | .any,_,_,_,h=>by simp [cl] at h
theorem Fa {w0} {γ} {T} {B} {w} (hs:VwOk w0 γ T B w):∀ {as} {us} {xs},AD w0 γ as us→cls T B as=some xs→AD w Gh.none xs us
 | [],us,xs,h,hx=>by
  grind [cls,AD]
 | a::as,us,xs,h,hx=>by
  simp only [AD] at h
  obtain⟨u,us',rfl,h1,h2⟩:=h
  simp only [cls] at hx
  cases ha:cl T B a with
  |none=>simp [ha] at hx
  | some y=>
   cases has:cls T B as with
   |none=>simp [ha,has] at hx
   |some ys=>
    simp only [ha,has,Option.some.injEq] at hx; subst hx
    simp only [AD]
    exact⟨u,us',rfl,Fu hs h1 ha,Fa hs h2 has⟩
end
structure ConvOk (w:World) (n:Nat) (toks:List (Nat × Tok)) (tv:Nat→Value) (tf:Nat→List Nat) (fp:List Nat):Prop where
 ids:∀i x,toks[i]? =some x→x.1 =n+i
 ok:∀x ∈ toks,AX default w x.2 (tv x.1) (tf x.1)∧(tf x.1).Nodup ∧∀g ∈ tf x.1,g ∈ fp
 dis:∀x ∈ toks,∀y ∈ toks,x.1 ≠y.1 →∀g ∈ tf x.1,g ∉ tf y.1
theorem ConvOk.nil (w:World) (n:Nat) (tv:Nat→Value) (tf:Nat→List Nat) (fp:List Nat):ConvOk w n [] tv tf fp:=⟨fun i x h=>by grind,fun x h=>by grind,fun x h=>by grind⟩
theorem ConvOk.lt {w} {n} {toks} {tv} {tf} {fp} (h:ConvOk w n toks tv tf fp) {x} (hx:x ∈ toks):n≤x.1 ∧x.1 <n+toks.length:=by
 obtain⟨i,hi,rfl⟩:=List.getElem_of_mem hx
 have:=h.ids i _ (List.getElem?_eq_getElem hi)
 omega
theorem ConvOk.append {w} {n} {t1 t2} {tv1 tv2} {tf1 tf2} {f1 f2} (h1:ConvOk w n t1 tv1 tf1 f1) (h2:ConvOk w (n+t1.length) t2 tv2 tf2 f2) (hd:∀g ∈ f1,g ∉ f2):
  ConvOk w n (t1++t2) (fun t=>if t<n+t1.length then tv1 t else tv2 t) (fun t=>if t<n+t1.length then tf1 t else tf2 t) (f1++f2):=by
 refine⟨fun i x hx=>?_,fun x hx=>?_,fun x hx y hy hne g hg=>?_⟩
 ·rw [List.getElem?_append] at hx
  split at hx
  ·exact h1.ids i x hx
  ·have:=h2.ids _ x hx; omega
 ·rcases List.mem_append.1 hx with hx|hx
  ·have hl:=h1.lt hx
   obtain⟨k1,k2,k3⟩:=h1.ok x hx
   grind
  ·have hl:=h2.lt hx
   obtain⟨k1,k2,k3⟩:=h2.ok x hx
   grind
 ·rcases List.mem_append.1 hx with hx|hx <;> rcases List.mem_append.1 hy with hy|hy
  ·have hl:=h1.lt hx
   have hm:=h1.lt hy
   simp only [if_pos hl.2,if_pos hm.2] at hg ⊢
   exact h1.dis x hx y hy hne g hg
  ·have hl:=h1.lt hx
   have hm:=h2.lt hy
   simp only [if_pos hl.2,if_neg (show ¬y.1 <n+t1.length by omega)] at hg ⊢
   exact fun h=>hd g ((h1.ok x hx).2.2 g hg) ((h2.ok y hy).2.2 g h)
  ·have hl:=h2.lt hx
   have hm:=h1.lt hy
   simp only [if_pos hm.2,if_neg (show ¬x.1 <n+t1.length by omega)] at hg ⊢
   exact fun h=>hd g ((h1.ok y hy).2.2 g h) ((h2.ok x hx).2.2 g hg)
  ·have hl:=h2.lt hx
   have hm:=h2.lt hy
   simp only [if_neg (show ¬x.1 <n+t1.length by omega),if_neg (show ¬y.1 <n+t1.length by omega)] at hg ⊢
   exact h2.dis x hx y hy hne g hg
def WZ (γ:Gh) (toks:List (Nat × Tok)) (tv:Nat→Value):Prop:=∀x ∈ toks,γ.tl x.1 ∧γ.tv x.1 =tv x.1
mutual
theorem NW {w} (w0:World):∀ {r} {v} {fp} (n:Nat),RSim w r v fp→fp.Nodup→∃tv tf,ConvOk w n (conv n r).2 tv tf fp∧∀γ,WZ γ (conv n r).2 tv→VSim w0 γ (conv n r).1 v
 | .int k x,v,fp,n,h,hn=>by simp_all [RSim,ConvOk.nil,conv,VSim]
 | .bool b,v,fp,n,h,hn=>by simp_all [RSim,ConvOk.nil,conv,VSim]
 | .str s,v,fp,n,h,hn=>by simp_all [RSim,ConvOk.nil,conv,VSim]
 | .ow ap rows,v,fp,n,h,hn=>by
  simp only [RSim] at h
  refine⟨fun _=>v,fun _=>fp,⟨fun i x hx=>?_,fun x hx=>?_,fun x hx y hy hne=>?_⟩,fun γ hg=>?_⟩
  ·grind [conv]
  ·grind [conv]
  ·grind [conv]
  ·simp only [conv,VSim]
   have:=hg (n,⟨rows,ap,0,.no⟩) (by simp [conv])
   have hr:=h.rep (Keeps.void w)
   grind [Rep]
 | .ro rows,v,fp,n,h,hn=>⟨fun _=>undef,fun _=>[],ConvOk.nil _ _ _ _ _,fun γ _=>by grind [conv,VSim]⟩
 | .nilp,v,fp,n,h,hn=>by simp_all [RSim,ConvOk.nil,conv,VSim]
 | .agg vs,v,fp,n,h,hn=>by
  simp only [RSim] at h
  obtain⟨us,rfl,h⟩:=h
  obtain⟨tv,tf,h1,h2⟩:=IQ w0 n h hn
  grind [conv,VSim]
 | .tup vs,v,fp,n,h,hn=>by
  simp only [RSim] at h
  obtain⟨us,rfl,h⟩:=h
  obtain⟨tv,tf,h1,h2⟩:=IQ w0 n h hn
  grind [conv,VSim]
theorem IQ {w} (w0:World):∀ {rs} {us} {fp} (n:Nat),KP w rs us fp→fp.Nodup→∃tv tf,ConvOk w n (EU n rs).2 tv tf fp∧∀γ,WZ γ (EU n rs).2 tv→AD w0 γ (EU n rs).1 us
 | [],us,fp,n,h,hn=>by simp_all [KP,ConvOk.nil,EU,AD]
 | r::rs,us,fp,n,h,hn=>by
  simp only [KP] at h
  obtain⟨u,us',f1,f2,rfl,h1,h2,rfl⟩:=h
  obtain⟨hn1,hn2,hd⟩:=List.nodup_append.1 hn
  obtain⟨tv1,tf1,k1,k2⟩:=NW w0 n h1 hn1
  obtain⟨tv2,tf2,k3,k4⟩:=IQ w0 (n+(conv n r).2.length) h2 hn2
  refine⟨_,_,k1.append k3 (fun g hg hg'=>hd g hg g hg' rfl),fun γ hg=>?_⟩
  simp only [EU,AD]
  refine⟨u,us',rfl,k2 γ fun x hx=>?_,k4 γ fun x hx=>?_⟩
  ·have:=hg x (by simp [EU,hx])
   have hl:=k1.lt hx
   grind
  ·have:=hg x (by simp [EU,hx])
   have hl:=k3.lt hx
   grind
end
theorem ED (k:IntKind) (n:Int):(Lit.int k (k.wrap n)).wf =true:=by
 cases k <;> simp [Lit.wf,IntKind.wrap,IntKind.min,IntKind.max,IntKind.signed,IntKind.bits] <;> first|omega|(split <;> omega)
theorem ae {k} {a} {n} (ha:(Lit.int k a).wf =true):(Lit.int k (a / 2 ^ n)).wf =true:=by
 simp only [Lit.wf,Bool.and_eq_true,decide_eq_true_eq] at ha ⊢
 have hmin:k.min≤0:=by cases k <;> simp [IntKind.min,IntKind.signed,IntKind.bits]
 have hmax:0≤k.max:=by cases k <;> simp [IntKind.max,IntKind.signed,IntKind.bits]
 have hp:(0:Int)<2 ^ n:=Int.pow_pos (by decide)
 rcases Int.le_total 0 a with h|h
 ·have:=Int.ediv_nonneg h (Int.le_of_lt hp)
  have:=Int.ediv_le_self (2 ^ n) h
  omega
 ·have h1:a≤a / 2 ^ n:=(Int.le_ediv_iff_mul_le hp).2 (by
   have:=Int.mul_le_mul_of_nonneg_left (show (1:Int)≤2 ^ n by omega) (show 0≤ -a by omega)
   rw [Int.neg_mul,Int.neg_mul] at this
   omega)
  have h2:a / 2 ^ n≤0:=by
   exact Int.le_of_lt_add_one ((Int.ediv_lt_iff_lt_mul hp).2 (by omega))
  omega
theorem YU {k} {a b} (ha:(Lit.int k a).wf =true):(Lit.int k (a.tmod b)).wf =true:=by
 have h0:(a.tmod b).natAbs ≤a.natAbs:=by rw [Int.natAbs_tmod]; exact Nat.mod_le _ _
 have h3:0≤a→0≤a.tmod b:=fun h=>Int.tmod_nonneg b h
 have h4:a≤0→a.tmod b≤0:=fun h=>by
  have:=Int.tmod_nonneg b (show 0≤ -a by omega)
  rw [Int.neg_tmod] at this; omega
 grind [Lit.wf,IntKind.min,IntKind.max]
mutual
theorem RN:∀ (n:Nat) (r:RV),∀x ∈ (conv n r).2,x.2.gen =0
 |n,.int _ _,x,h=>by grind [conv]
 |n,.bool _,x,h=>by grind [conv]
 |n,.str _,x,h=>by grind [conv]
 |n,.ow ap rows,x,h=>by grind [conv]
 |n,.ro _,x,h=>by grind [conv]
 |n,.nilp,x,h=>by grind [conv]
 |n,.agg vs,x,h=>by simp only [conv] at h; exact LR n vs x h
 |n,.tup vs,x,h=>by simp only [conv] at h; exact LR n vs x h
theorem LR:∀ (n:Nat) (rs:List RV),∀x ∈ (EU n rs).2,x.2.gen =0
 |n,[],x,h=>by grind [EU]
 |n,r::rs,x,h=>by
  simp only [EU,List.mem_append] at h
  rcases h with h|h
  ·exact RN n r x h
  ·exact LR _ rs x h
end
end Go.Proofs.YtoncbhomocgmcaaGreatDoor.Ab
