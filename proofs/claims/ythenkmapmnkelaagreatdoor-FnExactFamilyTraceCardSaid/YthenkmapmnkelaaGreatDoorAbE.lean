/- The abstract walk, fifth part. -/
import Derived.Test.YthenkmapmnkelaaGreatDoorAbD
namespace Go.Proofs.YthenkmapmnkelaaGreatDoor.Ab
set_option linter.unusedVariables false
set_option maxHeartbeats 1000000
set_option linter.unusedSimpArgs false
open Go.RowKit
theorem Tok.rep_er {tk:Tok} {w:World} {r:List (List D)} {v:Value} (h:Rep w (.sl r) v):Rep w (.sl (tk.er r)) v:=by
 unfold Tok.er zer
 have:=h.er
 split
 ·grind [Ab.er]
 ·exact h
 ·grind [Ab.er]
theorem VX {T} {t g} {p} {r} (h:subE T t g p=some r):∃rows tk,subR T t g p=some rows∧T t=some tk∧r=tk.er rows:=by
 unfold subE at h
 unfold subR
 cases hT:T t with
 |none=>grind
 | some tk=>
  simp only [hT] at h ⊢
  by_cases hg:tk.gen=g
  ·rw [if_pos hg] at h ⊢
   cases hp:getP p tk.rows with
   |none=>rw [hp] at h; cases h
   |some rows=>
    rw [hp] at h
    grind
  grind
theorem pd {a:AV} {d:D} (h:unD a=some d) (e:d.pt=true):a.pt=true:=by
 cases a with
 |rop vs off=>rfl
 |nilp=>rfl
 |_=>simp [unD] at h <;> subst h <;> cases e
theorem pe {T:Nat→Option Tok} {B:Nat→Option (List AV)} {a x:AV} (h:cl T B a=some x) (e:x.pt=true):a.pt=true:=by
 cases a with
 |rop|nilp|box|elt|els=>rfl
 | _=>
  simp only [cl] at h
  repeat' split at h
  all_goals first
   |(simp only [Option.map_eq_some_iff] at h; obtain⟨_,_,rfl⟩:=h; cases e)
   |(simp only [Option.some.injEq] at h; subst h; cases e)
   |cases h
theorem ff {T:Nat→Option Tok} {B:Nat→Option (List AV)}:∀ {vs xs:List AV},cls T B vs=some xs→AV.pts xs=true→AV.pts vs=true
 | [],xs,h,e=>by simp only [cls,Option.some.injEq] at h; subst h; exact e
 | a::as,xs,h,e=>by
  simp only [cls] at h
  split at h
  ·rename_i x j h1 h2
   simp only [Option.some.injEq] at h
   subst h
   simp only [AV.pts,List.any_cons,Bool.or_eq_true] at e ⊢
   exact e.imp (pe h1) (ff h2)
  ·cases h
theorem jV {T:Nat→Option Tok} {B:Nat→Option (List AV)} {vs xs:List AV} {P:Prop} (h:cls T B vs=some xs) (k:AV.pts vs=true→P):AV.pts xs=true→P:=fun e=>k (ff h e)
mutual
theorem NQ {w0} {γ}:∀ {a} {u} {d},VSim w0 γ a u→unD a=some d→Rep w0 d u
 | .int k n,u,d,ha,h=>by grind [unD,VSim,Rep]
 | .bool b,u,d,ha,h=>by grind [unD,VSim,Rep]
 | .str s,u,d,ha,h=>by grind [unD,VSim,Rep]
 | .ro rows,u,d,ha,h=>by grind [unD,VSim]
 | .nilp,u,d,ha,h=>by grind [unD,VSim,Rep]
 | .rop vs 0,u,d,ha,h=>by
  simp only [unD] at h
  cases hu:unDs vs with
  |none=>rw [hu] at h; cases h
  |some ds=>
   rw [hu] at h
   simp only [Option.map_some,Option.some.injEq] at h
   subst h
   simp only [VSim] at ha
   obtain⟨b,o,us,rfl,h1,hp,h2⟩:=ha
   simp only [Rep]
   exact⟨b,o,rfl,TN h1 hu hp h2⟩
 | .rop vs (_+1),_,_,_,h=>by simp [unD] at h
 | .any,_,_,_,h=>by simp [unD] at h
 | .own _,_,_,_,h=>by simp [unD] at h
 | .box _ _,_,_,_,h=>by simp [unD] at h
 | .bsl _ _ _,_,_,_,h=>by simp [unD] at h
 | .elt _ _ _ _,_,_,_,h=>by simp [unD] at h
 | .sub _ _ _,_,_,_,h=>by simp [unD] at h
 | .par _ _ _ _,_,_,_,h=>by simp [unD] at h
 | .els _ _ _ _ _ _,_,_,_,h=>by simp [unD] at h
 | .agg _,_,_,_,h=>by simp [unD] at h
 | .tup _,_,_,_,h=>by simp [unD] at h
 | .fn _ _,_,_,_,h=>by simp [unD] at h
 | .nils,_,_,_,h=>by simp [unD] at h
 | .mpr _,_,_,_,h=>by simp [unD] at h
 | .mpc _ _,_,_,_,h=>by simp [unD] at h
theorem TN {w0} {γ}:∀ {vs} {us} {ds},AH w0 γ vs us→unDs vs=some ds→∀ {b o},(AV.pts vs=true→PF w0 b)→(∀j u,us[j]? =some u→w0.cell? ⟨b,o+j,none⟩=some u)→RepC w0 b o ds
 | [],us,ds,_,h,b,o,_,hc=>by grind [unDs,RepC]
 | a ::as,us,ds,hv,h,b,o,hp,hc=>by
  simp only [AH] at hv
  obtain⟨u,p,rfl,h1,h2⟩:=hv
  simp only [unDs] at h
  cases ha:unD a with
  |none=>rw [ha] at h; cases h
  | some d=>
   cases has:unDs as with
   |none=>rw [ha,has] at h; cases h
   | some ds'=>
    rw [ha,has] at h
    simp only [Option.some.injEq] at h
    subst h
    simp only [RepC]
    exact⟨⟨⟨u,hc 0 u rfl,NQ h1 ha⟩,fun e=>hp (by simp [AV.pts,pd ha e])⟩,TN h2 has (fun e=>hp (by rw [AV.pts] at e ⊢; simp [e])) fun j x hx=>by
     have:=hc (j+1) x (by simpa using hx)
     rw [show o+1+j=o+(j+1) from by omega]; exact this⟩
end
theorem dF {w0:World} {γ:Gh} {T:Nat→Option Tok} {B:Nat→Option (List AV)} {w:World} (hs:VwOk w0 γ T B w) {a:AV} {u:Value} {d:D} (ha:VSim w0 γ a u) (h:toD T a=some d):Rep w d u:=by
 cases a with
 |int k n=>grind [toD,VSim,Rep]
 |bool b=>grind [toD,VSim,Rep]
 |str s=>grind [toD,VSim,Rep]
 |ro rows=>simp only [toD,Option.some.injEq] at h; subst h; simp only [VSim] at ha; exact Rep.keep hs.keeps _ _ ha
 |nils=>simp only [toD,Option.some.injEq] at h; subst h; simp only [VSim] at ha; subst ha; exact⟨none,0,rfl,Nat.le_refl _,Nat.zero_le _,.inl rfl⟩
 | own t=>
  simp only [toD] at h
  cases hT:T t with
  |none=>grind
  |some tk=>
   simp only [hT,Option.map_some,Option.some.injEq] at h; subst h
   simp only [VSim] at ha
   obtain⟨h1,rfl⟩:=ha
   exact Tok.rep_er ((hs.tok t tk h1.1 hT).rep hs.keeps)
 |nilp=>grind [toD,VSim,Rep]
 |rop vs off=>simp only [toD] at h; exact Rep.keep hs.keeps _ _ (NQ ha h)
 |_=>simp [toD] at h
theorem TO {w0} {γ} {T} {B} {w} (hs:VwOk w0 γ T B w):∀ {as} {us} {ds},AH w0 γ as us→toDs T as=some ds→ds.length=us.length∧∀ (i:Nat) (d:D) (u:Value),ds[i]? =some d→us[i]? =some u→Rep w d u
 | [],us,ds,h,hd=>by
  grind [AH,toDs]
 | a::as,us,ds,h,hd=>by
  simp only [AH] at h
  obtain⟨u,q,rfl,h1,h2⟩:=h
  simp only [toDs] at hd
  cases ha:toD T a with
  |none=>simp [ha] at hd
  | some d=>
   cases has:toDs T as with
   |none=>simp [ha,has] at hd
   |some ds'=>
    simp only [ha,has,Option.some.injEq] at hd
    subst hd
    obtain⟨h3,C⟩:=TO hs h2 has
    refine⟨by simp [h3],fun i F v j p=>?_⟩
    cases i with
    |zero=>simp at j p; subst j p; exact dF hs h1 ha
    |succ i=>exact C i F v (by simpa using j) (by simpa using p)
theorem VY {T} {B} {vs} {ds} (h:toAs T B vs=some ds):isMp vs=false:=by
 cases vs with
 |nil=>rfl
 |cons a l=>cases l with
  |nil=>cases a <;> simp [toAs,toA,isMp,AV.mp?] at h ⊢
  |cons b l=>rfl
theorem dG {T} {vs} {ds} (h:toDs T vs=some ds):isMp vs=false:=by
 cases vs with
 |nil=>rfl
 |cons a l=>cases l with
  |nil=>cases a <;> simp [toDs,toD,isMp,AV.mp?] at h ⊢
  |cons b l=>rfl
theorem bX {w0} {γ} {T} {B} {w} (hs:VwOk w0 γ T B w) {b} {vs} {ds} (hbl:γ.bl b) (hB:B b=some vs) (hd:toDs T vs=some ds):
  ds.length=vs.length∧RepC w (γ.bb b) (γ.bo b) ds:=by
 obtain⟨us,h1,h2⟩:=hs.box b vs hbl hB
 replace h2:=h2.cells (dG hd)
 obtain⟨h3,p⟩:=TO hs h1 hd
 have u:=h1.length
 refine⟨by omega,RepC.mk (fun _ _ _=>h2.pf) fun i q=>?_⟩
 have j:i<us.length:=by omega
 exact⟨us[i],h2.cell (List.getElem?_eq_getElem j),p i _ _ (List.getElem?_eq_getElem q) (List.getElem?_eq_getElem j)⟩
theorem RepC.take {w} {b} {off} {ds} (h:RepC w b off ds) (n:Nat):RepC w b off (ds.take n):=
 RepC.mk (fun d hd e=>h.pf d (List.mem_of_mem_take hd) e) fun i p=>by
  have j:i<ds.length:=by rw [List.length_take] at p; omega
  rw [List.getElem_take]; exact h.at i j
theorem RepC.drop {w} {b} {off} {ds} (h:RepC w b off ds) (n:Nat):RepC w b (off+n) (ds.drop n):=
 RepC.mk (fun d hd e=>h.pf d (List.mem_of_mem_drop hd) e) fun i p=>by
  have j:n+i<ds.length:=by rw [List.length_drop] at p; omega
  rw [List.getElem_drop,Nat.add_assoc]; exact h.at (n+i) j
theorem Bx (sz:Nat):∀ (n:Nat) (ds:List D),(BD sz n ds).length =n
 |0,_=>rfl
 |n+1,ds=>by simp [BD,Bx sz n]
theorem OK {w} {b sz}:∀ {n} {off} {ds},ds.length=n*sz→RepC w b off ds→RepR w sz b off (BD sz n ds)
 |0,_,_,_,_=>by simp [BD,RepR]
 |n+1,off,ds,hl,h=>by
  rw [Nat.add_mul] at hl
  simp only [BD,RepR]
  exact⟨by rw [List.length_take]; omega,h.take sz,OK (by rw [List.length_drop]; omega) (h.drop sz)⟩
mutual
theorem EK {w0 w1} {γ γ'} (hk:Keeps w0 w1):∀ {a} {u},CC a=true→VSim w0 γ a u→VSim w1 γ' a u
 | .int _ _,u,_,h=>by grind [VSim]
 | .bool _,u,_,h=>by grind [VSim]
 | .str _,u,_,h=>by grind [VSim]
 | .ro _,u,_,h=>by grind [VSim,Rep.keep]
 | .nilp,u,_,h=>by grind [VSim]
 | .rop vs off,u,hp,h=>by
  simp only [CC] at hp
  simp only [VSim] at h ⊢
  obtain⟨b,o,us,hv,h1,q,p⟩:=h
  exact⟨b,o,us,hv,Ii hk hp h1,S8 hk h1 p q,fun j u v=>hk _ _ (p j u v)⟩
 | .fn f vs,u,hp,h=>by
  simp only [CC] at hp
  simp only [VSim] at h ⊢
  obtain⟨us,hv,h1⟩:=h
  exact⟨us,hv,Ii hk hp h1⟩
 | .agg vs,u,hp,h=>by
  simp only [CC] at hp
  simp only [VSim] at h ⊢
  obtain⟨us,hv,h1⟩:=h
  exact⟨us,hv,Ii hk hp h1⟩
theorem Ii {w0 w1} {γ γ'} (hk:Keeps w0 w1):∀ {as} {us},Cp as=true→AH w0 γ as us→AH w1 γ' as us
 | [],us,_,h=>by grind [AH]
 |a::as,us,hp,h=>by
  simp only [Cp,Bool.and_eq_true] at hp
  simp only [AH] at h ⊢
  obtain⟨u,j,rfl,h1,h2⟩:=h
  exact⟨u,j,rfl,EK hk hp.1 h1,Ii hk hp.2 h2⟩
end
theorem dH {w0:World} {γ:Gh} {T:Nat→Option Tok} {B:Nat→Option (List AV)} {w:World} (hs:VwOk w0 γ T B w) {a:AV} {u:Value} {x:AV} (ha:VSim w0 γ a u) (h:toA T B a=some x):VSim w Gh.none x u:=by
 have hk:=hs.keeps
 cases a with
 | own t=>
  simp only [toA] at h
  cases hT:T t with
  |none=>grind
  |some tk=>
   simp only [hT,Option.map_some,Option.some.injEq] at h; subst h
   simp only [VSim] at ha ⊢
   obtain⟨h1,rfl⟩:=ha
   exact Tok.rep_er ((hs.tok t tk h1.1 hT).rep hs.keeps)
 |nils=>simp only [toA,Option.some.injEq] at h; subst h; simp only [VSim] at ha ⊢; subst ha; exact⟨none,0,rfl,Nat.le_refl _,Nat.zero_le _,.inl rfl⟩
 |int k n=>simp only [toA,Option.some.injEq] at h; subst h; exact EK hk rfl ha
 |bool b=>simp only [toA,Option.some.injEq] at h; subst h; exact EK hk rfl ha
 |str s=>simp only [toA,Option.some.injEq] at h; subst h; exact EK hk rfl ha
 |ro j=>simp only [toA,Option.some.injEq] at h; subst h; exact EK hk rfl ha
 |nilp=>simp only [toA,Option.some.injEq] at h; subst h; exact EK hk rfl ha
 |rop vs off=>
  grind [toA,EK,CC]
 |fn f vs=>
  grind [toA,EK,CC]
 |mpr b=>grind [toA,VSim]
 | sub t g p=>
  simp only [toA] at h
  simp only [VSim] at ha
  cases hse:subE T t g p with
  |none=>grind
  |some r=>
   simp only [hse,Option.map_some,Option.some.injEq] at h; subst h
   obtain⟨j,C,v,-,rfl⟩:=VX hse
   obtain⟨tk,I,J,G,-,-,-,-,-,q,-⟩:=Jw hs ha.1.1 v
   rw [ha.2.2]
   simp only [VSim]
   exact Tok.rep_er (q.rep (Tok.vwk hs.keeps))
 | bsl b n sz=>
  simp only [toA] at h
  simp only [VSim] at ha
  cases hB:B b with
  |none=>grind
  | some vs=>
   cases hd:toDs T vs with
   |none=>grind
   | some ds=>
    simp only [hB,hd] at h
    split at h
    ·rename_i F
     simp only [Option.some.injEq] at h; subst h
     simp only [VSim,Rep,Bx]
     exact⟨_,_,ha.2.2,Nat.le_refl _,ha.2.1,.inr ⟨sz,_,_,rfl,OK F (bX hs ha.1 hB hd).2⟩⟩
    grind
 |_=>simp [toA] at h
theorem TP {w0} {γ} {T} {B} {w} (hs:VwOk w0 γ T B w):∀ {as} {us} {xs},AH w0 γ as us→toAs T B as=some xs→AH w Gh.none xs us
 | [],us,xs,h,hd=>by
  grind [toAs,AH]
 | a::as,us,xs,h,hd=>by
  simp only [AH] at h
  obtain⟨u,j,rfl,h1,h2⟩:=h
  simp only [toAs] at hd
  cases ha:toA T B a with
  |none=>simp [ha] at hd
  | some d=>
   cases has:toAs T B as with
   |none=>simp [ha,has] at hd
   |some ds'=>
    simp only [ha,has,Option.some.injEq] at hd
    subst hd
    simp only [AH]
    exact⟨u,j,rfl,dH hs h1 ha,TP hs h2 has⟩
theorem bZ {w} {sz b off i n} {rows} (h:RepR w sz b off rows):RepR w sz b (off+i*sz) ((rows.drop i).take n):=
 RepR.mk fun k hk=>by
  have j:i+k<rows.length:=by rw [List.length_take,List.length_drop] at hk; omega
  have:=h.at (i+k) j
  rw [Nat.add_mul,← Nat.add_assoc] at this
  rw [List.getElem_take,List.getElem_drop]
  omega
theorem fg {w} {rows} {v} {a} {m c sz i n} {r} (h:Rep w (.sl rows) v) (hv:v= .slice a m c) (hp:parR sz i n rows=some r):Rep w (.sl r) (.slice (if c=i then a else a.map (·.add (i*sz))) n (c - i)):=by
 unfold parR at hp
 split at hp
 ·rename_i C
  obtain⟨p,u⟩:=C
  cases hp
  subst hv
  simp only [Rep] at h ⊢
  obtain⟨O,I,hv,h1,h2,h3⟩:=h
  simp only [Value.slice.injEq] at hv
  obtain⟨rfl,rfl,rfl⟩:=hv
  have j:((rows.drop i).take n).length =n:=by rw [List.length_take,List.length_drop]; omega
  refine⟨_,_,by rw [j],by rw [j]; omega,by omega,?_⟩
  by_cases he:n=0
  ·grind
  ·rcases h3 with h3|⟨sz',b,off,rfl,hR⟩
   ·rw [h3] at u; grind
   ·have q:0<rows.length:=by omega
    have J:=(hR.at 0 q).1
    have G:=p rows[0] (List.getElem_mem q)
    have F:sz'=sz:=by omega
    subst F
    rw [if_neg (by omega)]
    refine .inr ⟨_,b,off+i*sz',?_,bZ hR⟩
    grind [Addr.add]
 grind
mutual
theorem JA {w0:World} {γ:Gh} {T:Nat→Option Tok} {B:Nat→Option (List AV)} {w:World} (hs:VwOk w0 γ T B w):∀ {a:AV} {u:Value} {x:AV},VSim w0 γ a u→cl T B a=some x→VSim w Gh.none x u
 | .int k n,u,x,ha,h=>by grind [cl,VSim]
 | .bool b,u,x,ha,h=>by grind [cl,VSim]
 | .str s,u,x,ha,h=>by grind [cl,VSim]
 | .ro rows,u,x,ha,h=>by simp only [cl,Option.some.injEq] at h; subst h; simp only [VSim] at ha ⊢; exact Rep.keep hs.keeps _ _ ha
 | .nils,u,x,ha,h=>by simp only [cl,Option.some.injEq] at h; subst h; simp only [VSim] at ha ⊢; subst ha; exact⟨none,0,rfl,Nat.le_refl _,Nat.zero_le _,.inl rfl⟩
 | .mpr b,u,x,ha,h=>by grind [cl,VSim]
 | .mpc _ rows,u,x,ha,h=>by grind [cl,VSim]
 | .nilp,u,x,ha,h=>by grind [cl,VSim]
 | .own t,u,x,ha,h=>by
  simp only [cl] at h
  cases hT:T t with
  |none=>grind
  |some tk=>
   simp only [hT,Option.map_some,Option.some.injEq] at h; subst h
   simp only [VSim] at ha ⊢
   obtain⟨h1,rfl⟩:=ha
   exact Tok.rep_er ((hs.tok t tk h1.1 hT).rep hs.keeps)
 | .rop vs off,u,x,ha,h=>by
  simp only [cl] at h
  simp only [VSim] at ha
  obtain⟨b,o,us,hv,h1,hq,G⟩:=ha
  cases hcl:cls T B vs with
  |none=>grind
  |some xs=>
   simp only [hcl,Option.map_some,Option.some.injEq] at h; subst h
   simp only [VSim]
   exact⟨b,o,us,hv,Io hs h1 hcl,jV hcl (S8 hs.keeps h1 G hq),fun j u W=>hs.keeps _ _ (G j u W)⟩
 | .box b off,u,x,ha,h=>by
  simp only [cl] at h
  simp only [VSim] at ha
  cases hB:B b with
  |none=>grind
  | some vs=>
   cases hd:toAs T B vs with
   |none=>grind
   |some ds=>
    simp only [hB,hd,Option.map_some,Option.some.injEq] at h; subst h
    obtain⟨us,h1,h2⟩:=hs.box b vs ha.1 hB
    simp only [VSim]
    exact⟨_,_,us,ha.2,TP hs h1 hd,fun _=>(h2.cells (VY hd)).pf,fun j u W=>(h2.cells (VY hd)).cell W⟩
 | .bsl b n sz,u,x,ha,h=>by
  simp only [cl] at h
  simp only [VSim] at ha
  cases hB:B b with
  |none=>grind
  | some vs=>
   cases hd:toDs T vs with
   |none=>grind
   | some ds=>
    simp only [hB,hd] at h
    split at h
    ·rename_i U
     simp only [Option.some.injEq] at h; subst h
     simp only [VSim,Rep,Bx]
     exact⟨_,_,ha.2.2,Nat.le_refl _,ha.2.1,.inr ⟨sz,_,_,rfl,OK U (bX hs ha.1 hB hd).2⟩⟩
    grind
 | .sub t g p,u,x,ha,h=>by
  simp only [cl] at h
  simp only [VSim] at ha
  cases hse:subE T t g p with
  |none=>grind
  |some r=>
   simp only [hse,Option.map_some,Option.some.injEq] at h; subst h
   obtain⟨rows,tk',v,-,rfl⟩:=VX hse
   obtain⟨tk,f1,f2,f3,-,-,-,-,-,q,-⟩:=Jw hs ha.1.1 v
   rw [ha.2.2]
   simp only [VSim]
   exact Tok.rep_er (q.rep (Tok.vwk hs.keeps))
 | .par t sz i n,u,x,ha,h=>by
  simp only [cl] at h
  simp only [VSim] at ha
  obtain⟨F,a,m,c,J,rfl⟩:=ha
  cases hT:T t with
  |none=>grind
  | some tk=>
   simp only [hT] at h
   cases hp:parR sz i n tk.rows with
   |none=>grind
   |some r=>
    simp only [hp,Option.map_some,Option.some.injEq] at h; subst h
    simp only [VSim]
    exact Tok.rep_er (fg ((hs.tok t tk F hT).rep hs.keeps) J hp)
 | .els t g p sz i off,u,x,ha,h=>by
  simp only [cl] at h
  simp only [VSim] at ha
  obtain⟨⟨F,-⟩,b,o,n,c,hv,rfl⟩:=ha
  cases v:subR T t g p with
  |none=>grind
  | some rows=>
   cases hr:rows[i]? with
   |none=>grind
   | some row=>
    simp only [v,hr] at h
    split at h
    ·rename_i U
     simp only [Option.some.injEq] at h; subst h
     have I:=BU hr
     obtain⟨tk,f1,f2,f3,-,-,-,-,-,q,-⟩:=Jw hs F v
     have C:=q.rep (Tok.vwk hs.keeps)
     rw [hv] at C
     simp only [Rep] at C
     obtain⟨a',c',O,-,-,h3⟩:=C
     simp only [Value.slice.injEq] at O
     obtain⟨rfl,-,-⟩:=O
     rcases h3 with h3|⟨sz',b',o',he,hR⟩
     ·rw [h3] at I; grind
     ·simp only [Option.some.injEq,Addr.mk.injEq,and_true] at he
      obtain⟨rfl,rfl⟩:=he
      have:=hR.at i I
      rw [List.getElem?_eq_getElem I] at hr
      simp only [Option.some.injEq] at hr
      rw [hr] at this
      obtain⟨us,h4,h5⟩:=Qe (γ:=Gh.none) this.2
      simp only [VSim]
      exact⟨_,_,us,by rw [← this.1,U],h4,fun e=>MS this.2 (by rw [PG]; exact e),h5⟩
    grind
 | .elt t sz i off,u,x,ha,h=>by
  simp only [cl] at h
  simp only [VSim] at ha
  obtain⟨F,g,o,n,c,J,rfl⟩:=ha
  cases hT:T t with
  |none=>grind
  | some tk=>
   cases hr:tk.rows[i]? with
   |none=>grind
   | some row=>
    simp only [hT,hr] at h
    split at h
    ·rename_i U
     simp only [Option.some.injEq] at h; subst h
     have I:=BU hr
     have q:=(hs.tok t tk F hT).rep hs.keeps
     simp only [Rep,J] at q
     obtain⟨a',c',hv,-,-,h3⟩:=q
     simp only [Value.slice.injEq] at hv
     obtain⟨rfl,-,-⟩:=hv
     rcases h3 with h3|⟨sz',b',o',he,hR⟩
     ·rw [h3] at I; grind
     ·simp only [Option.some.injEq,Addr.mk.injEq,and_true] at he
      obtain⟨rfl,rfl⟩:=he
      have:=hR.at i I
      rw [List.getElem?_eq_getElem I] at hr
      simp only [Option.some.injEq] at hr
      rw [hr] at this
      have Y:sz'=sz:=by omega
      subst Y
      obtain⟨us,k1,k2⟩:=Qe (γ:=Gh.none) this.2
      simp only [VSim]
      exact⟨_,_,us,rfl,k1,fun e=>MS this.2 (by rw [PG]; exact e),k2⟩
    grind
 | .agg vs,u,x,ha,h=>by
  simp only [cl] at h
  simp only [VSim] at ha
  obtain⟨us,rfl,h1⟩:=ha
  cases G:cls T B vs with
  |none=>grind
  |some xs=>
   simp only [G,Option.map_some,Option.some.injEq] at h; subst h
   simp only [VSim]
   exact⟨us,rfl,Io hs h1 G⟩
 | .fn f vs,u,x,ha,h=>by
  simp only [cl] at h
  simp only [VSim] at ha
  obtain⟨us,hf,h1⟩:=ha
  cases G:cls T B vs with
  |none=>grind
  |some xs=>
   simp only [G,Option.map_some,Option.some.injEq] at h; subst h
   simp only [VSim]
   exact⟨us,hf,Io hs h1 G⟩
 | .tup _,_,_,_,h=>by simp [cl] at h
 | .any,_,_,_,h=>by simp [cl] at h
theorem Io {w0} {γ} {T} {B} {w} (hs:VwOk w0 γ T B w):∀ {as} {us} {xs},AH w0 γ as us→cls T B as=some xs→AH w Gh.none xs us
 | [],us,xs,h,hx=>by
  grind [cls,AH]
 | a::as,us,xs,h,hx=>by
  simp only [AH] at h
  obtain⟨u,j,rfl,h1,h2⟩:=h
  simp only [cls] at hx
  cases ha:cl T B a with
  |none=>simp [ha] at hx
  | some y=>
   cases has:cls T B as with
   |none=>simp [ha,has] at hx
   |some ys=>
    simp only [ha,has,Option.some.injEq] at hx; subst hx
    simp only [AH]
    exact⟨u,j,rfl,JA hs h1 ha,Io hs h2 has⟩
end
structure ConvOk (w:World) (n:Nat) (toks:List (Nat × Tok)) (tv:Nat→Value) (tf:Nat→List Nat) (fp:List Nat):Prop where
 ids:∀i x,toks[i]? =some x→x.1 =n+i
 ok:∀x ∈ toks,Ae default w x.2 (tv x.1) (tf x.1)∧(tf x.1).Nodup ∧∀g ∈ tf x.1,g ∈ fp
 dis:∀x ∈ toks,∀y ∈ toks,x.1 ≠y.1 →∀g ∈ tf x.1,g ∉ tf y.1
theorem ConvOk.nil (w:World) (n:Nat) (tv:Nat→Value) (tf:Nat→List Nat) (fp:List Nat):ConvOk w n [] tv tf fp:=⟨fun i x h=>by grind,fun x h=>by grind,fun x h=>by grind⟩
theorem ConvOk.lt {w} {n} {toks} {tv} {tf} {fp} (h:ConvOk w n toks tv tf fp) {x} (hx:x ∈ toks):n≤x.1 ∧x.1 <n+toks.length:=by
 obtain⟨i,j,rfl⟩:=List.getElem_of_mem hx
 have:=h.ids i _ (List.getElem?_eq_getElem j)
 omega
theorem ConvOk.append {w} {n} {t1 t2} {tv1 tv2} {tf1 tf2} {f1 f2} (h1:ConvOk w n t1 tv1 tf1 f1) (h2:ConvOk w (n+t1.length) t2 tv2 tf2 f2) (hd:∀g ∈ f1,g ∉ f2):
  ConvOk w n (t1++t2) (fun t=>if t<n+t1.length then tv1 t else tv2 t) (fun t=>if t<n+t1.length then tf1 t else tf2 t) (f1++f2):=by
 refine⟨fun i x hx=>?_,fun x hx=>?_,fun x hx y hy p g hg=>?_⟩
 ·rw [List.getElem?_append] at hx
  split at hx
  ·exact h1.ids i x hx
  ·have:=h2.ids _ x hx; omega
 ·rcases List.mem_append.1 hx with hx|hx
  ·have j:=h1.lt hx
   obtain⟨k1,k2,k3⟩:=h1.ok x hx
   grind
  ·have j:=h2.lt hx
   obtain⟨k1,k2,k3⟩:=h2.ok x hx
   grind
 ·rcases List.mem_append.1 hx with hx|hx <;> rcases List.mem_append.1 hy with hy|hy
  ·have j:=h1.lt hx
   have hm:=h1.lt hy
   simp only [if_pos j.2,if_pos hm.2] at hg ⊢
   exact h1.dis x hx y hy p g hg
  ·have j:=h1.lt hx
   have hm:=h2.lt hy
   simp only [if_pos j.2,if_neg (show ¬y.1 <n+t1.length by omega)] at hg ⊢
   exact fun h=>hd g ((h1.ok x hx).2.2 g hg) ((h2.ok y hy).2.2 g h)
  ·have j:=h2.lt hx
   have hm:=h1.lt hy
   simp only [if_pos hm.2,if_neg (show ¬x.1 <n+t1.length by omega)] at hg ⊢
   exact fun h=>hd g ((h1.ok y hy).2.2 g h) ((h2.ok x hx).2.2 g hg)
  ·have j:=h2.lt hx
   have hm:=h2.lt hy
   simp only [if_neg (show ¬x.1 <n+t1.length by omega),if_neg (show ¬y.1 <n+t1.length by omega)] at hg ⊢
   exact h2.dis x hx y hy p g hg
def fh (γ:Gh) (toks:List (Nat × Tok)) (tv:Nat→Value):Prop:=∀x ∈ toks,γ.tl x.1 ∧γ.tv x.1 =tv x.1
mutual
theorem TQ {w} (w0:World):∀ {r} {v} {fp} (n:Nat),RSim w r v fp→fp.Nodup→∃tv tf,ConvOk w n (conv n r).2 tv tf fp∧∀γ,fh γ (conv n r).2 tv→VSim w0 γ (conv n r).1 v
 | .int k x,v,fp,n,h,hn=>by simp_all [RSim,ConvOk.nil,conv,VSim]
 | .bool b,v,fp,n,h,hn=>by simp_all [RSim,ConvOk.nil,conv,VSim]
 | .str s,v,fp,n,h,hn=>by simp_all [RSim,ConvOk.nil,conv,VSim]
 | .ow ap rows,v,fp,n,h,hn=>by
  simp only [RSim] at h
  refine⟨fun _=>v,fun _=>fp,⟨fun i x hx=>?_,fun x hx=>?_,fun x hx y hy j=>?_⟩,fun γ hg=>?_⟩
  ·grind [conv]
  ·grind [conv]
  ·grind [conv]
  ·simp only [conv,VSim]
   have:=hg (n,⟨rows,ap,0,.no⟩) (by simp [conv])
   have p:=h.rep (Keeps.void w)
   grind [Rep]
 | .ro rows,v,fp,n,h,hn=>⟨fun _=>undef,fun _=>[],ConvOk.nil _ _ _ _ _,fun γ _=>by grind [conv,VSim]⟩
 | .nilp,v,fp,n,h,hn=>by simp_all [RSim,ConvOk.nil,conv,VSim]
 | .agg vs,v,fp,n,h,hn=>by
  simp only [RSim] at h
  obtain⟨us,rfl,h⟩:=h
  obtain⟨tv,tf,h1,h2⟩:=MT w0 n h hn
  grind [conv,VSim]
 | .tup vs,v,fp,n,h,hn=>by
  simp only [RSim] at h
  obtain⟨us,rfl,h⟩:=h
  obtain⟨tv,tf,h1,h2⟩:=MT w0 n h hn
  grind [conv,VSim]
theorem MT {w} (w0:World):∀ {rs} {us} {fp} (n:Nat),PE w rs us fp→fp.Nodup→∃tv tf,ConvOk w n (G4 n rs).2 tv tf fp∧∀γ,fh γ (G4 n rs).2 tv→AH w0 γ (G4 n rs).1 us
 | [],us,fp,n,h,hn=>by simp_all [PE,ConvOk.nil,G4,AH]
 | r::rs,us,fp,n,h,hn=>by
  simp only [PE] at h
  obtain⟨u,j,O,U,rfl,h1,h2,rfl⟩:=h
  obtain⟨v,q,hd⟩:=List.nodup_append.1 hn
  obtain⟨F,C,k1,k2⟩:=TQ w0 n h1 v
  obtain⟨J,I,k3,k4⟩:=MT w0 (n+(conv n r).2.length) h2 q
  refine⟨_,_,k1.append k3 (fun g hg p=>hd g hg g p rfl),fun γ hg=>?_⟩
  simp only [G4,AH]
  refine⟨u,j,rfl,k2 γ fun x hx=>?_,k4 γ fun x hx=>?_⟩
  ·have:=hg x (by simp [G4,hx])
   have G:=k1.lt hx
   grind
  ·have:=hg x (by simp [G4,hx])
   have G:=k3.lt hx
   grind
end
theorem Gi (k:IntKind) (n:Int):(Lit.int k (k.wrap n)).wf =true:=by
 cases k <;> simp [Lit.wf,IntKind.wrap,IntKind.min,IntKind.max,IntKind.signed,IntKind.bits] <;> first|omega|(split <;> omega)
theorem mN {k} {a} {n} (ha:(Lit.int k a).wf =true):(Lit.int k (a / 2 ^ n)).wf =true:=by
 simp only [Lit.wf,Bool.and_eq_true,decide_eq_true_eq] at ha ⊢
 have p:k.min≤0:=by cases k <;> simp [IntKind.min,IntKind.signed,IntKind.bits]
 have j:0≤k.max:=by cases k <;> simp [IntKind.max,IntKind.signed,IntKind.bits]
 have hp:(0:Int)<2 ^ n:=Int.pow_pos (by decide)
 rcases Int.le_total 0 a with h|h
 ·have:=Int.ediv_nonneg h (Int.le_of_lt hp)
  have:=Int.ediv_le_self (2 ^ n) h
  omega
 ·have h1:a≤a / 2 ^ n:=(Int.le_ediv_iff_mul_le hp).2 (by
   have:=Int.mul_le_mul_of_nonneg_left (show (1:Int)≤2 ^ n by omega) (show 0≤ -a by omega)
   rw [Int.neg_mul,Int.neg_mul] at this
   omega)
  have h2:a / 2 ^ n≤0:=by
   exact Int.le_of_lt_add_one ((Int.ediv_lt_iff_lt_mul hp).2 (by omega))
  omega
theorem jW {k} {a b} (ha:(Lit.int k a).wf =true):(Lit.int k (a.tmod b)).wf =true:=by
 have p:(a.tmod b).natAbs ≤a.natAbs:=by rw [Int.natAbs_tmod]; exact Nat.mod_le _ _
 have h3:0≤a→0≤a.tmod b:=fun h=>Int.tmod_nonneg b h
 have j:a≤0→a.tmod b≤0:=fun h=>by
  have:=Int.tmod_nonneg b (show 0≤ -a by omega)
  rw [Int.neg_tmod] at this; omega
 grind [Lit.wf,IntKind.min,IntKind.max]
mutual
theorem X3:∀ (n:Nat) (r:RV),∀x ∈ (conv n r).2,x.2.gen =0
 |n,.int _ _,x,h=>by grind [conv]
 |n,.bool _,x,h=>by grind [conv]
 |n,.str _,x,h=>by grind [conv]
 |n,.ow ap rows,x,h=>by grind [conv]
 |n,.ro _,x,h=>by grind [conv]
 |n,.nilp,x,h=>by grind [conv]
 |n,.agg vs,x,h=>by simp only [conv] at h; exact Qf n vs x h
 |n,.tup vs,x,h=>by simp only [conv] at h; exact Qf n vs x h
theorem Qf:∀ (n:Nat) (rs:List RV),∀x ∈ (G4 n rs).2,x.2.gen =0
 |n,[],x,h=>by grind [G4]
 |n,r::rs,x,h=>by
  simp only [G4,List.mem_append] at h
  rcases h with h|h
  ·exact X3 n r x h
  ·exact Qf _ rs x h
end
end Go.Proofs.YthenkmapmnkelaaGreatDoor.Ab
