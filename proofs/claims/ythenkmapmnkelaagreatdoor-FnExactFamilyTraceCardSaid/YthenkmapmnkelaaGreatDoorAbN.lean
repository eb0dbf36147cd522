/- The abstract walk, fourteenth part. -/
import Derived.Test.YthenkmapmnkelaaGreatDoorAbM
namespace Go.Proofs.YthenkmapmnkelaaGreatDoor.Ab
set_option linter.unusedVariables false
set_option maxHeartbeats 1000000
set_option linter.unusedSimpArgs false
open Go.RowKit
section
variable {cx:Cx} {N:Nat}
theorem IB {α:Type}:∀ {l:List (Nat × α)} {i:Nat} {x:α},look l i=some x→(i,x) ∈ l
 | [],i,x,h=>by grind [look]
 |(j,y)::l,i,x,h=>by
  rw [AJ] at h
  split at h
  ·rename_i e; cases h; subst e; exact List.mem_cons_self
  ·exact List.mem_cons_of_mem _ (IB h)
theorem Tp {l:List (Nat × Nat)} (hn:(l.map (·.2)).Nodup) {i j n m:Nat} (hi:look l i=some n) (hj:look l j=some m) (hne:i≠j):n≠m:=by
 induction l with
 |nil=>grind [look]
 | cons p l ih=>
  obtain⟨a,b⟩:=p
  simp only [List.map_cons,List.nodup_cons] at hn
  rw [AJ] at hi hj
  split at hi
  ·rename_i q
   cases hi
   split at hj
   ·omega
   ·intro e; subst e
    exact hn.1 (List.mem_map.2 ⟨_,IB hj,rfl⟩)
  ·split at hj
   ·cases hj
    intro e; subst e
    exact hn.1 (List.mem_map.2 ⟨_,IB hi,rfl⟩)
   grind
def Gh.ren (γ:Gh) (gn ga:Nat→Nat) (rt rb:List (Nat × Nat)):Gh where
 gl t g:=if t<1000 then γ.gl t g else g=gn t
 hv t g:=if t<1000 then γ.hv t g else γ.hv ((look rt t).getD t) (ga ((look rt t).getD t))
 tl t:=∃n,look rt t=some n∧γ.tl n
 tv t:=γ.tv ((look rt t).getD t)
 tf t:=γ.tf ((look rt t).getD t)
 bl b:=∃n,look rb b=some n∧γ.bl n
 bb b:=γ.bb ((look rb b).getD b)
 bo b:=γ.bo ((look rb b).getD b)
 vw:=γ.vw
theorem mU {rt rb} (a:AV):(ren rt rb a).mp? =a.mp?:=by cases a <;> rfl
theorem dd {rt rb} {vs}:isMp (rens rt rb vs)=isMp vs:=by
 cases vs with
 |nil=>rfl
 |cons a l=>cases l with
  |nil=>exact mU a
  |cons b l=>rfl
theorem PY {vs} {j} {a x} (h:vs[j]? =some a) (ha:a.mp?=false) (hx:x.mp?=false):isMp (vs.set j x)=isMp vs:=by
 cases vs with
 |nil=>rfl
 | cons b l=>cases l with
  |nil=>cases j with
   |zero=>simp only [List.getElem?_cons_zero,Option.some.injEq] at h; subst h; show x.mp?=b.mp?; rw [ha,hx]
   |succ j=>rfl
  |cons c l=>cases j with
   |zero=>rfl
   |succ j=>cases j <;> rfl
theorem Vz {vs} {j} {x} (hm:isMp vs=false) (hx:x.mp?=false):isMp (vs.set j x)=isMp vs:=by
 cases vs with
 |nil=>rfl
 | cons b l=>cases l with
  |nil=>cases j with
   |zero=>show x.mp?=_; rw [hm,hx]
   |succ j=>rfl
  |cons c l=>cases j with
   |zero=>rfl
   |succ j=>cases j <;> rfl
theorem mV {rt rb:List (Nat × Nat)} {a:AV} (hk:FR rt rb a=true) (e:a.pt=true):(ren rt rb a).pt =true:=by
 cases a with
 |rop|nilp|box|elt=>simp only [ren]; rfl
 |els=>cases hk
 |_=>cases e
theorem bt {rt rb:List (Nat × Nat)}:∀ {vs:List AV},GR rt rb vs=true→AV.pts vs=true→AV.pts (rens rt rb vs)=true
 | [],_,e=>by cases e
 |a::as,hk,e=>by
  simp only [GR,Bool.and_eq_true] at hk
  simp only [rens,AV.pts,List.any_cons,Bool.or_eq_true] at e ⊢
  exact e.imp (mV hk.1) (bt hk.2)
mutual
theorem YS {w0} {γ} {gn ga} {rt rb}:∀ {a} {v},FR rt rb a=true→VSim w0 γ (ren rt rb a) v→VSim w0 (γ.ren gn ga rt rb) a v
 | .own t,v,hk,h=>by
  grind [FR,Option.isSome_iff_exists,Ab.ren,VSim,Gh.ren]
 | .box b off,v,hk,h=>by
  grind [FR,Option.isSome_iff_exists,Ab.ren,VSim,Gh.ren]
 | .bsl b m sz,v,hk,h=>by
  grind [FR,Option.isSome_iff_exists,Ab.ren,VSim,Gh.ren]
 | .elt t sz i off,v,hk,h=>by
  simp only [FR] at hk
  obtain⟨n,j⟩:=Option.isSome_iff_exists.1 hk
  simp only [Ab.ren,j,Option.getD_some,VSim] at h
  simp only [VSim,Gh.ren,j,Option.getD_some]
  grind
 | .sub _ _ _,v,hk,h=>by grind [FR]
 | .par _ _ _ _,v,hk,h=>by grind [FR]
 | .els _ _ _ _ _ _,v,hk,h=>by grind [FR]
 | .mpr b,v,hk,h=>by
  grind [FR,Option.isSome_iff_exists,Ab.ren,VSim,Gh.ren]
 | .mpc _ _,v,hk,h=>by grind [Ab.ren,VSim]
 | .agg vs,v,hk,h=>by
  simp only [FR] at hk
  simp only [Ab.ren,VSim] at h
  obtain⟨us,hv,hs⟩:=h
  simp only [VSim]
  exact⟨us,hv,Ir hk hs⟩
 | .tup vs,v,hk,h=>by
  simp only [FR] at hk
  simp only [Ab.ren,VSim] at h
  obtain⟨us,hv,hs⟩:=h
  simp only [VSim]
  exact⟨us,hv,Ir hk hs⟩
 | .fn f vs,v,hk,h=>by
  simp only [FR] at hk
  simp only [Ab.ren,VSim] at h
  obtain⟨us,hv,hs⟩:=h
  simp only [VSim]
  exact⟨us,hv,Ir hk hs⟩
 | .any,v,hk,h=>trivial
 | .int _ _,v,hk,h=>by grind [Ab.ren,VSim]
 | .bool _,v,hk,h=>by grind [Ab.ren,VSim]
 | .str _,v,hk,h=>by grind [Ab.ren,VSim]
 | .ro _,v,hk,h=>by grind [Ab.ren,VSim]
 | .rop vs off,v,hk,h=>by
  simp only [FR] at hk
  simp only [Ab.ren,VSim] at h
  obtain⟨b,o,us,hv,hs,p,q⟩:=h
  simp only [VSim]
  exact⟨b,o,us,hv,Ir hk hs,fun e=>p (bt hk e),q⟩
 | .nilp,v,hk,h=>by grind [Ab.ren,VSim]
 | .nils,v,hk,h=>by grind [Ab.ren,VSim]
theorem Ir {w0} {γ} {gn ga} {rt rb}:∀ {as} {us},GR rt rb as=true→AH w0 γ (rens rt rb as) us→AH w0 (γ.ren gn ga rt rb) as us
 | [],us,hk,h=>by grind [rens,AH]
 |a::as,us,hk,h=>by
  simp only [GR,Bool.and_eq_true] at hk
  simp only [rens,AH] at h
  obtain⟨u,j,rfl,h1,h2⟩:=h
  simp only [AH]
  exact⟨u,j,rfl,YS hk.1 h1,Ir hk.2 h2⟩
end
theorem Tq {rt rb} {σ}:∀ {l},Xx rt rb σ l→∀i av,(i,av) ∈ l→FR rt rb av=true∧σ.g i=ren rt rb av
 | [],_,i,av,h=>by cases h
 |(j,x)::l,hw,i,av,h=>by
  simp only [Xx] at hw
  rcases List.mem_cons.1 h with h|h
  ·cases h; exact⟨hw.1,hw.2.1⟩
  ·exact Tq hw.2.2 i av h
theorem OS {rt} {σ}:∀ {l},TH rt σ l→∀t tk,(t,some tk) ∈ l→∃n p,look rt t=some n∧σ.T n=some p∧p.rows=tk.rows∧(tk.sz=none∨p.sz=tk.sz)∧(t<1000→n=t∧p.gen=tk.gen)∧okZ tk.z p=true
 | [],_,t,tk,h=>by cases h
 |(j,some x)::l,hw,t,tk,h=>by
  simp only [TH] at hw
  rcases List.mem_cons.1 h with h|h
  ·cases h; obtain⟨n,a,p,b⟩:=hw.1; exact⟨n,p,a,b⟩
  ·exact OS hw.2 t tk h
 |(j,none)::l,hw,t,tk,h=>by
  simp only [TH] at hw
  rcases List.mem_cons.1 h with h|h
  ·cases h
  ·exact OS hw.2 t tk h
theorem OT {rt rb} {σ}:∀ {l},TJ rt rb σ l→∀b vs,(b,some vs) ∈ l→∃n,look rb b=some n∧GR rt rb vs=true∧σ.B n=some (rens rt rb vs)
 | [],_,b,vs,h=>by cases h
 |(j,some x)::l,hw,b,vs,h=>by
  simp only [TJ] at hw
  rcases List.mem_cons.1 h with h|h
  ·cases h; exact hw.1
  ·exact OT hw.2 b vs h
 |(j,none)::l,hw,b,vs,h=>by
  simp only [TJ] at hw
  rcases List.mem_cons.1 h with h|h
  ·cases h
  ·exact OT hw.2 b vs h
theorem pinT_spec {rt}:∀ {l},fc rt l→∀ {t},(look l t).isSome =true→1000≤t∨look rt t=some t
 | [],_,t,h=>by cases h
 |(j,x)::l,hp,t,h=>by
  simp only [fc] at hp
  rw [AJ] at h
  split at h
  ·grind
  ·exact pinT_spec hp.2 h
theorem pinB_spec {rb}:∀ {l},fe rb l→∀ {t},(look l t).isSome =true→1000≤t∨look rb t=some t
 | [],_,t,h=>by cases h
 |(j,x)::l,hp,t,h=>by
  simp only [fe] at hp
  rw [AJ] at h
  split at h
  ·grind
  ·exact pinB_spec hp.2 h
theorem join_some {α:Type} {o:Option (Option α)} {x:α} (h:o.join=some x):o=some (some x):=by
 cases o with
 |none=>cases h
 |some o=>simp at h; rw [h]
theorem YT {σ σ0:St} {a:Act} {w:World} (hs:SimE cx N σ a w) (hw:lw σ σ0):SimE cx N σ0 a w:=by
 obtain⟨γ,hs⟩:=hs
 obtain⟨rt,rb,⟨hpt,hpb⟩,⟨hnt,hnb⟩,⟨hlt,hlb⟩,hS,hT,hB⟩:=hw
 let O:Nat→Nat:=fun t=>((σ0.T t).map (·.gen)).getD 0
 let W:Nat→Nat:=fun n=>((σ.T n).map (·.gen)).getD 0
 have kT:∀t tk,σ0.T t=some tk→∃n p,look rt t=some n∧σ.T n=some p∧p.rows=tk.rows∧(tk.sz=none∨p.sz=tk.sz)∧(t<1000→n=t∧p.gen=tk.gen)∧okZ tk.z p=true:=fun t tk h=>OS hT t tk (IB (join_some h))
 have kB:∀b vs,σ0.B b=some vs→∃n,look rb b=some n∧GR rt rb vs=true∧σ.B n=some (rens rt rb vs):=fun b vs h=>OT hB b vs (IB (join_some h))
 have v:∀t n,look rt t=some n→(γ.ren O W rt rb).tv t=γ.tv n∧(γ.ren O W rt rb).tf t=γ.tf n:=fun t n h=>by simp [Gh.ren,h]
 have C:∀b n,look rb b=some n→(γ.ren O W rt rb).bb b=γ.bb n∧(γ.ren O W rt rb).bo b=γ.bo n:=fun t n h=>by simp [Gh.ren,h]
 refine⟨γ.ren O W rt rb,⟨⟨hs.os.frm,fun t tk h1 h2=>?_,fun t tk h1 h2=>?_,fun t t' tk p hne h1 U h2 Y=>?_,fun b vs h1 h2=>?_,fun b b' vs vs' hne h1 U h2 Y=>?_,fun b t vs tk h1 U h2 Y=>?_,fun t tk h1 h2=>?_,fun b vs h1 h2=>?_,fun t tk h1 h2=>?_,?_,⟨hs.os.vw.k,fun t tk h1 h2=>?_,fun b vs h1 h2=>?_,hs.os.vw.f⟩⟩,fun i=>?_,fun t h=>?_,fun b h=>?_,hs.df,hs.n⟩⟩
 ·obtain⟨n,j,u⟩:=h1
  obtain⟨m,p,hm,F,er,ea,eg,ez⟩:=kT t tk h2
  rw [j] at hm; cases hm
  rw [(v t n j).1,(v t n j).2]; exact(hs.os.tok n p u F).as (Keeps.refl _) er ea ez
 ·obtain⟨n,j,u⟩:=h1
  obtain⟨m,p,hm,F,er,ea,eg,ez⟩:=kT t tk h2
  rw [j] at hm; cases hm
  rw [(v t n j).2]; exact hs.os.tnd n p u F
 ·obtain⟨n,j,u⟩:=h1
  obtain⟨m,tp,hm,F,-,-⟩:=kT t tk h2
  rw [j] at hm; cases hm
  obtain⟨n',G,hl'⟩:=U
  obtain⟨m',tq,I,J,-,-⟩:=kT t' p Y
  rw [G] at I; cases I
  rw [(v t n j).2,(v t' n' G).2]
  exact hs.os.tds n n' tp tq (Tp hnt j G hne) u hl' F J
 ·obtain⟨n,j,u⟩:=h1
  obtain⟨m,hm,hk,F⟩:=kB b vs h2
  rw [j] at hm; cases hm
  obtain⟨us,h3,h4⟩:=hs.os.box n _ u F
  rw [(C b n j).1,(C b n j).2]
  exact⟨us,Ir (w0:=γ.vw) hk h3,h4.as dd.symm⟩
 ·obtain⟨n,j,u⟩:=h1
  obtain⟨m,hm,hk,F⟩:=kB b vs h2
  rw [j] at hm; cases hm
  obtain⟨n',G,hl'⟩:=U
  obtain⟨m',I,hk',J⟩:=kB b' vs' Y
  rw [G] at I; cases I
  rw [(C b n j).1,(C b' n' G).1]
  exact hs.os.bds n n' _ _ (Tp hnb j G hne) u hl' F J
 ·obtain⟨n,j,u⟩:=h1
  obtain⟨m,hm,hk,F⟩:=kB b vs h2
  rw [j] at hm; cases hm
  obtain⟨n',G,hl'⟩:=U
  obtain⟨m',tq,I,J,-,-⟩:=kT t tk Y
  rw [G] at I; cases I
  rw [(C b n j).1,(v t n' G).2]
  exact hs.os.btd n n' _ tq u hl' F J
 ·obtain⟨n,j,u⟩:=h1
  obtain⟨m,p,hm,F,er,ea,eg,ez⟩:=kT t tk h2
  rw [j] at hm; cases hm
  rw [(v t n j).2]; exact hs.os.tfr n p u F
 ·obtain⟨n,j,u⟩:=h1
  obtain⟨m,hm,hk,F⟩:=kB b vs h2
  rw [j] at hm; cases hm
  rw [(C b n j).1,(C b n j).2]
  rcases hs.os.bfr n _ u F with h|⟨kp,x,hx,k1,k2,k3,k4⟩
  ·omega
  ·refine .inr ⟨?_,x,hx,k1,k2,?_,k4⟩
   ·rcases pinB_spec hpb (hs.bd n u) with h|h
    ·omega
    grind [Tp]
   rw [k3]
   have:∀l:List AV,(rens rt rb l).length =l.length:=fun l=>by induction l with|nil=>rfl|cons y l ih=>simp [rens,ih]
   grind
 ·obtain⟨n,j,u⟩:=h1
  obtain⟨m,p,hm,F,er,ea,eg,ez⟩:=kT t tk h2
  rw [j] at hm; cases hm
  have hh:=hs.os.hds n p u F
  have e0:O t=tk.gen:=by grind
  have e1:W n=p.gen:=by grind
  by_cases hp:t<1000
  ·obtain⟨hnt',e3⟩:=eg hp
   subst hnt'
   have g1:∀g,(γ.ren O W rt rb).gl n g↔γ.gl n g:=fun g=>by show (if n<1000 then _ else _)↔_; rw [if_pos hp]
   have g2:∀g,(γ.ren O W rt rb).hv n g=γ.hv n g:=fun g=>by show (if n<1000 then _ else _)=_; rw [if_pos hp]
   refine⟨(g1 _).2 (by rw [← e3]; exact hh.1),fun g hg=>by rw [← e3]; exact hh.2.1 g ((g1 g).1 hg),fun q r hq=>?_⟩
   rw [(v n n j).1,g2,← e3]
   exact hh.2.2 q r (by rw [er]; exact hq)
  ·have g1:∀g,(γ.ren O W rt rb).gl t g↔g=O t:=fun g=>by show (if t<1000 then _ else _)↔_; rw [if_neg hp]
   have g2:∀g,(γ.ren O W rt rb).hv t g=γ.hv n (W n):=fun g=>by show (if t<1000 then _ else _)=_; rw [if_neg hp,j]; rfl
   refine⟨(g1 _).2 e0.symm,fun g hg=>?_,fun q r hq=>?_⟩
   ·grind
   ·rw [(v t n j).1,g2,e1]
    exact hh.2.2 q r (by rw [er]; exact hq)
 ·have p1:∀t,cx.g0.tl t→look rt t=some t:=fun t h=>by
   have h1:=cx.pinT t h
   rcases pinT_spec hpt (hs.td t (hs.os.beg.tl t h)) with h2|h2
   ·omega
   omega
  have p2:∀b,cx.g0.bl b→look rb b=some b:=fun b h=>by
   have h1:=cx.pinB b h
   rcases pinB_spec hpb (hs.bd b (hs.os.beg.bl b h)) with h2|h2
   ·omega
   omega
  have hb:=hs.os.beg
  refine⟨fun t h=>⟨t,p1 t h,hb.tl t h⟩,fun t h=>?_,fun b h=>⟨b,p2 b h,hb.bl b h⟩,fun b h=>?_,fun b h=>?_,fun t g h k=>?_,fun t g h k=>?_,hb.vw⟩
  ·rw [(v t t (p1 t h)).1]; exact hb.tv t h
  ·rw [(C b b (p2 b h)).1]; exact hb.bb b h
  ·rw [(C b b (p2 b h)).2]; exact hb.bo b h
  ·show (if t<1000 then _ else _)
   rw [if_pos (cx.pinT t h)]; exact hb.gl t g h k
  ·show (if t<1000 then _ else _)=_
   rw [if_pos (cx.pinT t h)]; exact hb.hv t g h k
 ·obtain⟨n,j,u⟩:=h1
  obtain⟨m,p,hm,F,er,ea,eg,ez⟩:=kT t tk h2
  rw [j] at hm; cases hm
  rw [(v t n j).2]; exact hs.os.vw.t n p u F
 ·obtain⟨n,j,u⟩:=h1
  obtain⟨m,hm,hk,F⟩:=kB b vs h2
  rw [j] at hm; cases hm
  rw [(C b n j).1]; exact hs.os.vw.b n _ u F
 ·unfold St.g
  cases u:look σ0.s i with
  |none=>trivial
  |some av=>
   obtain⟨h1,h2⟩:=Tq hS i av (IB u)
   have h3:=hs.sl i
   rw [h2] at h3
   exact YS (w0:=γ.vw) h1 h3
 ·obtain⟨n,j,-⟩:=h
  rw [List.all_eq_true] at hlt
  exact hlt (t,n) (IB j)
 ·obtain⟨n,j,-⟩:=h
  rw [List.all_eq_true] at hlb
  exact hlb (b,n) (IB j)
theorem Hp {w0} {γ}:∀ {vs} {us} {j} {x},AH w0 γ vs us→(∀u,us[j]? =some u→VSim w0 γ x u)→AH w0 γ (vs.set j x) us
 | [],us,j,x,h,_=>by grind
 |v::vs,us,j,x,h,hx=>by
  simp only [AH] at h
  obtain⟨u,p,rfl,h1,h2⟩:=h
  cases j with
  |zero=>simp only [List.set_cons_zero,AH]; exact⟨u,p,rfl,hx u (by simp),h2⟩
  |succ j=>simp only [List.set_cons_succ,AH]; exact⟨u,p,rfl,h1,Hp h2 fun q C=>hx q (by simpa using C)⟩
theorem Is {w0:World} {γ:Gh}:∀ {vs:List AV} {us:List Value} {j:Nat} {x:AV} {u:Value},AH w0 γ vs us→vs[j]? =some x→us[j]? =some u→VSim w0 γ x u
 | [],us,j,x,u,h,h1,_=>by grind
 |v::vs,us,j,x,u,h,hx,hu=>by
  simp only [AH] at h
  obtain⟨q,p,rfl,h1,h2⟩:=h
  cases j with
  |zero=>simp at hx hu; subst hx; subst hu; exact h1
  |succ j=>exact Is h2 (by simpa using hx) (by simpa using hu)
theorem Sim.boxed {γ} {σ} {a} {w} (hs:Sim cx N γ σ a w) {b} {vs vs'} (hb:σ.B b=some vs) (hl:vs'.length=vs.length) (hm:isMp vs'=isMp vs) (hv:∀us,AH γ.vw γ vs us→AH γ.vw γ vs' us):Sim cx N γ ⟨σ.s,σ.t,(b,some vs')::σ.b⟩ a w:=by
 have O:∀x,St.B ⟨σ.s,σ.t,(b,some vs')::σ.b⟩ x=if x=b then some vs' else σ.B x:=fun x=>by
  unfold St.B; simp only [AJ]; split <;> rfl
 have old:∀x p,γ.bl x→St.B ⟨σ.s,σ.t,(b,some vs')::σ.b⟩ x=some p→∃j,σ.B x=some j∧(j.length=p.length∧isMp p=isMp j)∧∀us,AH γ.vw γ j us→AH γ.vw γ p us:=fun x p hx h=>by
  rw [O] at h
  grind
 refine⟨⟨hs.os.frm,hs.os.tok,hs.os.tnd,hs.os.tds,fun x p h1 h2=>?_,fun x y p C F h1 q h2 u=>?_,fun x t p tk h1 q h2 u=>?_,hs.os.tfr,fun x p h1 h2=>?_,hs.os.hds,hs.os.beg,⟨hs.os.vw.k,hs.os.vw.t,fun x p h1 h2=>?_,hs.os.vw.f⟩⟩,hs.sl,hs.td,fun x hx=>?_,hs.df,hs.n⟩
 ·obtain⟨j,k1,⟨-,k3⟩,k2⟩:=old x p h1 h2
  obtain⟨us,J,I⟩:=hs.os.box x j h1 k1
  exact⟨us,k2 us J,I.as k3⟩
 ·obtain⟨j,k1,-,-⟩:=old x p h1 h2
  obtain⟨v,G,-,-⟩:=old y C q u
  exact hs.os.bds x y j v F h1 q k1 G
 ·obtain⟨j,k1,-,-⟩:=old x p h1 h2
  exact hs.os.btd x t j tk h1 q k1 u
 ·obtain⟨j,k1,⟨k2,-⟩,-⟩:=old x p h1 h2
  rw [← k2]
  exact hs.os.bfr x j h1 k1
 ·obtain⟨j,k1,-,-⟩:=old x p h1 h2
  exact hs.os.vw.b x j h1 k1
 ·show (look ((b,some vs')::σ.b) x).isSome =true
  rw [AJ]; split
  ·rfl
  ·exact hs.bd x hx
theorem Sim.nilTok {γ} {σ} {a} {w} (hs:Sim cx N γ σ a w) {t} (ap:Option Nat) (z:ZK) (ht:look σ.t t=none):Sim cx N (γ.tok w t (.slice none 0 0) [] 0) ⟨σ.s,(t,some ⟨[],ap,0,z⟩)::σ.t,σ.b⟩ a w∧∀v,v= .slice none 0 0→VSim (γ.tok w t (.slice none 0 0) [] 0).vw (γ.tok w t (.slice none 0 0) [] 0) (.own t) v:=by
 have j:¬γ.tl t:=fun h=>by have:=hs.td t h; rw [ht] at this; grind
 have F:σ.T t=none:=by grind [St.T]
 have p:=hs.os.putTok (t:=t) (tk:=⟨[],ap,0,z⟩) (v:=.slice none 0 0) (fp:=[]) F (fun h=>(j h).elim) (by
  grind [Ae.nil]) List.nodup_nil (by simp) (fun h=>(j h).elim) (fun h=>(j h).elim)
 have C:Gh.Ext γ (γ.tok w t (.slice none 0 0) [] 0):=Gh.tok_ext fun h=>(j h).elim
 have u:(fun x=>if x=t then some ⟨[],ap,0,z⟩ else σ.T x)=St.T ⟨σ.s,(t,some ⟨[],ap,0,z⟩)::σ.t,σ.b⟩:=by
  funext x
  unfold St.T
  simp only [AJ]
  split <;> rfl
 rw [u] at p
 refine⟨⟨p,fun i=>VSim.mono C.vw C (hs.sl i),fun x hx=>?_,hs.bd,hs.df,hs.n⟩,fun v hv=>?_⟩
 ·show (look ((t,some ⟨[],ap,0,z⟩)::σ.t) x).isSome =true
  rw [AJ]; split
  ·rfl
  ·rename_i q
   exact hs.td x (hx.resolve_right q)
 ·simp only [VSim]
  have:(γ.tok w t (.slice none 0 0) [] 0).tv t= .slice none 0 0:=by show (if t=t then _ else _)=_; rw [if_pos rfl]
  rw [this]
  exact⟨⟨.inr rfl,none,0,0,rfl⟩,hv⟩
mutual
theorem Fy {w0} {γ} {x y}:∀ {v} {p} {u},VSim w0 γ v u→Hg v p=some x→(∀u,VSim w0 γ x u→VSim w0 γ y u)→VSim w0 γ (E3 v p y) u:=by
 intro v p u hv hg j
 cases p with
 |nil=>
  cases v <;> simp only [Hg,Option.some.injEq] at hg <;> subst hg <;> simp only [E3] <;> exact j u hv
 | cons k p=>
  cases v with
  | agg vs=>
   simp only [Hg] at hg
   cases hk:vs[k]? with
   |none=>rw [hk] at hg; cases hg
   |some a=>
    rw [hk] at hg
    simp only [Option.bind_some] at hg
    simp only [E3,hk,VSim] at hv ⊢
    obtain⟨us,rfl,hv⟩:=hv
    exact⟨us,rfl,LU hv hk hg j⟩
  | tup vs=>
   simp only [Hg] at hg
   cases hk:vs[k]? with
   |none=>rw [hk] at hg; cases hg
   |some a=>
    rw [hk] at hg
    simp only [Option.bind_some] at hg
    simp only [E3,hk,VSim] at hv ⊢
    obtain⟨us,rfl,hv⟩:=hv
    exact⟨us,rfl,LU hv hk hg j⟩
  |_=>simp [Hg] at hg
theorem LU {w0} {γ} {x y}:∀ {vs} {us} {k} {a} {p},AH w0 γ vs us→vs[k]? =some a→Hg a p=some x→(∀u,VSim w0 γ x u→VSim w0 γ y u)→AH w0 γ (vs.set k (E3 a p y)) us:=by
 intro vs us k a p hv hk hg j
 cases vs with
 |nil=>simp at hk
 | cons b vs=>
  simp only [AH] at hv
  obtain⟨u,q,rfl,h1,h2⟩:=hv
  cases k with
  |zero=>
   simp only [List.getElem?_cons_zero,Option.some.injEq] at hk
   subst hk
   simp only [List.set_cons_zero,AH]
   exact⟨u,q,rfl,Fy h1 hg j,h2⟩
  |succ k=>
   simp only [List.set_cons_succ,AH]
   exact⟨u,q,rfl,h1,LU h2 (by simpa using hk) hg j⟩
end
theorem Sim.litTok {z} {γ} {σ} {a} {w} (hs:Sim cx N γ σ a w) {t b n sz} {vs} {ds} (hb:σ.B b=some vs) (hd:KU z vs=some ds) (hl:ds.length=n*sz) (hz:0<sz) (hp:1000≤b) (ht:look σ.t t=none):
  ∃γ1,Sim cx N γ1 ⟨σ.s,(t,some ⟨BD sz n ds,some sz,0,z⟩)::σ.t,(b,none)::σ.b⟩ a w∧∀u,VSim γ1.vw γ1 (.bsl b n sz) u→VSim γ1.vw γ1 (.own t) u:=by
 have p:¬γ.tl t:=fun h=>by have:=hs.td t h; rw [ht] at this; grind
 have hTn:σ.T t=none:=by grind [St.T]
 have e1:St.B ⟨σ.s,(t,some ⟨BD sz n ds,some sz,0,z⟩)::σ.t,(b,none)::σ.b⟩=fun x=>if x=b then none else σ.B x:=by
  funext x
  unfold St.B
  simp only [AJ]
  split <;> rfl
 have e2:St.T ⟨σ.s,(t,some ⟨BD sz n ds,some sz,0,z⟩)::σ.t,(b,none)::σ.b⟩=fun x=>if x=t then some ⟨BD sz n ds,some sz,0,z⟩ else σ.T x:=by
  funext x
  unfold St.T
  simp only [AJ]
  split <;> rfl
 have I:OSim cx γ σ.T (fun x=>if x=b then none else σ.B x) w:=hs.os.tables (fun _ _ _ h=>h) fun x vs _ h=>by
  grind
 have G:∀x,γ.tl x∨x=t→(look ((t,some (⟨BD sz n ds,some sz,0,z⟩:Tok))::σ.t) x).isSome =true:=fun x hx=>by
  rw [AJ]
  split
  ·rfl
  ·rename_i O; exact hs.td x (hx.resolve_right O)
 have F:∀x,γ.bl x→(look ((b,none)::σ.b) x).isSome =true:=fun x hx=>by
  rw [AJ]
  split
  ·rfl
  ·exact hs.bd x hx
 by_cases q:γ.bl b∧n≤maxLen
 ·obtain⟨q,hnm⟩:=q
  obtain⟨us,h1,h1'⟩:=hs.os.box b vs q hb
  obtain⟨cs,e,h2,h3⟩:=h1'.cells (YD hd)
  have hul:=h1.length
  have W:=Vk (w:=w) hd h1
  have hvl:=W.length
  have hR:OwnR (zvw z γ.vw) w cs.toList sz (γ.bo b) (BD sz n ds) [] :=OwnR.of_chunks hl (DR.cells W fun j hj=>by rw [Array.getElem?_toList]; grind)
  have hlen:γ.bo b+n*sz≤cs.toList.length∨n*sz=0:=by
   by_cases h0:n*sz=0
   ·omega
   ·have h4:=h3 (us.length - 1) (by omega)
    rw [List.getElem?_eq_getElem (show us.length - 1<us.length by omega)] at h4
    grind
  have hlt:=lt_of_block h2
  have C:cx.we.heap.size≤γ.bb b:=by
   rcases hs.os.bfr b vs q hb with h|⟨h,-⟩
   ·exact h
   ·omega
  by_cases hbo:γ.bo b≤cs.toList.length
  ·have hok:Ae γ.vw w ⟨BD sz n ds,some sz,0,z⟩ (.slice (some ⟨γ.bb b,γ.bo b,none⟩) n n) [γ.bb b] :=by
    refine .inr ⟨γ.bb b,γ.bo b,n,e,cs.toList,[],by rw [Bx],by rw [Bx]; omega,hnm,by simp_all [Blk],?_,hR,rfl⟩
    omega
   have hos:=I.putTok (t:=t) hTn (fun h=>(p h).elim) hok (List.nodup_cons.2 ⟨by simp,List.nodup_nil⟩) (fun g hg=>by
    rw [List.mem_singleton] at hg
    subst hg
    refine⟨fun x tk h5 h6=>hs.os.btd b x vs tk q h5 hb h6,fun x ws h5 h6=>?_,.inl C,hs.os.vw.b b vs q hb⟩
    split at h6
    ·cases h6
    ·rename_i O
     exact hs.os.bds x b ws vs O h5 q h6 hb) (fun h=>(p h).elim) (fun h=>(p h).elim)
   have Y:Gh.Ext γ (γ.tok w t (.slice (some ⟨γ.bb b,γ.bo b,none⟩) n n) [γ.bb b] 0):=Gh.tok_ext fun h=>(p h).elim
   refine⟨_,⟨by rw [e1,e2]; omega,fun i=>VSim.mono Y.vw Y (hs.sl i),fun x hx=>G x hx,fun x hx=>F x hx,hs.df,hs.n⟩,fun u U=>?_⟩
   simp only [VSim] at U ⊢
   have J:(γ.tok w t (.slice (some ⟨γ.bb b,γ.bo b,none⟩) n n) [γ.bb b] 0).tv t= .slice (some ⟨γ.bb b,γ.bo b,none⟩) n n:=by show (if t=t then _ else _)=_; rw [if_pos rfl]
   rw [J]
   exact⟨⟨.inr rfl,_,_,_,rfl⟩,U.2.2⟩
  · -- an empty slice behind the block's end
   have hn0:n*sz=0:=by
    omega
   by_cases hz0:n=0
   ·subst hz0
    have hds:ds=[] :=List.eq_nil_of_length_eq_zero (by omega)
    subst hds
    have hos:=I.putTok (t:=t) (tk:=⟨BD sz 0 [],some sz,0,z⟩) (v:=.slice (some ⟨γ.bb b,γ.bo b,none⟩) 0 0) (fp:=[]) hTn (fun h=>(p h).elim) (Ae.nil ⟨_,rfl⟩) List.nodup_nil (by simp) (fun h=>(p h).elim) (fun h=>(p h).elim)
    have Y:Gh.Ext γ (γ.tok w t (.slice (some ⟨γ.bb b,γ.bo b,none⟩) 0 0) [] 0):=Gh.tok_ext fun h=>(p h).elim
    refine⟨_,⟨by rw [e1,e2]; omega,fun i=>VSim.mono Y.vw Y (hs.sl i),fun x hx=>G x hx,fun x hx=>F x hx,hs.df,hs.n⟩,fun u U=>?_⟩
    simp only [VSim] at U ⊢
    have J:(γ.tok w t (.slice (some ⟨γ.bb b,γ.bo b,none⟩) 0 0) [] 0).tv t= .slice (some ⟨γ.bb b,γ.bo b,none⟩) 0 0:=by show (if t=t then _ else _)=_; rw [if_pos rfl]
    rw [J]
    exact⟨⟨.inr rfl,_,_,_,rfl⟩,U.2.2⟩
   grind [Nat.mul_eq_zero]
 ·refine⟨γ,⟨?_,fun i=>hs.sl i,fun x hx=>G x (.inl hx),F,hs.df,hs.n⟩,fun u U=>?_⟩
  ·rw [e1,e2]
   refine I.tables (fun x tk hx h=>?_) fun _ _ _ h=>h
   rw [if_neg (fun (e:x=t)=>p (e ▸ hx))] at h
   exact h
  grind [VSim]
theorem Sim.embTok {z} {γ} {σ σ2} {a} {w} (hs:Sim cx N γ σ a w) {t b n sz} {vs} {ds} (hb:σ.B b=some vs) (hm:isMp vs=false) (hd:BR z vs (σ.killB b) fun C σ'=>C=ds∧σ'=σ2) (hl:ds.length=n*sz) (hz:0<sz) (hp:1000≤b) (ht:look σ2.t t=none):
  ∃γ1,Sim cx N γ1 ⟨σ2.s,(t,some ⟨BD sz n ds,some sz,0,z⟩)::σ2.t,σ2.b⟩ a w∧∀u,VSim γ1.vw γ1 (.bsl b n sz) u→VSim γ1.vw γ1 (.own t) u:=by
 obtain⟨C,σ',⟨e1,e2⟩,W⟩:=JC hd
 subst e1 e2
 have F:=(StLe.killB σ b).trans W
 have hlt':look σ.t t=none:=by
  cases h:look σ.t t with
  |none=>rfl
  |some x=>have:=F.t t (by rw [h]; rfl); rw [ht] at this; cases this
 have q:¬γ.tl t:=fun h=>by have:=hs.td t h; rw [hlt'] at this; cases this
 have hTn:σ'.T t=none:=by grind [St.T]
 have e2:St.T ⟨σ'.s,(t,some ⟨BD sz n C,some sz,0,z⟩)::σ'.t,σ'.b⟩=fun x=>if x=t then some ⟨BD sz n C,some sz,0,z⟩ else σ'.T x:=by
  funext x
  unfold St.T
  simp only [AJ]
  split <;> rfl
 have hs0:OSim cx γ σ'.T σ'.B w:=F.osim hs.os
 have hsl:∀i,VSim γ.vw γ (St.g ⟨σ'.s,(t,some ⟨BD sz n C,some sz,0,z⟩)::σ'.t,σ'.b⟩ i) (a.tmps.getD i undef):=fun i=>by
  have:St.g ⟨σ'.s,(t,some ⟨BD sz n C,some sz,0,z⟩)::σ'.t,σ'.b⟩ i=σ.g i:=by
   unfold St.g; simp only [F.s]
  rw [this]; exact hs.sl i
 have htd:∀x,γ.tl x∨x=t→(look ((t,some (⟨BD sz n C,some sz,0,z⟩:Tok))::σ'.t) x).isSome =true:=fun x hx=>by
  rw [AJ]
  split
  ·rfl
  ·rename_i I; exact F.t x (hs.td x (hx.resolve_right I))
 have hbd:∀x,γ.bl x→(look σ'.b x).isSome =true:=fun x hx=>F.b x (hs.bd x hx)
 have fail:¬ (γ.bl b∧n≤maxLen)→∃γ1,Sim cx N γ1 ⟨σ'.s,(t,some ⟨BD sz n C,some sz,0,z⟩)::σ'.t,σ'.b⟩ a w∧∀u,VSim γ1.vw γ1 (.bsl b n sz) u→VSim γ1.vw γ1 (.own t) u:=fun hno=>by
  refine⟨γ,⟨?_,hsl,fun x hx=>htd x (.inl hx),hbd,hs.df,hs.n⟩,fun u O=>?_⟩
  ·rw [e2]
   refine hs0.tables (fun x tk hx h=>?_) fun _ _ _ h=>h
   rw [if_neg (fun (e:x=t)=>q (e ▸ hx))] at h
   exact h
  ·simp only [VSim] at O
   exact absurd ⟨O.1,O.2.1⟩ hno
 by_cases p:γ.bl b∧n≤maxLen
 case neg=>exact fail p
 obtain⟨p,hnm⟩:=p
 obtain⟨us,h1,h1'⟩:=hs.os.box b vs p hb
 obtain⟨cs,e,h2,h3⟩:=h1'.cells hm
 have hul:=h1.length
 obtain⟨ds2,σ2',fp,⟨k1,k1'⟩,k2,k3,k4,k5,k6,k7⟩:=DK ((StLe.killB σ b).osim hs.os) h1 hd
 subst k1 k1'
 have hvl:=k3.length
 have hR:OwnR (zvw z γ.vw) w cs.toList sz (γ.bo b) (BD sz n ds2) fp:=OwnR.of_chunks hl (DR.cells k3 fun j hj=>by rw [Array.getElem?_toList]; grind)
 have G:γ.bo b+n*sz≤cs.toList.length∨n*sz=0:=by
  by_cases h0:n*sz=0
  ·omega
  ·have h4:=h3 (us.length - 1) (by omega)
   rw [List.getElem?_eq_getElem (show us.length - 1<us.length by omega)] at h4
   grind
 have hlt:=lt_of_block h2
 have U:cx.we.heap.size≤γ.bb b:=by
  rcases hs.os.bfr b vs p hb with h|⟨h,-⟩
  ·exact h
  ·omega
 have hself:Free cx γ σ2'.T σ2'.B (γ.bb b):=by
  refine⟨fun x tk h5 J=>hs.os.btd b x vs tk p h5 hb (F.T x tk J),fun x ws h5 J=>?_,.inl U,hs.os.vw.b b vs p hb⟩
  have Y:=W.B x ws J
  rw [St.B_killB] at Y
  split at Y
  ·cases Y
  ·rename_i I
   exact hs.os.bds x b ws vs I h5 p Y hb
 have hnin:γ.bb b ∉ fp:=fun hg=>by
  rcases k7 _ hg with ⟨x,tk,h5,J,Y⟩|⟨x,ws,h5,J,Y⟩
  ·exact hs.os.btd b x vs tk p h5 hb J Y
  ·rw [St.B_killB] at J
   split at J
   ·cases J
   ·rename_i I
    exact hs.os.bds x b ws vs I h5 p J hb Y
 by_cases h0:n*sz=0
 ·have hn0:n=0:=by grind [Nat.mul_eq_zero]
  subst hn0
  have hds:ds2=[] :=List.eq_nil_of_length_eq_zero (by omega)
  subst hds
  have hos:=hs0.putTok (t:=t) (tk:=⟨BD sz 0 [],some sz,0,z⟩) (v:=.slice (some ⟨γ.bb b,γ.bo b,none⟩) 0 0) (fp:=[]) hTn (fun h=>(q h).elim) (Ae.nil ⟨_,rfl⟩) List.nodup_nil (by simp) (fun h=>(q h).elim) (fun h=>(q h).elim)
  have he:Gh.Ext γ (γ.tok w t (.slice (some ⟨γ.bb b,γ.bo b,none⟩) 0 0) [] 0):=Gh.tok_ext fun h=>(q h).elim
  refine⟨_,⟨by rw [e2]; exact hos,fun i=>VSim.mono he.vw he (hsl i),fun x hx=>htd x hx,fun x hx=>hbd x hx,hs.df,hs.n⟩,fun u O=>?_⟩
  simp only [VSim] at O ⊢
  have htv:(γ.tok w t (.slice (some ⟨γ.bb b,γ.bo b,none⟩) 0 0) [] 0).tv t= .slice (some ⟨γ.bb b,γ.bo b,none⟩) 0 0:=by show (if t=t then _ else _)=_; rw [if_pos rfl]
  rw [htv]
  exact⟨⟨.inr rfl,_,_,_,rfl⟩,O.2.2⟩
 ·have G:=G.resolve_right h0
  have hok:Ae γ.vw w ⟨BD sz n ds2,some sz,0,z⟩ (.slice (some ⟨γ.bb b,γ.bo b,none⟩) n n) (γ.bb b::fp):=
   .inr ⟨γ.bb b,γ.bo b,n,e,cs.toList,fp,by rw [Bx],by rw [Bx]; omega,hnm,by simp_all [Blk],G,hR,rfl⟩
  have hos:=hs0.putTok (t:=t) hTn (fun h=>(q h).elim) hok (List.nodup_cons.2 ⟨hnin,k4⟩) (fun g hg=>by
   rcases List.mem_cons.1 hg with rfl|hg
   ·exact hself
   ·exact k5 g hg) (fun h=>(q h).elim) (fun h=>(q h).elim)
  have he:Gh.Ext γ (γ.tok w t (.slice (some ⟨γ.bb b,γ.bo b,none⟩) n n) (γ.bb b::fp) 0):=Gh.tok_ext fun h=>(q h).elim
  refine⟨_,⟨by rw [e2]; exact hos,fun i=>VSim.mono he.vw he (hsl i),fun x hx=>htd x hx,fun x hx=>hbd x hx,hs.df,hs.n⟩,fun u O=>?_⟩
  simp only [VSim] at O ⊢
  have htv:(γ.tok w t (.slice (some ⟨γ.bb b,γ.bo b,none⟩) n n) (γ.bb b::fp) 0).tv t= .slice (some ⟨γ.bb b,γ.bo b,none⟩) n n:=by show (if t=t then _ else _)=_; rw [if_pos rfl]
  rw [htv]
  exact⟨⟨.inr rfl,_,_,_,rfl⟩,O.2.2⟩
theorem Sim.takeTokG {γ} {σ} {a} {w} (hs:Sim cx N γ σ a w) {t n g} {q} {tk tkn} {d} (hT:σ.T t=some tk) (hg:tk.gen=g) (ha:At q (.sl tk.rows) d) (hd:Hf d=some tkn.rows) (hgn:tkn.gen=0) (hok:∀v fp,Own (tk.vw γ.vw) w d v fp→Ae γ.vw w tkn v fp) (hq0:q≠ []) (hne:n≠t) (hn:look σ.t n=none):
  ∃γ1,Sim cx N γ1 ⟨σ.s,(n,some tkn)::(t,some ⟨putR q tk.rows .gone,tk.sz,g,tk.z⟩)::σ.t,σ.b⟩ a w∧∀u,VSim γ1.vw γ1 (.sub t g q) u→VSim γ1.vw γ1 (.own n) u:=by
 have I:¬γ.tl n:=fun h=>by have:=hs.td n h; rw [hn] at this; grind
 have U:σ.T n=none:=by grind [St.T]
 obtain⟨γ1,W,F,O,p,C⟩:∃γ1,Gh.Ext γ γ1∧OSim cx γ1 (tset (tset σ.T t (some ⟨putR q tk.rows .gone,tk.sz,g,tk.z⟩)) n (some tkn)) σ.B w∧(γ.tl t→Carved γ1 w n t g q)∧(∀x,γ1.tl x→γ.tl x∨(x=n∧γ.tl t))∧(∀b,γ1.bl b→γ.bl b):=by
  by_cases j:γ.tl t
  ·obtain⟨γ1,h1,h2,h3,h4,h5⟩:=hs.os.carveG U I j hT hg hq0 ha hd hgn hok hne
   grind
  ·refine⟨γ,Gh.Ext.refl γ,hs.os.tables (fun x tk' hx h=>?_) (fun _ _ _ h=>h),fun h=>absurd h j,fun x hx=>.inl hx,fun b hb=>hb⟩
   grind [tset]
 have e2:St.T ⟨σ.s,(n,some tkn)::(t,some ⟨putR q tk.rows .gone,tk.sz,g,tk.z⟩)::σ.t,σ.b⟩=tset (tset σ.T t (some ⟨putR q tk.rows .gone,tk.sz,g,tk.z⟩)) n (some tkn):=by
  grind [St.T,tset,AJ]
 refine⟨γ1,⟨by rw [e2]; exact F,fun x=>VSim.mono W.vw W (hs.sl x),fun x hx=>?_,fun x hx=>hs.bd x (C x hx),hs.df,hs.n⟩,fun u G=>?_⟩
 ·show (look ((n,some tkn)::(t,some (⟨putR q tk.rows .gone,tk.sz,g,tk.z⟩:Tok))::σ.t) x).isSome =true
  rw [AJ]
  split
  ·rfl
  ·rename_i J
   rw [AJ]
   split
   ·rfl
   ·exact hs.td x ((p x hx).elim id fun h=>absurd h.1 J)
 ·simp only [VSim] at G ⊢
  have j:γ.tl t:=(p t G.1.1).elim id fun h=>absurd h.1.symm hne
  have Y:=O j
  rw [Y.av]
  exact⟨⟨Y.tl,G.2.1⟩,G.2.2⟩
theorem Sim.takeTok {γ} {σ} {a} {w} (hs:Sim cx N γ σ a w) {t n g} {q} {tk} {r} (hT:σ.T t=some tk) (hg:tk.gen=g) (hq:getP q tk.rows=some r) (hq0:q≠ []) (hne:n≠t) (hn:look σ.t n=none):
  ∃γ1,Sim cx N γ1 ⟨σ.s,(n,some ⟨r,none,0,tk.z⟩)::(t,some ⟨putR q tk.rows .gone,tk.sz,g,tk.z⟩)::σ.t,σ.b⟩ a w∧∀u,VSim γ1.vw γ1 (.sub t g q) u→VSim γ1.vw γ1 (.own n) u:=by
 obtain⟨d,j,hd⟩:=PQ hq
 exact hs.takeTokG (tkn:=⟨r,none,0,tk.z⟩) hT hg j hd rfl (fun v fp h=>TL h hd) hq0 hne hn
theorem jd {V w} {sz} {d} {r} {v} {fp} (h:Own V w d v fp) (hd:dC sz d=some r):Hf d=some r∧SA V w r v fp sz:=by
 unfold dC at hd
 split at hd
 ·cases hd
  simp only [Own] at h
  exact⟨rfl,.inl ⟨rfl,h⟩⟩
 ·rename_i x p
  split at hd
  ·rename_i hx
   cases hd
   refine⟨rfl,.inr ?_⟩
   simp only [Own] at h
   rcases h with ⟨h,-⟩|⟨sz',g,o,c,e,cs,fps,h1,h2,h3,h4,h5,h6,h7⟩
   ·cases h
   ·have j:=h6
    simp only [OwnR] at j
    obtain⟨_,_,q,-⟩:=j
    obtain rfl:sz'=sz:=by omega
    exact⟨g,o,c,e,cs,fps,h1,h2,h3,h4,h5,h6,h7⟩
  ·cases hd
 ·cases hd
theorem de {sz} {d} {r} (hd:dC sz d=some r):Hf d=some r:=by
 unfold dC at hd
 split at hd
 ·exact hd
 ·split at hd
  ·exact hd
  ·cases hd
 ·cases hd
theorem Sim.takeTokS {γ} {σ} {a} {w} (hs:Sim cx N γ σ a w) {t n g} {q} {tk} {d} {sz} {r} (hT:σ.T t=some tk) (hg:tk.gen=g) (hq:PK q tk.rows=some d) (hd:dC sz d=some r) (hq0:q≠ []) (hne:n≠t) (hn:look σ.t n=none):
  ∃γ1,Sim cx N γ1 ⟨σ.s,(n,some ⟨r,some sz,0,tk.z⟩)::(t,some ⟨putR q tk.rows .gone,tk.sz,g,tk.z⟩)::σ.t,σ.b⟩ a w∧∀u,VSim γ1.vw γ1 (.sub t g q) u→VSim γ1.vw γ1 (.own n) u:=
 hs.takeTokG (tkn:=⟨r,some sz,0,tk.z⟩) hT hg (Wi hq) (de hd) rfl (fun v fp h=>(jd h hd).2) hq0 hne hn
theorem JG:∀xs:List (List D),(dnR xs).length =xs.length
 | [] =>rfl
 |x::xs=>by simp only [dnR,List.length_cons,JG xs]
theorem OU:∀xs:List D,(dnC xs).length =xs.length
 | [] =>rfl
 |x::xs=>by simp only [dnC,List.length_cons,OU xs]
theorem bu:∀ (xs:List (List D)) (i:Nat),(dnR xs)[i]? =(xs[i]?).map dnC
 | [],i=>rfl
 |x::xs,0=>rfl
 |x::xs,i+1=>by simp only [dnR,List.getElem?_cons_succ,bu xs i]
theorem bv:∀ (xs:List D) (i:Nat),(dnC xs)[i]? =(xs[i]?).map dn
 | [],i=>rfl
 |x::xs,0=>rfl
 |x::xs,i+1=>by simp only [dnC,List.getElem?_cons_succ,bv xs i]
mutual
theorem Own.dn {V w}:∀ {d} {v} {fp},Own V w d v fp→Own V w (Ab.dn d) v fp
 | .gone,_,_,h=>h
 | .int _ _,_,_,h=>h
 | .bool _,_,_,h=>h
 | .str _,_,_,h=>h
 | .fz _,_,_,h=>h
 | .ptr _,_,_,h=>h
 | .nilp,_,_,h=>h
 | .nl,v,fp,h=>by
  simp only [Own] at h
  obtain⟨⟨a,h⟩,h2⟩:=h
  exact .inl ⟨rfl,⟨a,0,h,Nat.zero_le _⟩,h2⟩
 | .sl rows,v,fp,h=>by
  simp only [Ab.dn,Own] at h ⊢
  rcases h with ⟨rfl,h⟩|⟨sz,g,o,c,e,cs,fps,hv,h1,h2,hb,h3,hr,rfl⟩
  ·exact .inl ⟨rfl,h⟩
  ·exact .inr ⟨sz,g,o,c,e,cs,fps,by rw [JG]; exact hv,by rw [JG]; exact h1,h2,hb,h3,OwnR.dn hr,rfl⟩
theorem OwnR.dn {V w} {cs} {sz}:∀ {o} {xs} {fp},OwnR V w cs sz o xs fp→OwnR V w cs sz o (dnR xs) fp
 |_,[],_,h=>h
 |o,x::xs,fp,h=>by
  simp only [dnR,OwnR] at h ⊢
  obtain⟨p,v,u,q,j,rfl⟩:=h
  exact⟨p,v,by rw [OU]; exact u,OwnC.dn q,OwnR.dn j,rfl⟩
theorem OwnC.dn {V w} {cs}:∀ {o} {ds} {fp},OwnC V w cs o ds fp→OwnC V w cs o (dnC ds) fp
 |_,[],_,h=>h
 |o,d::ds,fp,h=>by
  simp only [dnC,OwnC] at h ⊢
  obtain⟨u,v,j,p,ho,q,rfl⟩:=h
  exact⟨u,v,j,p,Own.dn ho,OwnC.dn q,rfl⟩
end
theorem je {d} (h:isSl (dn d)):isSl d:=by
 cases d <;> simp_all [isSl,dn,Hf]
theorem At.dn:∀ {q} {d d1},At q (Ab.dn d) d1→isSl d1→∃u,At q d u∧isSl u
 | [],d,d1,h,hs=>⟨d,rfl,je (by simp only [At] at h; rw [h]; exact hs)⟩
 | (sz,i,j)::q,d,d1,h,hs=>by
  cases d <;> simp only [Ab.dn,At] at h
  ·obtain⟨G,e,h1,h2,h3,F⟩:=h
   rename_i p
   rw [bu] at h1
   cases hr:p[i]? with
   |none=>rw [hr] at h1; cases h1
   | some row0=>
    rw [hr] at h1
    cases h1
    rw [bv] at h3
    cases hj:row0[j]? with
    |none=>rw [hj] at h3; cases h3
    |some e0=>
     rw [hj] at h3
     cases h3
     obtain⟨u,v,C⟩:=At.dn F hs
     exact⟨u,⟨row0,e0,hr,by rw [← h2,OU],hj,v⟩,C⟩
  ·simp at h
theorem Ae.dn {V w} {tk} {v} {fp} (h:Ae V w tk v fp) (hz:tk.z= .nl):Ae V w ⟨dnR tk.rows,tk.sz,tk.gen,.no⟩ v fp:=by
 have e:tk.vw V=(⟨dnR tk.rows,tk.sz,tk.gen,.no⟩:Tok).vw V:=by unfold Tok.vw; rw [hz]; rfl
 unfold Ae at h ⊢
 rw [e] at h
 cases hs:tk.sz with
 |none=>simp only [hs] at h ⊢; exact Own.dn (d:=.sl tk.rows) h
 |some sz=>
  simp only [hs] at h ⊢
  rcases h with ⟨h1,h⟩|⟨g,o,c,e,cs,fps,h1,h2,h3,h4,h5,h6,h7⟩
  ·rw [h1]; exact .inl ⟨rfl,h⟩
  ·exact .inr ⟨g,o,c,e,cs,fps,by rw [JG]; exact h1,by rw [JG]; exact h2,h3,h4,h5,OwnR.dn h6,h7⟩
theorem OSim.retok {cx:Cx} {γ:Gh} {T:Nat→Option Tok} {B:Nat→Option (List AV)} {w:World} (hs:OSim cx γ T B w) {t:Nat} {tk tk':Tok} (hT:T t=some tk) (h1:γ.tl t→Ae γ.vw w tk' (γ.tv t) (γ.tf t)) (h2:γ.tl t→dA w γ t tk'):
  OSim cx γ (fun x=>if x=t then some tk' else T x) B w:=by
 have old:∀x j,(if x=t then some tk' else T x)=some j→∃p,T x=some p:=fun x j h=>by
  split at h
  ·rename_i e; exact⟨tk,e ▸ hT⟩
  ·exact⟨j,h⟩
 refine⟨hs.frm,fun x j q h=>?_,fun x j q h=>?_,fun x y j v C hx hy h3 F=>?_,hs.box,hs.bds,fun b x vs j J hx h3 F=>?_,fun x j q h=>?_,hs.bfr,fun x j q h=>?_,hs.beg,⟨hs.vw.k,fun x j q h=>?_,hs.vw.b,hs.vw.f⟩⟩
 ·split at h
  ·rename_i e; subst e; cases h; exact h1 q
  ·exact hs.tok x j q h
 ·obtain⟨p,u⟩:=old x j h; exact hs.tnd x p q u
 ·obtain⟨k1,G⟩:=old x j h3
  obtain⟨k2,I⟩:=old y v F
  exact hs.tds x y k1 k2 C hx hy G I
 ·obtain⟨p,u⟩:=old x j F; exact hs.btd b x vs p J hx h3 u
 ·obtain⟨p,u⟩:=old x j h; exact hs.tfr x p q u
 ·split at h
  ·rename_i e; subst e; cases h; exact h2 q
  ·exact hs.hds x j q h
 ·obtain⟨p,u⟩:=old x j h; exact hs.vw.t x p q u
theorem Sim.down {γ} {σ} {a} {w} (hs:Sim cx N γ σ a w) {t} {tk} {r} (hT:σ.T t=some tk) (hz:tk.z= .nl) (hr:dnR tk.rows=r):Sim cx N γ ⟨σ.s,(t,some ⟨r,tk.sz,tk.gen,.no⟩)::σ.t,σ.b⟩ a w:=by
 subst hr
 have e:St.T ⟨σ.s,(t,some ⟨dnR tk.rows,tk.sz,tk.gen,.no⟩)::σ.t,σ.b⟩=fun x=>if x=t then some ⟨dnR tk.rows,tk.sz,tk.gen,.no⟩ else σ.T x:=by
  funext x; unfold St.T; simp only [AJ]; split <;> rfl
 refine⟨?_,hs.sl,fun x hx=>?_,hs.bd,hs.df,hs.n⟩
 ·rw [e]
  refine hs.os.retok hT (fun u=>(hs.os.tok t tk u hT).dn hz) fun u=>?_
  have j:=hs.os.hds t tk u hT
  refine⟨j.1,j.2.1,fun q d v p=>?_⟩
  obtain⟨C,F,G⟩:=At.dn (d:=.sl tk.rows) v p
  exact j.2.2 q C F G
 ·show (look ((t,some (⟨dnR tk.rows,tk.sz,tk.gen,.no⟩:Tok))::σ.t) x).isSome =true
  rw [AJ]; split
  ·rfl
  ·exact hs.td x hx
mutual
theorem Own.clr {V V' w}:∀ {d} {v} {fp},Own V w d v fp→Ab.clr d=true→Own V' w d v fp
 | .gone,_,_,h,_=>h
 | .int _ _,_,_,h,_=>h
 | .bool _,_,_,h,_=>h
 | .str _,_,_,h,_=>h
 | .fz _,_,_,_,hc=>by cases hc
 | .ptr _,_,_,_,hc=>by cases hc
 | .nilp,_,_,h,_=>h
 | .nl,_,_,h,_=>h
 | .sl rows,v,fp,h,hc=>by
  simp only [Ab.clr] at hc
  simp only [Own] at h ⊢
  rcases h with h|⟨sz,g,o,c,e,cs,fps,hv,h1,h2,hb,h3,hr,rfl⟩
  ·exact .inl h
  ·exact .inr ⟨sz,g,o,c,e,cs,fps,hv,h1,h2,hb,h3,OwnR.clr hr hc,rfl⟩
theorem OwnR.clr {V V' w} {cs} {sz}:∀ {o} {xs} {fp},OwnR V w cs sz o xs fp→Zo xs=true→OwnR V' w cs sz o xs fp
 |_,[],_,h,_=>h
 |o,x::xs,fp,h,hc=>by
  simp only [Zo,Bool.and_eq_true] at hc
  simp only [OwnR] at h ⊢
  obtain⟨u,q,p,ho,j,rfl⟩:=h
  exact⟨u,q,p,OwnC.clr ho hc.1,OwnR.clr j hc.2,rfl⟩
theorem OwnC.clr {V V' w} {cs}:∀ {o} {ds} {fp},OwnC V w cs o ds fp→jR ds=true→OwnC V' w cs o ds fp
 |_,[],_,h,_=>h
 |o,d::ds,fp,h,hc=>by
  simp only [jR,Bool.and_eq_true] at hc
  simp only [OwnC] at h ⊢
  obtain⟨u,v,q,p,ho,j,rfl⟩:=h
  exact⟨u,v,q,p,Own.clr ho hc.1,OwnC.clr j hc.2,rfl⟩
end
theorem Ae.clr {V w} {tk:Tok} {v} {fp} (h:Ae V w tk v fp) (hr:Zo tk.rows=true):Ae V w ⟨tk.rows,tk.sz,tk.gen,.no⟩ v fp:=by
 unfold Ae at h ⊢
 cases hs:tk.sz with
 |none=>simp only [hs] at h ⊢; exact Own.clr (d:=.sl tk.rows) h hr
 |some sz=>
  simp only [hs] at h ⊢
  rcases h with h|⟨g,o,c,e,cs,fps,h1,h2,h3,h4,h5,h6,h7⟩
  ·exact .inl h
  ·exact .inr ⟨g,o,c,e,cs,fps,h1,h2,h3,h4,h5,OwnR.clr h6 hr,h7⟩
theorem Sim.pure {γ} {σ} {a} {w} (hs:Sim cx N γ σ a w) {t} {tk} (hT:σ.T t=some tk) (hz:tk.z= .yes) (hr:Zo tk.rows=true):Sim cx N γ ⟨σ.s,(t,some ⟨tk.rows,tk.sz,tk.gen,.no⟩)::σ.t,σ.b⟩ a w:=by
 have e:St.T ⟨σ.s,(t,some ⟨tk.rows,tk.sz,tk.gen,.no⟩)::σ.t,σ.b⟩=fun x=>if x=t then some ⟨tk.rows,tk.sz,tk.gen,.no⟩ else σ.T x:=by
  funext x; unfold St.T; simp only [AJ]; split <;> rfl
 refine⟨?_,hs.sl,fun x hx=>?_,hs.bd,hs.df,hs.n⟩
 ·rw [e]
  exact hs.os.retok hT (fun j=>(hs.os.tok t tk j hT).clr hr) fun j=>hs.os.hds t tk j hT
 ·show (look ((t,some (⟨tk.rows,tk.sz,tk.gen,.no⟩:Tok))::σ.t) x).isSome =true
  rw [AJ]; split
  ·rfl
  ·exact hs.td x hx
theorem NY {w0:World} {γ:Gh} {f:AV→Option AV} {tm:Nat→Value} (hf:∀a u x,VSim w0 γ a u→f a=some x→VSim w0 γ x u):∀ {ps:List (Nat × List Nat)} {s s':List (Nat × AV)},(∀i,VSim w0 γ ((look s i).getD .any) (tm i))→rpS f ps s=some s'→∀i,VSim w0 γ ((look s' i).getD .any) (tm i)
 | [],s,s',hs,h=>by
  grind [rpS]
 | (i,p)::ps,s,s',hs,h=>by
  rw [rpS] at h
  cases ha:Hg ((look s i).getD .any) p with
  |none=>rw [ha] at h; cases h
  | some a=>
   rw [ha] at h
   cases hx:f a with
   |none=>grind
   |some x=>
    simp only [hx] at h
    refine NY hf (fun j=>?_) h
    rw [AJ]
    grind [Fy]
theorem NZ {γ:Gh} {f:AV→Option AV} {a:Act} {w:World} (hf:∀a u x,VSim γ.vw γ a u→f a=some x→VSim γ.vw γ x u):∀ {cs:List (Nat × Nat)} {σ:St} {b':List (Nat × Option (List AV))},Sim cx N γ σ a w→rpB f cs σ.b=some b'→Sim cx N γ ⟨σ.s,σ.t,b'⟩ a w
 | [],σ,b',hs,h=>by
  simp only [rpB,Option.some.injEq] at h
  subst h; exact hs
 | (b,j)::cs,σ,b',hs,h=>by
  rw [rpB] at h
  cases hv:(look σ.b b).join with
  |none=>rw [hv] at h; cases h
  | some vs=>
   rw [hv] at h
   cases ha:vs[j]? with
   |none=>grind
   | some v=>
    simp only [ha] at h
    cases hx:f v with
    |none=>grind
    | some x=>
     simp only [hx] at h
     split at h
     ·rename_i hm
      have h1:=Sim.boxed hs (b:=b) (vs:=vs) (vs':=vs.set j x) hv (by simp) (Vz hm.1 hm.2) fun us q=>Hp q fun u p=>hf v u x (Is q ha p) hx
      exact NZ (σ:=⟨σ.s,σ.t,(b,some (vs.set j x))::σ.b⟩) hf h1 h
     grind
theorem Sim.frzT {γ:Gh} {σ:St} {a:Act} {w:World} (hs:Sim cx N γ σ a w) {t:Nat} {tk:Tok} {ps:List (Nat × List Nat)} {cs:List (Nat × Nat)} {s':List (Nat × AV)} {b':List (Nat × Option (List AV))} (hT:σ.T t=some tk)
  (h1:rpS (cl (only t tk) fun _=>none) ps σ.s=some s') (h2:rpB (cl (only t tk) fun _=>none) cs σ.b=some b'):SimE cx N ⟨s',(t,none)::σ.t,b'⟩ a w:=by
 have J:∀x,St.T ⟨σ.s,(t,none)::σ.t,σ.b⟩ x=if x=t then none else σ.T x:=fun x=>by
  unfold St.T; simp only [AJ]; split <;> rfl
 have hg:=hs.os.grow (F:=fun g=>γ.tl t∧g ∈ γ.tf t) (T':=St.T ⟨σ.s,(t,none)::σ.t,σ.b⟩) (B':=σ.B) (fun x q _ h=>by rw [J] at h; grind) (fun _ _ _ h=>h)
  (fun g j=>hs.os.vw.t t tk j.1 hT g j.2) (fun x q hx h g hg j=>by
   rw [J] at h
   split at h
   ·cases h
   ·rename_i G
    exact hs.os.tds t x tk q (fun e=>G e.symm) j.1 hx hT h g j.2 hg) (fun b vs U Y j=>hs.os.btd b t vs tk U j.1 Y hT j.2) (fun g j=>(hs.os.tfr t tk j.1 hT g j.2).imp id And.left)
 generalize hW:mix γ.vw w (fun g=>γ.tl t∧g ∈ γ.tf t)=W at hg
 have hk:Keeps γ.vw W:=by rw [← hW]; exact Wn hs.os.vw.k fun g j=>hs.os.vw.t t tk j.1 hT g j.2
 have O:=Gh.grow_ext (γ:=γ) hk
 have v:VwOk W (γ.grow W) (only t tk) (fun _=>none) W:=by
  refine⟨Keeps.refl _,fun x q hx h=>?_,fun _ _ _ h=>(by cases h),fun x q hx h=>?_⟩
  ·obtain⟨rfl,rfl⟩:=NV h
   exact((hs.os.tok x tk hx hT).mono hk).keep fun g hg=>by rw [← hW]; exact Qq ⟨hx,hg⟩
  ·obtain⟨rfl,rfl⟩:=NV h
   exact(hs.os.hds x tk hx hT).keep (hs.os.tok x tk hx hT).own fun g hg=>by rw [← hW]; exact Qq ⟨hx,hg⟩
 have I:∀a u x,VSim (γ.grow W).vw (γ.grow W) a u→cl (only t tk) (fun _=>none) a=some x→VSim (γ.grow W).vw (γ.grow W) x u:=fun a u x hv hx=>
  VSim.mono (Keeps.refl _) (JB _) (JA v hv hx)
 have C:Sim cx N (γ.grow W) ⟨σ.s,(t,none)::σ.t,σ.b⟩ a w:=⟨hg,fun i=>VSim.mono O.vw O (hs.sl i),fun x hx=>by
  show (look ((t,none)::σ.t) x).isSome =true
  rw [AJ]; split
  ·rfl
  ·exact hs.td x hx,hs.bd,hs.df,hs.n⟩
 have p:=NZ I C h2
 exact⟨_,p.os,NY I p.sl h1,p.td,p.bd,p.df,p.n⟩
theorem Sim.frzB {γ:Gh} {σ:St} {a:Act} {w:World} (hs:Sim cx N γ σ a w) {b:Nat} {vs:List AV} {ps:List (Nat × List Nat)} {cs:List (Nat × Nat)} {s':List (Nat × AV)} {b':List (Nat × Option (List AV))} (hB:σ.B b=some vs) (hp:1000≤b)
  (h1:rpS (cl (fun _=>none) (only b vs)) ps σ.s=some s') (h2:rpB (cl (fun _=>none) (only b vs)) cs ((b,none)::σ.b)=some b'):SimE cx N ⟨s',σ.t,b'⟩ a w:=by
 have U:∀x,St.B ⟨σ.s,σ.t,(b,none)::σ.b⟩ x=if x=b then none else σ.B x:=fun x=>by
  unfold St.B; simp only [AJ]; split <;> rfl
 have hg:=hs.os.grow (F:=fun g=>γ.bl b∧g=γ.bb b) (T':=σ.T) (B':=St.B ⟨σ.s,σ.t,(b,none)::σ.b⟩) (fun _ _ _ h=>h) (fun x J _ h=>by rw [U] at h; grind)
  (fun g j=>by rw [j.2]; exact hs.os.vw.b b vs j.1 hB) (fun x C hx h g hg j=>hs.os.btd b x vs C j.1 hx hB h (j.2 ▸ hg)) (fun x J hx h j=>by
   rw [U] at h
   split at h
   ·cases h
   ·rename_i I
    exact hs.os.bds x b J vs I hx j.1 h hB j.2) (fun g j=>by
   rcases hs.os.bfr b vs j.1 hB with h|⟨h,-⟩
   ·omega
   ·omega)
 generalize hW:mix γ.vw w (fun g=>γ.bl b∧g=γ.bb b)=W at hg
 have hk:Keeps γ.vw W:=by rw [← hW]; exact Wn hs.os.vw.k fun g j=>by rw [j.2]; exact hs.os.vw.b b vs j.1 hB
 have v:=Gh.grow_ext (γ:=γ) hk
 have q:VwOk W (γ.grow W) (fun _=>none) (only b vs) W:=by
  refine⟨Keeps.refl _,fun _ _ _ h=>(by cases h),fun x J hx h=>?_,fun _ _ _ h=>(by cases h)⟩
  obtain⟨rfl,rfl⟩:=NV h
  obtain⟨us,h3,Y⟩:=hs.os.box x vs hx hB
  exact⟨us,AH.mono hk v h3,Y.keep (by rw [← hW]; exact Qq ⟨hx,rfl⟩)⟩
 have O:∀a u x,VSim (γ.grow W).vw (γ.grow W) a u→cl (fun _=>none) (only b vs) a=some x→VSim (γ.grow W).vw (γ.grow W) x u:=fun a u x hv hx=>
  VSim.mono (Keeps.refl _) (JB _) (JA q hv hx)
 have G:Sim cx N (γ.grow W) ⟨σ.s,σ.t,(b,none)::σ.b⟩ a w:=⟨hg,fun i=>VSim.mono v.vw v (hs.sl i),hs.td,fun x hx=>by
  show (look ((b,none)::σ.b) x).isSome =true
  rw [AJ]; split
  ·rfl
  ·exact hs.bd x hx,hs.df,hs.n⟩
 have p:=NZ O G h2
 exact⟨_,p.os,NY O p.sl h1,p.td,p.bd,p.df,p.n⟩
theorem bw {w} {b}:∀ {n off},RepR w 0 b off (List.replicate n [])
 |0,off=>by grind [RepR]
 |n+1,off=>by
  simp only [List.replicate,RepR,RepC]
  exact⟨rfl,trivial,bw⟩
theorem mW {w0 W} {γ} {T} {B} {w} {t g n} {p} {rows} (hs:VwOk w0 γ T B w) (htl:γ.tl t) (h:subR T t g p=some rows) (hn:rows.length=n):Rep W (.sl (List.replicate n [])) (γ.hv t g p):=by
 obtain⟨tk,v,C,q,u,-,-,-,-,j,-⟩:=Jw hs htl h
 subst hn
 simp only [Rep,List.length_replicate]
 simp only [Own] at j
 rcases j with ⟨h1,⟨a,c,h2,h3⟩,-⟩|⟨sz,g,o,c,e,cs,fps,h1,h2,h3,-⟩
 ·grind
 ·exact⟨_,c,h1,h2,h3,.inr ⟨0,g,o,rfl,bw⟩⟩
theorem JH {σ σ1:St} {a:Act} {w:World} (h:Nils σ σ1):SimE cx N σ a w→SimE cx N σ1 a w:=by
 induction h with
 |done σ=>exact id
 | @slot σ σ1 i t ap z hi ht hk ih=>
  rintro ⟨γ,hs⟩
  refine ih ?_
  obtain⟨h1,h2⟩:=hs.nilTok ap z ht
  have hv:=hs.sl i
  rw [hi] at hv
  simp only [VSim] at hv
  refine⟨_,⟨h1.os,fun x=>?_,h1.td,h1.bd,h1.df,h1.n⟩⟩
  have hg:St.g ⟨(i,.own t)::σ.s,(t,some ⟨[],ap,0,z⟩)::σ.t,σ.b⟩ x=if x=i then .own t else σ.g x:=by
   unfold St.g; simp only [AJ]; split <;> rfl
  rw [hg]
  split
  ·grind
  ·exact h1.sl x
 | @deep σ σ1 i t ap z p hi ht hk ih=>
  rintro ⟨γ,hs⟩
  refine ih ?_
  obtain⟨h1,h2⟩:=hs.nilTok ap z ht
  refine⟨_,⟨h1.os,fun x=>?_,h1.td,h1.bd,h1.df,h1.n⟩⟩
  have hg:St.g ⟨(i,E3 (σ.g i) p (.own t))::σ.s,(t,some ⟨[],ap,0,z⟩)::σ.t,σ.b⟩ x=if x=i then E3 (σ.g i) p (.own t) else σ.g x:=by
   unfold St.g; simp only [AJ]; split <;> rfl
  rw [hg]
  split
  ·rename_i e
   subst e
   exact Fy (h1.sl x) hi fun u v=>h2 u (by grind [VSim])
  ·exact h1.sl x
 | @take σ σ1 i t n g p q tk r hi hT hg hq hq0 hne hn hk ih=>
  rintro ⟨γ,hs⟩
  refine ih ?_
  obtain⟨γ1,h1,h2⟩:=hs.takeTok hT hg hq hq0 hne hn
  refine⟨γ1,⟨h1.os,fun x=>?_,h1.td,h1.bd,h1.df,h1.n⟩⟩
  have F:St.g ⟨(i,E3 (σ.g i) p (.own n))::σ.s,(n,some ⟨r,none,0,tk.z⟩)::(t,some ⟨putR q tk.rows .gone,tk.sz,g,tk.z⟩)::σ.t,σ.b⟩ x=if x=i then E3 (σ.g i) p (.own n) else σ.g x:=by
   unfold St.g; simp only [AJ]; split <;> rfl
  rw [F]
  split
  ·rename_i e
   subst e
   exact Fy (h1.sl x) hi h2
  ·exact h1.sl x
 | @ctake σ σ1 b j t n g vs q tk r hb hj hT hg hq hq0 hne hn hk ih=>
  rintro ⟨γ,hs⟩
  refine ih ?_
  obtain⟨γ1,h1,h2⟩:=hs.takeTok hT hg hq hq0 hne hn
  exact⟨_,Sim.boxed h1 (b:=b) (vs:=vs) hb (by simp) (PY hj rfl rfl) fun us v=>Hp v fun u h=>h2 u (Is v hj h)⟩
 | @lit σ σ1 i t b n sz z p vs ds hi hb hd hl hz hp ht hk ih=>
  rintro ⟨γ,hs⟩
  refine ih ?_
  obtain⟨γ1,h1,h2⟩:=hs.litTok (n:=n) (sz:=sz) hb hd hl hz hp ht
  refine⟨_,⟨h1.os,fun x=>?_,h1.td,h1.bd,h1.df,h1.n⟩⟩
  have hg:St.g ⟨(i,E3 (σ.g i) p (.own t))::σ.s,(t,some ⟨BD sz n ds,some sz,0,z⟩)::σ.t,(b,none)::σ.b⟩ x=if x=i then E3 (σ.g i) p (.own t) else σ.g x:=by
   unfold St.g; simp only [AJ]; split <;> rfl
  rw [hg]
  split
  ·rename_i e
   subst e
   exact Fy (h1.sl x) hi h2
  ·exact h1.sl x
 | @clit σ σ1 σ2 b0 j t b n sz z ws vs ds h0 hj hb hm hd hl hz hp h2 ht hk ih=>
  rintro ⟨γ,hs⟩
  refine ih ?_
  obtain⟨γ1,h3,O⟩:=hs.embTok hb hm hd hl hz hp ht
  exact⟨_,Sim.boxed h3 (b:=b0) (vs:=ws) h2 (by simp) (PY hj rfl rfl) fun us v=>Hp v fun u h=>O u (Is v hj h)⟩
 | @takeS σ σ1 i t n g p q tk d sz r hi hT hg hq hd hq0 hne hn hk ih=>
  rintro ⟨γ,hs⟩
  refine ih ?_
  obtain⟨γ1,h1,h2⟩:=hs.takeTokS hT hg hq hd hq0 hne hn
  refine⟨γ1,⟨h1.os,fun x=>?_,h1.td,h1.bd,h1.df,h1.n⟩⟩
  have F:St.g ⟨(i,E3 (σ.g i) p (.own n))::σ.s,(n,some ⟨r,some sz,0,tk.z⟩)::(t,some ⟨putR q tk.rows .gone,tk.sz,g,tk.z⟩)::σ.t,σ.b⟩ x=if x=i then E3 (σ.g i) p (.own n) else σ.g x:=by
   unfold St.g; simp only [AJ]; split <;> rfl
  rw [F]
  split
  ·rename_i e
   subst e
   exact Fy (h1.sl x) hi h2
  ·exact h1.sl x
 | @down σ σ1 t tk r hT hp hz hr hk ih=>
  rintro ⟨γ,hs⟩
  exact ih ⟨γ,hs.down hT hz hr⟩
 | @pure σ σ1 t tk hT hp hz hr hk ih=>
  rintro ⟨γ,hs⟩
  exact ih ⟨γ,hs.pure hT hz hr⟩
 | @cell σ σ1 b j t ap z vs hb hj ht hk ih=>
  rintro ⟨γ,hs⟩
  refine ih ?_
  obtain⟨h1,h2⟩:=hs.nilTok ap z ht
  refine⟨_,Sim.boxed h1 (b:=b) (vs:=vs) hb (by simp) (PY hj rfl rfl) fun us v=>Hp v fun u h=>h2 u ?_⟩
  have:=Is v hj h
  grind [VSim]
 | @chdr σ σ1 b j t g n q vs r hb hj hr hn hk ih=>
  rintro ⟨γ,hs⟩
  refine ih ?_
  refine⟨γ,Sim.boxed hs (b:=b) (vs:=vs) hb (by simp) (PY hj rfl rfl) fun us v=>Hp v fun u h=>?_⟩
  have h1:=Is v hj h
  simp only [VSim] at h1 ⊢
  obtain⟨⟨G,J⟩,-,rfl⟩:=h1
  exact mW hs.os.see G hr hn
 | @forget σ σ1 i p x hi hk ih=>
  rintro ⟨γ,hs⟩
  refine ih ?_
  refine⟨γ,⟨hs.os,fun y=>?_,hs.td,hs.bd,hs.df,hs.n⟩⟩
  have hg:St.g ⟨(i,E3 (σ.g i) p .any)::σ.s,σ.t,σ.b⟩ y=if y=i then E3 (σ.g i) p .any else σ.g y:=by
   unfold St.g; simp only [AJ]; split <;> rfl
  rw [hg]
  split
  ·rename_i e
   subst e
   exact Fy (hs.sl y) hi fun u _=>by grind [VSim]
  ·exact hs.sl y
 | @frzT σ σ1 t ps cs tk s' b' hT hp h1 h2 hk ih=>
  rintro ⟨γ,hs⟩
  exact ih (hs.frzT hT h1 h2)
 | @frzB σ σ1 b ps cs vs s' b' hB hp hm h1 h2 hk ih=>
  rintro ⟨γ,hs⟩
  exact ih (hs.frzB hB hp h1 h2)
 | @frzN σ σ1 ps cs s' b' h1 h2 hk ih=>
  rintro ⟨γ,hs⟩
  have I:∀a u x,VSim γ.vw γ a u→TE a=some x→VSim γ.vw γ x u:=fun a u x hv hx=>by
   cases a <;> simp only [TE] at hx <;> first|cases hx|skip
   grind [VSim,Rep]
  have C:=NZ I hs h2
  exact ih ⟨_,C.os,NY I C.sl h1,C.td,C.bd,C.df,C.n⟩
 | @drop σ σ1 b j vs hb hm hk ih=>
  rintro ⟨γ,hs⟩
  refine ih ?_
  exact⟨γ,Sim.boxed hs (b:=b) (vs:=vs) hb (by simp) (Vz hm rfl) fun us v=>Hp v fun u h=>by grind [VSim]⟩
theorem Na {γ:Gh} {σ:St} {a:Act} {w:World} {L:Bool} {pos:Nat} {o:Oper} {K:St→Prop} {next:Act→World→Prop} {Q:Exit→Act→World→Prop} (hs:Sim cx N γ σ a w) (hok:EX N o=true) (h:TG cx.P L pos o σ K)
  (hk:∀σ' a' w',K σ'→SimE cx N σ' a' w'→next a' w'):o.wp cx.P a w next Q:=by
 rcases h with ⟨-,h⟩|⟨-,h⟩|⟨-,-,h⟩
 ·grind [YQ]
 ·rcases h with h|h|⟨-,σ1,hn,h⟩
  ·exact YR hs hok h hk
  ·exact Z6 hs hok h hk
  ·obtain⟨γ1,j⟩:=JH hn ⟨γ,hs⟩
   exact YQ j hok h hk
 ·exact Tl hs hok h hk
theorem Kc {ops} {base cut} {Q}:∀ {l} {i} {σ} {K} {a} {w},(∀o ∈ l,EX N o=true)→aops cx.P ops base cut i l σ K→SimE cx N σ a w→
  (∀σ' F w',K σ'→SimE cx N σ' F w'→Q .normal F w')→wpList cx.P ops Q l a w
 | [],i,σ,K,a,w,_,h,hs,hk=>hk σ a w h hs
 | o ::l,i,σ,K,a,w,hok,h,⟨γ,hs⟩,hk=>by
  have q:=hok o (by simp)
  unfold wpList
  unfold aops at h
  split at h
  ·rename_i hg
   rw [if_pos (by simp [Region.wanted,hg])]
   exact .inl (Na hs q h fun σ' F w' G v=>Kc (fun o ho=>hok o (by simp [ho])) G v hk)
  ·rename_i j p hg
   obtain⟨s,hj,h⟩:=h
   rcases h with ⟨b,hb,h1,h2⟩|⟨hb,h2⟩
   case inr=>
    have hy:=Tn hs hj hb
    rw [if_neg (by grind [Region.wanted])]
    exact Kc (fun o ho=>hok o (by grind)) h2 ⟨γ,hs.putU (FB q)⟩ hk
   case inl=>
    have hy:=Tm hs hj hb
    have u:∀c,b=c→Sim cx N γ (σ.put (some s) (.bool c)) a w:=fun c e=>by
     subst e
     have I:∀i,(σ.put (some s) (.bool b)).g i=σ.g i:=fun i=>by
      rw [St.g_put]; grind
     exact⟨hs.os,fun i=>by rw [I]; exact hs.sl i,hs.td,hs.bd,hs.df,hs.n⟩
    by_cases hbw:b=p
    ·rw [if_pos (by grind [Region.wanted])]
     exact .inl (Na (u p hbw) q (h1 hbw) fun σ' F w' G v=>Kc (fun o ho=>hok o (by simp [ho])) G v hk)
    ·have C:b= !p:=by cases b <;> cases p <;> simp_all
     rw [if_neg (by grind [Region.wanted])]
     exact Kc (fun o ho=>hok o (by grind)) (h2 C) ⟨γ,(u (!p) C).putU (FB q)⟩ hk
theorem Z7 {σ σ0} {a} {w} (hs:SimE cx N σ a w) (hw:jS σ σ0):SimE cx N σ0 a w:=by
 obtain⟨σ1,h1,h2⟩:=hw
 exact YT (JH h1 hs) h2
end
end Go.Proofs.YthenkmapmnkelaaGreatDoor.Ab
