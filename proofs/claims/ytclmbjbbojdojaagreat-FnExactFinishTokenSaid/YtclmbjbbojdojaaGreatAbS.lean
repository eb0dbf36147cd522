/-
  The abstract walk: results, functions ('ac_of_body').
-/
import Derived.Test.YtclmbjbbojdojaaGreatAbR
import Derived.Laws.Sem
namespace Go.Proofs.YtclmbjbbojdojaaGreat.Ab
set_option linter.unusedVariables false
set_option maxHeartbeats 1000000
open Go.RowKit
section
variable {cx:Cx} {γ:Gh} {w:World}
structure Handed' (cx:Cx) (γ:Gh) (w:World) (σ σ':St) (fp:List Nat):Prop where
 le:StLe σ σ'
 nd:fp.Nodup
 fr:∀g ∈ fp,Free cx γ σ'.T σ'.B g
 fm:∀g ∈ fp,∃t tk,γ.tl t∧σ.T t=some tk∧g ∈ γ.tf t
theorem Handed'.nil (σ:St):Handed' cx γ w σ σ [] :=⟨StLe.refl σ,List.nodup_nil,by simp,by simp⟩
theorem Handed'.append {σ σ' σ''} {f1 f2} (h:Handed' cx γ w σ σ' f1) (k:Handed' cx γ w σ' σ'' f2):Handed' cx γ w σ σ'' (f1++f2):=by
 refine⟨h.le.trans k.le,List.nodup_append.2 ⟨h.nd,k.nd,fun g hg g' hg' e=>?_⟩,fun g hg=>?_,fun g hg=>?_⟩
 ·subst e
  obtain⟨t,tk,h1,h2,h3⟩:=k.fm g hg'
  exact(h.fr g hg).t t tk h1 h2 h3
 ·rcases List.mem_append.1 hg with hg|hg
  ·exact Free.of_le k.le (h.fr g hg)
  ·exact k.fr g hg
 ·rcases List.mem_append.1 hg with hg|hg
  ·exact h.fm g hg
  ·obtain⟨t,tk,h1,h2,h3⟩:=k.fm g hg
   exact⟨t,tk,h1,h.le.T t tk h2,h3⟩
mutual
theorem L9:∀ {v} {u} {r} {σ} {K},OSim cx γ σ.T σ.B w→VSim γ.vw γ v u→EI v r σ K→∃σ' fp,K σ'∧RSim w r u fp∧Handed' cx γ w σ σ' fp
 | .int k n,u,r,σ,K,hs,hv,h=>by
  cases r with
  |int k' m=>
   simp only [EI] at h
   obtain⟨rfl,rfl,h⟩:=h
   simp only [VSim] at hv
   exact⟨σ,[],h,by grind [RSim],.nil σ⟩
  |_=>simp [EI] at h
 | .bool b,u,r,σ,K,hs,hv,h=>by
  cases r with
  |bool b'=>
   simp only [EI] at h
   obtain⟨rfl,h⟩:=h
   simp only [VSim] at hv
   exact⟨σ,[],h,by grind [RSim],.nil σ⟩
  |_=>simp [EI] at h
 | .str s,u,r,σ,K,hs,hv,h=>by
  cases r with
  |str s'=>
   simp only [EI] at h
   obtain⟨rfl,h⟩:=h
   simp only [VSim] at hv
   exact⟨σ,[],h,by grind [RSim],.nil σ⟩
  |_=>simp [EI] at h
 | .nilp,u,r,σ,K,hs,hv,h=>by
  cases r with
  |nilp=>
   simp only [EI] at h
   simp only [VSim] at hv
   exact⟨σ,[],h,by grind [RSim],.nil σ⟩
  |_=>simp [EI] at h
 | .nils,u,r,σ,K,hs,hv,h=>by
  cases r with
  |ow ap rows=>
   simp only [EI] at h
   obtain⟨rfl,h⟩:=h
   simp only [VSim] at hv
   refine⟨σ,[],h,?_,.nil σ⟩
   grind [RSim,Aj.nil]
  |_=>simp [EI] at h
 | .own t,u,r,σ,K,hs,hv,h=>by
  cases r with
  |ow ap rows=>
   simp only [EI] at h
   obtain⟨tk,hT,hr,hap,hz,h⟩:=h
   simp only [VSim] at hv
   obtain⟨⟨htl,-⟩,hu⟩:=hv
   refine⟨_,γ.tf t,h,?_,StLe.killT σ t,hs.tnd t tk htl hT,Hl hs htl hT,fun g hg=>⟨t,tk,htl,hT,hg⟩⟩
   simp only [RSim]
   have hok:=hs.tok t tk htl hT
   rw [hu]
   obtain⟨r0,z0,k0,q0⟩:=tk
   simp only at hr hz hap
   subst hr hz
   rcases hap with rfl|rfl
   ·exact hok.own
   ·exact hok
  |_=>simp [EI] at h
 | .ro rows,u,r,σ,K,hs,hv,h=>by
  cases r with
  |ro rows'=>
   simp only [EI] at h
   obtain⟨rfl,h⟩:=h
   simp only [VSim] at hv
   exact⟨σ,[],h,by simp only [RSim]; exact⟨Rep.keep hs.vw.k _ _ hv,trivial⟩,.nil σ⟩
  |ow ap rows'=>
   simp only [EI] at h
   obtain⟨rfl,rfl,rfl,h⟩:=h
   simp only [VSim,Rep] at hv
   obtain⟨a,c,rfl,-,hc,-⟩:=hv
   refine⟨σ,[],h,?_,.nil σ⟩
   simp only [RSim]
   exact .inl ⟨rfl,⟨a,c,rfl,hc⟩,rfl⟩
  |_=>simp [EI] at h
 | .agg vs,u,r,σ,K,hs,hv,h=>by
  cases r with
  |agg rs=>
   simp only [EI] at h
   simp only [VSim] at hv
   obtain⟨us,rfl,hv⟩:=hv
   obtain⟨σ',fp,h1,h2,h3⟩:=NE hs hv h
   exact⟨σ',fp,h1,by simp only [RSim]; exact⟨us,rfl,h2⟩,h3⟩
  |_=>simp [EI] at h
 | .tup vs,u,r,σ,K,hs,hv,h=>by
  cases r with
  |tup rs=>
   simp only [EI] at h
   simp only [VSim] at hv
   obtain⟨us,rfl,hv⟩:=hv
   obtain⟨σ',fp,h1,h2,h3⟩:=NE hs hv h
   exact⟨σ',fp,h1,by simp only [RSim]; exact⟨us,rfl,h2⟩,h3⟩
  |_=>simp [EI] at h
 | .any,u,r,σ,K,hs,hv,h=>by grind [EI]
 | .box _ _,u,r,σ,K,hs,hv,h=>by grind [EI]
 | .bsl _ n _,u,r,σ,K,hs,hv,h=>by
  cases r with
  |ow ap rows=>
   simp only [EI] at h
   obtain⟨rfl,rfl,h⟩:=h
   simp only [VSim] at hv
   refine⟨σ,[],h,?_,.nil σ⟩
   grind [RSim,Aj.nil]
  |_=>simp [EI] at h
 | .rop _ _,u,r,σ,K,hs,hv,h=>by grind [EI]
 | .elt _ _ _ _,u,r,σ,K,hs,hv,h=>by grind [EI]
 | .par _ _ _ _,u,r,σ,K,hs,hv,h=>by grind [EI]
 | .fn _ _,u,r,σ,K,hs,hv,h=>by grind [EI]
theorem NE:∀ {vs} {us} {rs} {σ} {K},OSim cx γ σ.T σ.B w→AH γ.vw γ vs us→LO vs rs σ K→∃σ' fp,K σ'∧P3 w rs us fp∧Handed' cx γ w σ σ' fp
 | [],us,rs,σ,K,hs,hv,h=>by
  cases rs with
  |nil=>
   simp only [LO] at h
   simp only [AH] at hv
   exact⟨σ,[],h,by grind [P3],.nil σ⟩
  |cons r rs=>grind [LO]
 | v::vs,us,rs,σ,K,hs,hv,h=>by
  cases rs with
  |nil=>simp [LO] at h
  |cons r rs=>
   simp only [LO] at h
   simp only [AH] at hv
   obtain⟨u,us',rfl,h1,h2⟩:=hv
   obtain⟨σ',f1,k1,k2,k3⟩:=L9 hs h1 h
   obtain⟨σ'',f2,j1,j2,j3⟩:=NE (k3.le.osim hs) h2 k1
   exact⟨σ'',f1++f2,j1,by simp only [P3]; exact⟨u,us',f1,f2,rfl,k2,j2,rfl⟩,k3.append j3⟩
end
theorem Z9 {w0} {P} {T B} {t} {av v} {u} (ha:VSim w0 γ av u) (h:Jx P T B t av v):∃a,u= .pointer (some a):=by
 unfold Jx at h
 grind [VSim]
def Wa (tmps:Array Value):ResultVar→Sem Value
 | .tmp t=>pure (tmps.getD t undef)
 | .cell a t=>do loadVar t (← asAddr (tmps.getD a undef))
theorem MA {σ:St} {a:Act} (hs:OSim cx γ σ.T σ.B w) (hsl:∀i,VSim γ.vw γ (σ.g i) (a.tmps.getD i undef)):∀ {l:List ResultVar} {K:List AV→Prop},OH cx.P σ l K→
  ∃us vs,(l.mapM (Wa a.tmps)).run cx.P w= .ok us w∧AH γ.vw γ vs us∧K vs∧us.length=l.length
 | [],K,h=>⟨[],[],rfl,by rfl,h,rfl⟩
 | .tmp t::l,K,h=>by
  obtain⟨us,vs,h1,h2,h3,h4⟩:=MA hs hsl (l:=l) h
  refine⟨a.tmps.getD t undef::us,σ.g t::vs,?_,by grind [AH],h3,by grind⟩
  rw [List.mapM_cons]
  simp [Wa,h1]
 | .cell c t::l,K,h=>by
  obtain⟨v,hv,h⟩:=h
  obtain⟨us,vs,h1,h2,h3,h4⟩:=MA hs hsl (l:=l) h
  obtain⟨u,hu,hvs⟩:=T2 hs (hsl c) hv
  obtain⟨ad,had⟩:=Z9 (hsl c) hv
  refine⟨u::us,v::vs,?_,by grind [AH],h3,by grind⟩
  rw [had] at hu
  have hl:(loadVar t ad).run cx.P w= .ok u w:=by grind [Instr.loadAt,Instr.sureAddr]
  rw [List.mapM_cons]
  simp_all [Wa,asAddr]
end
def Uc:Nat→List AV→List (Nat × AV)
 |_,[] =>[]
 |i,a::as=>(i,a)::Uc (i+1) as
def st0 (args:List AV):St:=⟨Uc 0 args,[],[]⟩
theorem NF {w0} {γ}:∀ (args:List AV) (us:List Value) (i:Nat),AH w0 γ args us→∀ (tmps:Nat→Value),(∀j,j<us.length→tmps (i+j)=us.getD j undef)→∀x,VSim w0 γ ((look (Uc i args) x).getD .any) (tmps x)
 | [],us,i,h,tmps,ht,x=>by simp [Uc,look,VSim]
 | a::as,us,i,h,tmps,ht,x=>by
  simp only [AH] at h
  obtain⟨u,us',rfl,h1,h2⟩:=h
  simp only [Uc,AI]
  by_cases hx:x=i
  ·subst hx
   rw [if_pos rfl]
   have:=ht 0 (by simp)
   grind
  ·rw [if_neg hx]
   refine NF as us' (i+1) h2 tmps (fun j hj=>?_) x
   have:=ht (j+1) (by grind)
   grind
theorem Ud (fn:Func) (tmps:Array Value):results fn tmps=(do let vs ← fn.results.mapM (Wa tmps); pure (if h:vs.size=1 then vs[0] else .tuple vs)):=by
 rfl
def endQ (P:Program) (l:List ResultVar) (r:RV) (q:AE) (σ:St):Prop:=match q with| .exit _=>False|_=>ju P l r σ
theorem aA {P:Program} (hm:P.follows .mixedOrders =true) {f:FuncId} {fn:Func} {c:Code} {args:List AV} {r:RV} (hf:P.funcs[f]? =some fn) (hb:fn.body=some c) (hnm:(fn.name == "runtime.NumGoroutine")=false)
  (hn:args.length≤fn.ntmps) (hok:HA fn.ntmps c=true)
  (h:awp P c (endQ P fn.results.toList r) (st0 args)):AC P f args r:=by
 refine⟨by grind [HD],fun w us hsh hlow hamb hv=>?_⟩
 let g0:Gh:= {Gh.none with vw:=w}
 let cx:Cx:=⟨P,w,w,[],fun _=>False,AS.refl w,by simp,by simp,hlow,hamb,g0,rfl,by simp [g0,Gh.none],by simp [g0,Gh.none]⟩
 refine calls_of_wp hf hb ?_
 have hlen:=hv.length
 have hs0:SimE cx fn.ntmps (st0 args) {tmps:=us.toArray++Array.replicate (fn.ntmps - us.toArray.size) undef,defers:=[]} w:=by
  refine⟨g0,⟨⟨hsh,rfl,rfl,rfl,Nat.le_refl _,fun _ _ _ _=>rfl,by grind⟩,by simp [g0,Gh.none],by simp [g0,Gh.none],by simp [g0,Gh.none],by simp [g0,Gh.none],by simp [g0,Gh.none],by simp [g0,Gh.none],by simp [g0,Gh.none],by simp [g0,Gh.none],by simp [g0,Gh.none],Gh.Ext.refl _,⟨AS.refl w,by simp [g0,Gh.none],by simp [g0,Gh.none],fun a u h=>.inl h⟩⟩,fun i=>?_,by simp [g0,Gh.none],by simp [g0,Gh.none],rfl,?_⟩
  ·refine NF (w0:=w) (γ:=g0) args us 0 (AH.mono (AS.refl w) (J0 g0) hv) (fun i=>(us.toArray++Array.replicate (fn.ntmps - us.toArray.size) undef).getD i undef) (fun j hj=>?_) i
   simp_all [Array.getElem?_append]
  grind
 refine wp_mono (Gz (cx:=cx) hm c _ _ _ _ hok h hs0) ?_
 rintro e a' w' ⟨q,σ,rfl,hq,γ,hs⟩
 have key:ju P fn.results.toList r σ→a'.defers=[] ∧∃v,(results fn a'.tmps).run P w'= .ok v w'∧∃v' fp,Ending.returned v= .returned v'∧RSim w' r v' fp∧fp.Nodup∧(∀g ∈ fp,w.heap.size≤g)∧Below w.heap.size w w':=fun hr=>by
  refine⟨hs.df,?_⟩
  obtain⟨us',vs,h1,h2,h3,h4⟩:=MA hs.os hs.sl hr
  have h1:Sem.run P (List.mapM (Wa a'.tmps) fn.results.toList) w'= .ok us' w':=h1
  have hrun:(results fn a'.tmps).run P w'= .ok (if h:us'.toArray.size=1 then us'.toArray[0] else .tuple us'.toArray) w':=by
   rw [Ud,Array.mapM_eq_mapM_toList]
   simp [h1]
  have hbel:Below w.heap.size w w':=⟨hs.os.frm.os,hs.os.frm.tape,hs.os.frm.output,hs.os.frm.size,fun k hk=>hs.os.frm.block k hk (fun h=>h) (by grind)⟩
  refine⟨_,hrun,?_⟩
  have fin:∀ {σ':St} {fp:List Nat},Handed' cx γ w' σ σ' fp→∀g ∈ fp,w.heap.size≤g:=fun hh g hg=>by
   rcases (hh.fr g hg).fr with h|h
   ·exact h
   grind
  match vs,h2,h3 with
  | [],h2,h3=>
   obtain⟨σ',fp,-,k1,k2⟩:=L9 hs.os (v:=.tup []) (u:=.tuple us'.toArray) (by grind [VSim]) h3
   have:=h2.length
   exact⟨_,fp,by rw [dif_neg (by grind)],k1,k2.nd,fin k2,hbel⟩
  | [v],h2,h3=>
   simp only [AH] at h2
   obtain⟨u,us'',rfl,hv2,rfl⟩:=h2
   obtain⟨σ',fp,-,k1,k2⟩:=L9 hs.os hv2 h3
   exact⟨u,fp,by simp,k1,k2.nd,fin k2,hbel⟩
  |v1::v2::vs,h2,h3=>
   obtain⟨σ',fp,-,k1,k2⟩:=L9 hs.os (v:=.tup (v1::v2::vs)) (u:=.tuple us'.toArray) (by grind [VSim]) h3
   have:=h2.length
   exact⟨_,fp,by rw [dif_neg (by grind)],k1,k2.nd,fin k2,hbel⟩
 cases q with
 |normal=>exact key hq
 |exit id=>exact hq.elim
 |ret=>exact key hq
end Go.Proofs.YtclmbjbbojdojaaGreat.Ab
namespace Go.Proofs.YtclmbjbbojdojaaGreat.Ab
set_option linter.unusedVariables false
open Go.RowKit
def MT:List (Nat × Tok)→List (Nat × Option Tok)
 | [] =>[]
 |(t,tk)::r=>(t,some tk)::MT r
def MU:List (Nat × List AV)→List (Nat × Option (List AV))
 | [] =>[]
 |(b,vs)::r=>(b,some vs)::MU r
theorem PF:∀ (l:List (Nat × Tok)) (i:Nat),look (MT l) i=(look l i).map some
 | [],i=>rfl
 |(t,tk)::r,i=>by
  rw [MT,AI,AI]
  split
  ·rfl
  ·exact PF r i
theorem PG:∀ (l:List (Nat × List AV)) (i:Nat),look (MU l) i=(look l i).map some
 | [],i=>rfl
 |(t,tk)::r,i=>by
  rw [MU,AI,AI]
  split
  ·rfl
  ·exact PG r i
def stG (args:List AV) (pt:List (Nat × Tok)) (pb:List (Nat × List AV)):St:=⟨Uc 0 args,MT pt,MU pb⟩
def oneA:List AV→AV
 | [v] =>v
 |vs=>.tup vs
def RetG (P:Program) (l:List ResultVar) (r:AV) (qt:List (Nat × Tok)) (qb:List (Nat × List AV)) (σ:St):Prop:=
 OH P σ l fun vs=>Wk ⟨[(0,oneA vs)],σ.t,σ.b⟩ ⟨[(0,r)],MT qt,MU qb⟩
def endG (P:Program) (l:List ResultVar) (r:AV) (qt:List (Nat × Tok)) (qb:List (Nat × List AV)) (q:AE) (σ:St):Prop:=match q with
 | .exit _=>False
 |_=>RetG P l r qt qb σ
theorem Yi {α:Type} (o:Option α):(o.map some).join =o:=by cases o <;> rfl
theorem nq (s:List (Nat × AV)) (l:List (Nat × Tok)) (b:List (Nat × Option (List AV))):St.T ⟨s,MT l,b⟩=look l:=by
 funext x
 show (look (MT l) x).join =_
 rw [PF,Yi]
theorem nr (s:List (Nat × AV)) (l:List (Nat × List AV)) (t:List (Nat × Option Tok)):St.B ⟨s,t,MU l⟩=look l:=by
 funext x
 show (look (MU l) x).join =_
 rw [PG,Yi]
theorem aB {P:Program} (hm:P.follows .mixedOrders =true) {f:FuncId} {fn:Func} {c:Code} {args:List AV} {pt:List (Nat × Tok)} {pb:List (Nat × List AV)} {r:AV} {qt:List (Nat × Tok)} {qb:List (Nat × List AV)}
  (hf:P.funcs[f]? =some fn) (hb:fn.body=some c) (hnm:(fn.name == "runtime.NumGoroutine")=false)
  (hn:args.length≤fn.ntmps) (hok:HA fn.ntmps c=true)
  (h:awp P c (endG P fn.results.toList r qt qb) (stG args pt pb)):AG P f args pt pb r qt qb:=by
 refine⟨by grind [HD],fun cx γ0 us hP hg0 hT hB hos hv=>?_⟩
 subst hP
 refine calls_of_wp hf hb ?_
 have hlen:=hv.length
 have hs0:SimE cx fn.ntmps (stG args pt pb) {tmps:=us.toArray++Array.replicate (fn.ntmps - us.toArray.size) undef,defers:=[]} cx.we:=by
  refine⟨γ0,⟨by grind [stG,nq,nr],fun i=>?_,fun t ht=>?_,fun b hb=>?_,rfl,?_⟩⟩
  ·refine NF args us 0 hv (fun i=>(us.toArray++Array.replicate (fn.ntmps - us.toArray.size) undef).getD i undef) (fun j hj=>?_) i
   simp_all [Array.getElem?_append]
  ·show (look (MT pt) t).isSome =true
   rw [PF,Option.isSome_map]; grind
  ·show (look (MU pb) b).isSome =true
   rw [PG,Option.isSome_map]; grind
  grind
 refine wp_mono (Gz (cx:=cx) hm c _ _ _ _ hok h hs0) ?_
 rintro e a' w' ⟨q,σ,rfl,hq,γ,hs⟩
 have key:RetG cx.P fn.results.toList r qt qb σ→a'.defers=[] ∧∃v,(results fn a'.tmps).run cx.P w'= .ok v w'∧∃v' γ',Ending.returned v= .returned v'∧OSim cx γ' (look qt) (look qb) w'∧VSim γ'.vw γ' r v':=fun hr=>by
  refine⟨hs.df,?_⟩
  obtain⟨us',vs,h1,h2,h3,h4⟩:=MA hs.os hs.sl hr
  have h1:Sem.run cx.P (List.mapM (Wa a'.tmps) fn.results.toList) w'= .ok us' w':=h1
  have hrun:(results fn a'.tmps).run cx.P w'= .ok (if h:us'.toArray.size=1 then us'.toArray[0] else .tuple us'.toArray) w':=by
   rw [Ud,Array.mapM_eq_mapM_toList]
   simp [h1]
  refine⟨_,hrun,?_⟩
  have hval:VSim γ.vw γ (oneA vs) (if h:us'.toArray.size=1 then us'.toArray[0] else .tuple us'.toArray):=by
   match vs,h2 with
   | [],h2=>
    have:=h2.length
    rw [dif_neg (by grind)]
    grind [oneA,VSim]
   | [v],h2=>
    grind [AH,oneA]
   |v1::v2::vs,h2=>
    have:=h2.length
    rw [dif_neg (by grind)]
    grind [oneA,VSim]
  generalize (if h:us'.toArray.size=1 then us'.toArray[0] else .tuple us'.toArray)=val at hval
  have hs1:SimE cx 1 ⟨[(0,oneA vs)],σ.t,σ.b⟩ {tmps:= #[val],defers:=[]} w':=by
   refine⟨γ,⟨hs.os,fun i=>?_,hs.td,hs.bd,rfl,rfl⟩⟩
   unfold St.g
   simp only [AI]
   split
   ·simp_all
   ·trivial
  obtain⟨γ',hs2⟩:=QS h3 hs1
  refine⟨val,γ',rfl,?_,?_⟩
  ·have:=hs2.os
   rw [nq,nr] at this
   omega
  ·have:=hs2.sl 0
   exact this
 cases q with
 |normal=>exact key hq
 |exit id=>exact hq.elim
 |ret=>exact key hq
end Go.Proofs.YtclmbjbbojdojaaGreat.Ab
