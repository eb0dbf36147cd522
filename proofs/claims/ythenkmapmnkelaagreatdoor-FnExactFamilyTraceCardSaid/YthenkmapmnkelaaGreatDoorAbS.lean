/- The abstract walk. -/
import Derived.Test.YthenkmapmnkelaaGreatDoorAbO
import Derived.Deep.LoopGhost
import Derived.Laws.Sem
namespace Go.Proofs.YthenkmapmnkelaaGreatDoor.Ab
set_option linter.unusedVariables false
set_option maxHeartbeats 1000000
open Go.RowKit
def GS (N:Nat):Code→Bool
 | .region _ ops draw=>ops.toList.all (EX N)
 | .seq a b=>GS N a&&GS N b
 | .cond _ t f=>GS N t&&GS N f
 | .block _ c=>GS N c
 | .loop c=>GS N c
 |_=>true
def AE.to:AE→Exit
 | .normal =>.normal
 | .exit id=>.exit id
 | .ret =>.ret
def AQ (cx:Cx) (N:Nat) (Q:AE→St→Prop) (e:Exit) (a:Act) (w:World):Prop:=∃q σ,e=AE.to q∧Q q σ∧SimE cx N σ a w
section
variable {cx:Cx} {N:Nat}
def LV (P:Program) (c:Code) (Q:Exit→Act→World→Prop) (a:Act) (w:World):Prop:=
 ∀ (b:Frame) (k:List Item) (cs:List Frame),∃e a' w',Q e a' w'∧Arrives P (lone (b.at a (.code c:: .inLoop c::k)) cs w) b k cs e a' w'
theorem LV.loop {P} {c} {Q} {a} {w} (h:LV P c Q a w):(Code.loop c).wp P Q a w:=fun b k cs=>by
 obtain⟨e,q,w',p,j⟩:=h b k cs
 exact⟨e,q,w',p,.of_steps (.one step_loop) j⟩
theorem LV.of {P} {c} {Q} {a} {w} (h:c.wp P (Exit.then (LV P c Q) Q) a w):LV P c Q a w:=by
 intro b k cs
 obtain⟨e,u,v,q,j⟩:=h b (.inLoop c::k) cs
 cases e with
 |normal=>
  obtain⟨F,I,G,C,p⟩:=q b k cs
  exact⟨F,I,G,C,.of_steps (Steps.trans j (.one step_inLoop)) p⟩
 |exit id=>exact⟨_,u,v,q,.pass (x:=.inLoop c) rfl (fun _ _=>.inl (by simp)) j⟩
 |goto l=>exact⟨_,u,v,q,.pass (x:=.inLoop c) rfl (fun _ _=>.inl (by simp)) j⟩
 |ret=>exact⟨_,u,v,q,.pass (x:=.inLoop c) rfl (fun _ _=>.inl (by simp)) j⟩
 |panic ch=>exact⟨_,u,v,q,.pass (x:=.inLoop c) rfl (fun _ _=>.inl (by simp)) j⟩
 |outgrown=>exact⟨_,u,v,q,.pass (x:=.inLoop c) rfl (fun _ _=>.inl (by simp)) j⟩
theorem gN {σ} {a} {w} {c} {b} (hs:SimE cx N σ a w) (h:σ.e c= .bool b):a.eval c= .bool b:=by
 obtain⟨γ,hs⟩:=hs
 cases c with
 |tmp t=>
  have:=hs.sl t
  have j:σ.g t= .bool b:=h
  rw [j] at this
  simp only [VSim] at this
  exact this
 |const v=>
  have j:BW v= .bool b:=h
  unfold BW at j
  split at j <;> first|(cases j; rfl)|cases j
 |func f=>cases h
 |global g=>cases h
theorem Ph {σ σ0} {a} {w} (h:Wk σ σ0):SimE cx N σ a w→SimE cx N σ0 a w:=by
 induction h with
 |nil σ=>exact id
 |cons h _ ih=>grind [Z7]
 |fz h _ ih=>grind [JH]
theorem GG (hm:cx.P.follows .mixedOrders =true):∀ (c:Code) (Q:AE→St→Prop) (σ:St) (a:Act) (w:World),GS N c=true→awp cx.P c Q σ→SimE cx N σ a w→c.wp cx.P (AQ cx N Q) a w
 | .skip,Q,σ,a,w,hc,h,hs=>wp_skip ⟨.normal,σ,rfl,h,hs⟩
 | .exit id,Q,σ,a,w,hc,h,hs=>wp_exit ⟨.exit id,σ,rfl,h,hs⟩
 | .ret,Q,σ,a,w,hc,h,hs=>wp_ret ⟨.ret,σ,rfl,h,hs⟩
 | .region id ops draw,Q,σ,a,w,hc,h,hs=>by
  simp only [GS,List.all_eq_true] at hc
  rw [awp] at h
  unfold dD at h
  cases draw with
  |false=>exact wp_region_list (Kc hc h hs fun σ' v w' hk j=>⟨.normal,σ',rfl,hk,j⟩)
  | true=>
   rcases h with ⟨E,V,tr,hE,h⟩|h|h
   case inr.inl=>exact aB hm hc h hs fun σ' v w' hk j=>⟨.normal,σ',rfl,hk,j⟩
   case inr.inr=>
    refine wp_mono (h cx N id a w rfl (fun o ho d hd=>?_) hs) ?_
    ·have h1:=hc o ho
     unfold EX at h1
     rw [hd] at h1
     simp only [Bool.and_eq_true,decide_eq_true_eq] at h1
     exact h1.2
    rintro e v w' ⟨rfl,σ',hk,j⟩
    exact⟨.normal,σ',rfl,hk,j⟩
   exact aA hm hc (fun c a w ⟨q,σ,h,_⟩=>by cases q <;> cases h) hE h hs fun σ' v w' hk j=>⟨.normal,σ',rfl,hk,j⟩
 | .seq x y,Q,σ,a,w,hc,h,hs=>by
  simp only [GS,Bool.and_eq_true] at hc
  refine wp_seq (wp_mono (GG hm x _ σ a w hc.1 h hs) ?_)
  rintro e v w' ⟨q,σ',rfl,p,j⟩
  cases q with
  | normal=>
   have u:seqW (I9 x) (awp cx.P y Q) σ':=p
   unfold seqW at u
   split at u
   ·exact GG hm y Q σ' v w' hc.2 u j
   ·obtain⟨σ1,h1,h2⟩:=u
    exact GG hm y Q σ1 v w' hc.2 h2 (Ph h1 j)
  |exit id=>exact⟨.exit id,σ',rfl,p,j⟩
  |ret=>exact⟨.ret,σ',rfl,p,j⟩
 | .cond c x y,Q,σ,a,w,hc,h,hs=>by
  simp only [GS,Bool.and_eq_true] at hc
  obtain⟨b,O,U,G⟩:=h
  exact wp_cond_split (gN hs O) (fun e=>GG hm x Q σ a w hc.1 (U e) hs) fun e=>GG hm y Q σ a w hc.2 (G e) hs
 | .block id c,Q,σ,a,w,hc,h,hs=>by
  refine wp_block (wp_mono (GG hm c _ σ a w hc h hs) ?_)
  rintro e v w' ⟨q,σ',rfl,p,j⟩
  cases q with
  |normal=>exact⟨.normal,σ',rfl,p,j⟩
  |exit i=>
   simp only [AE.inBlock] at p
   simp only [AE.to,Exit.inBlock]
   by_cases hi:i=id
   ·rw [if_pos hi] at p ⊢; exact⟨.normal,σ',rfl,p,j⟩
   ·rw [if_neg hi] at p ⊢; exact⟨.exit i,σ',rfl,p,j⟩
  |ret=>exact⟨.ret,σ',rfl,p,j⟩
 | .loop c,Q,σ,a,w,hc,h,hs=>by
  have I:∀σ,awp cx.P c (AE.then (fun σ'=>∃σ1,Wk σ' σ1∧∀a w,SimE cx N σ1 a w→LV cx.P c (AQ cx N Q) a w) Q) σ→∀a w,SimE cx N σ a w→LV cx.P c (AQ cx N Q) a w:=by
   intro σ F a w hs
   refine LV.of (wp_mono (GG hm c _ σ a w hc F hs) ?_)
   rintro e v w' ⟨q,σ',rfl,p,j⟩
   cases q with
   |normal=>
    obtain⟨σ1,h1,h2⟩:=p
    exact h2 v w' (Ph h1 j)
   |exit id=>exact⟨.exit id,σ',rfl,p,j⟩
   |ret=>exact⟨.ret,σ',rfl,p,j⟩
  obtain⟨σ0,C,J⟩:=h (fun σ=>∀a w,SimE cx N σ a w→LV cx.P c (AQ cx N Q) a w) I
  exact(J a w (Ph C hs)).loop
end
section
variable {cx:Cx} {γ:Gh} {w:World}
structure Handed' (cx:Cx) (γ:Gh) (w:World) (σ σ':St) (fp:List Nat):Prop where
 le:StLe σ σ'
 nd:fp.Nodup
 fr:∀g ∈ fp,Free cx γ σ'.T σ'.B g
 fm:∀g ∈ fp,∃t tk,γ.tl t∧σ.T t=some tk∧g ∈ γ.tf t
theorem Handed'.nil (σ:St):Handed' cx γ w σ σ [] :=⟨StLe.refl σ,List.nodup_nil,by simp,by simp⟩
theorem Handed'.append {σ σ' σ''} {f1 f2} (h:Handed' cx γ w σ σ' f1) (k:Handed' cx γ w σ' σ'' f2):Handed' cx γ w σ σ'' (f1++f2):=by
 refine⟨h.le.trans k.le,List.nodup_append.2 ⟨h.nd,k.nd,fun g hg p j e=>?_⟩,fun g hg=>?_,fun g hg=>?_⟩
 ·subst e
  obtain⟨t,tk,h1,h2,h3⟩:=k.fm g j
  exact(h.fr g hg).t t tk h1 h2 h3
 ·rcases List.mem_append.1 hg with hg|hg
  ·exact Free.of_le k.le (h.fr g hg)
  ·exact k.fr g hg
 ·rcases List.mem_append.1 hg with hg|hg
  ·exact h.fm g hg
  ·obtain⟨t,tk,h1,h2,h3⟩:=k.fm g hg
   exact⟨t,tk,h1,h.le.T t tk h2,h3⟩
mutual
theorem LW:∀ {v} {u} {r} {σ} {K},OSim cx γ σ.T σ.B w→VSim γ.vw γ v u→Dp v r σ K→∃σ' fp,K σ'∧RSim w r u fp∧Handed' cx γ w σ σ' fp
 | .int k n,u,r,σ,K,hs,hv,h=>by
  cases r with
  |int k' m=>
   simp only [Dp] at h
   obtain⟨rfl,rfl,h⟩:=h
   simp only [VSim] at hv
   exact⟨σ,[],h,by grind [RSim],.nil σ⟩
  |_=>simp [Dp] at h
 | .bool b,u,r,σ,K,hs,hv,h=>by
  cases r with
  |bool b'=>
   simp only [Dp] at h
   obtain⟨rfl,h⟩:=h
   simp only [VSim] at hv
   exact⟨σ,[],h,by grind [RSim],.nil σ⟩
  |_=>simp [Dp] at h
 | .str s,u,r,σ,K,hs,hv,h=>by
  cases r with
  |str s'=>
   simp only [Dp] at h
   obtain⟨rfl,h⟩:=h
   simp only [VSim] at hv
   exact⟨σ,[],h,by grind [RSim],.nil σ⟩
  |_=>simp [Dp] at h
 | .nilp,u,r,σ,K,hs,hv,h=>by
  cases r with
  |nilp=>
   simp only [Dp] at h
   simp only [VSim] at hv
   exact⟨σ,[],h,by grind [RSim],.nil σ⟩
  |_=>simp [Dp] at h
 | .nils,u,r,σ,K,hs,hv,h=>by
  cases r with
  |ow ap rows=>
   simp only [Dp] at h
   obtain⟨rfl,h⟩:=h
   simp only [VSim] at hv
   refine⟨σ,[],h,?_,.nil σ⟩
   grind [RSim,Ae.nil]
  |_=>simp [Dp] at h
 | .own t,u,r,σ,K,hs,hv,h=>by
  cases r with
  |ow ap rows=>
   simp only [Dp] at h
   obtain⟨tk,C,F,p,hz,h⟩:=h
   simp only [VSim] at hv
   obtain⟨⟨j,-⟩,G⟩:=hv
   refine⟨_,γ.tf t,h,?_,StLe.killT σ t,hs.tnd t tk j C,Gr hs j C,fun g hg=>⟨t,tk,j,C,hg⟩⟩
   simp only [RSim]
   have q:=hs.tok t tk j C
   rw [G]
   obtain⟨U,J,W,O⟩:=tk
   simp only at F hz p
   subst F hz
   rcases p with rfl|rfl
   ·exact q.own
   ·exact q
  |_=>simp [Dp] at h
 | .ro rows,u,r,σ,K,hs,hv,h=>by
  cases r with
  |ro rows'=>
   simp only [Dp] at h
   obtain⟨rfl,h⟩:=h
   simp only [VSim] at hv
   exact⟨σ,[],h,by simp only [RSim]; exact⟨Rep.keep hs.vw.k _ _ hv,trivial⟩,.nil σ⟩
  |ow ap rows'=>
   simp only [Dp] at h
   obtain⟨rfl,rfl,rfl,h⟩:=h
   simp only [VSim,Rep] at hv
   obtain⟨a,c,rfl,-,I,-⟩:=hv
   refine⟨σ,[],h,?_,.nil σ⟩
   simp only [RSim]
   exact .inl ⟨rfl,⟨a,c,rfl,I⟩,rfl⟩
  |_=>simp [Dp] at h
 | .agg vs,u,r,σ,K,hs,hv,h=>by
  cases r with
  |agg rs=>
   simp only [Dp] at h
   simp only [VSim] at hv
   obtain⟨us,rfl,hv⟩:=hv
   obtain⟨σ',fp,h1,h2,h3⟩:=Md hs hv h
   exact⟨σ',fp,h1,by simp only [RSim]; exact⟨us,rfl,h2⟩,h3⟩
  |_=>simp [Dp] at h
 | .tup vs,u,r,σ,K,hs,hv,h=>by
  cases r with
  |tup rs=>
   simp only [Dp] at h
   simp only [VSim] at hv
   obtain⟨us,rfl,hv⟩:=hv
   obtain⟨σ',fp,h1,h2,h3⟩:=Md hs hv h
   exact⟨σ',fp,h1,by simp only [RSim]; exact⟨us,rfl,h2⟩,h3⟩
  |_=>simp [Dp] at h
 | .any,u,r,σ,K,hs,hv,h=>by grind [Dp]
 | .box _ _,u,r,σ,K,hs,hv,h=>by grind [Dp]
 | .bsl _ n _,u,r,σ,K,hs,hv,h=>by
  cases r with
  |ow ap rows=>
   simp only [Dp] at h
   obtain⟨rfl,rfl,h⟩:=h
   simp only [VSim] at hv
   refine⟨σ,[],h,?_,.nil σ⟩
   grind [RSim,Ae.nil]
  |_=>simp [Dp] at h
 | .rop _ _,u,r,σ,K,hs,hv,h=>by grind [Dp]
 | .elt _ _ _ _,u,r,σ,K,hs,hv,h=>by grind [Dp]
 | .par _ _ _ _,u,r,σ,K,hs,hv,h=>by grind [Dp]
 | .fn _ _,u,r,σ,K,hs,hv,h=>by grind [Dp]
theorem Md:∀ {vs} {us} {rs} {σ} {K},OSim cx γ σ.T σ.B w→AH γ.vw γ vs us→KV vs rs σ K→∃σ' fp,K σ'∧PE w rs us fp∧Handed' cx γ w σ σ' fp
 | [],us,rs,σ,K,hs,hv,h=>by
  cases rs with
  |nil=>
   simp only [KV] at h
   simp only [AH] at hv
   exact⟨σ,[],h,by grind [PE],.nil σ⟩
  |cons r rs=>grind [KV]
 | v::vs,us,rs,σ,K,hs,hv,h=>by
  cases rs with
  |nil=>simp [KV] at h
  |cons r rs=>
   simp only [KV] at h
   simp only [AH] at hv
   obtain⟨u,j,rfl,h1,h2⟩:=hv
   obtain⟨σ',p,k1,k2,k3⟩:=LW hs h1 h
   obtain⟨σ'',q,G,C,F⟩:=Md (k3.le.osim hs) h2 k1
   exact⟨σ'',p++q,G,by simp only [PE]; exact⟨u,j,p,q,rfl,k2,C,rfl⟩,k3.append F⟩
end
theorem aC {w0} {P} {T B} {t} {av v} {u} (ha:VSim w0 γ av u) (h:Ju P T B t av v):∃a,u= .pointer (some a):=by
 unfold Ju at h
 grind [VSim]
def V5 (tmps:Array Value):ResultVar→Sem Value
 | .tmp t=>pure (tmps.getD t undef)
 | .cell a t=>do loadVar t (← asAddr (tmps.getD a undef))
theorem LX {σ:St} {a:Act} (hs:OSim cx γ σ.T σ.B w) (hsl:∀i,VSim γ.vw γ (σ.g i) (a.tmps.getD i undef)):∀ {l:List ResultVar} {K:List AV→Prop},Np cx.P σ l K→
  ∃us vs,(l.mapM (V5 a.tmps)).run cx.P w= .ok us w∧AH γ.vw γ vs us∧K vs∧us.length=l.length
 | [],K,h=>⟨[],[],rfl,by rfl,h,rfl⟩
 | .tmp t::l,K,h=>by
  obtain⟨us,vs,h1,h2,h3,F⟩:=LX hs hsl (l:=l) h
  refine⟨a.tmps.getD t undef::us,σ.g t::vs,?_,by grind [AH],h3,by grind⟩
  rw [List.mapM_cons]
  simp [V5,h1]
 | .cell c t::l,K,h=>by
  obtain⟨v,hv,h⟩:=h
  obtain⟨us,vs,h1,h2,h3,F⟩:=LX hs hsl (l:=l) h
  obtain⟨u,p,q⟩:=TM hs (hsl c) hv
  obtain⟨C,j⟩:=aC (hsl c) hv
  refine⟨u::us,v::vs,?_,by grind [AH],h3,by grind⟩
  rw [j] at p
  have G:(loadVar t C).run cx.P w= .ok u w:=by grind [Instr.loadAt,Instr.sureAddr]
  rw [List.mapM_cons]
  simp_all [V5,asAddr]
end
def Tw:Nat→List AV→List (Nat × AV)
 |_,[] =>[]
 |i,a::as=>(i,a)::Tw (i+1) as
def st0 (args:List AV):St:=⟨Tw 0 args,[],[]⟩
theorem Me {w0} {γ}:∀ (args:List AV) (us:List Value) (i:Nat),AH w0 γ args us→∀ (tmps:Nat→Value),(∀j,j<us.length→tmps (i+j)=us.getD j undef)→∀x,VSim w0 γ ((look (Tw i args) x).getD .any) (tmps x)
 | [],us,i,h,tmps,ht,x=>by simp [Tw,look,VSim]
 | a::as,us,i,h,tmps,ht,x=>by
  simp only [AH] at h
  obtain⟨u,p,rfl,h1,h2⟩:=h
  simp only [Tw,AJ]
  by_cases hx:x=i
  ·subst hx
   rw [if_pos rfl]
   have:=ht 0 (by simp)
   grind
  ·rw [if_neg hx]
   refine Me as p (i+1) h2 tmps (fun j hj=>?_) x
   have:=ht (j+1) (by grind)
   grind
theorem Tx (fn:Func) (tmps:Array Value):results fn tmps=(do let vs ← fn.results.mapM (V5 tmps); pure (if h:vs.size=1 then vs[0] else .tuple vs)):=by
 rfl
def endQ (P:Program) (l:List ResultVar) (r:RV) (q:AE) (σ:St):Prop:=match q with| .exit _=>False|_=>lx P l r σ
theorem aD {P:Program} (hm:P.follows .mixedOrders =true) {f:FuncId} {fn:Func} {c:Code} {args:List AV} {r:RV} (hf:P.funcs[f]? =some fn) (hb:fn.body=some c) (hnm:(fn.name == "runtime.NumGoroutine")=false)
  (hn:args.length≤fn.ntmps) (hok:GS fn.ntmps c=true)
  (h:awp P c (endQ P fn.results.toList r) (st0 args)):AC P f args r:=by
 refine⟨by grind [GU],fun w us hsh G J hv=>?_⟩
 let p:Gh:= {Gh.none with vw:=w}
 let cx:Cx:=⟨P,w,w,[],fun _=>False,Keeps.refl w,by simp,by simp,G,J,p,rfl,by simp [p,Gh.none],by simp [p,Gh.none]⟩
 refine calls_of_wp hf hb ?_
 have hlen:=hv.length
 have Y:SimE cx fn.ntmps (st0 args) {tmps:=us.toArray++Array.replicate (fn.ntmps - us.toArray.size) undef,defers:=[]} w:=by
  refine⟨p,⟨⟨hsh,rfl,rfl,rfl,Nat.le_refl _,fun _ _ _ _=>rfl,by grind⟩,by simp [p,Gh.none],by simp [p,Gh.none],by simp [p,Gh.none],by simp [p,Gh.none],by simp [p,Gh.none],by simp [p,Gh.none],by simp [p,Gh.none],by simp [p,Gh.none],by simp [p,Gh.none],Gh.Ext.refl _,⟨Keeps.refl w,by simp [p,Gh.none],by simp [p,Gh.none],fun a u h=>.inl h⟩⟩,fun i=>?_,by simp [p,Gh.none],by simp [p,Gh.none],rfl,?_⟩
  ·refine Me (w0:=w) (γ:=p) args us 0 (AH.mono (Keeps.refl w) (JB p) hv) (fun i=>(us.toArray++Array.replicate (fn.ntmps - us.toArray.size) undef).getD i undef) (fun j hj=>?_) i
   simp_all [Array.getElem?_append]
  grind
 refine wp_mono (GG (cx:=cx) hm c _ _ _ _ hok h Y) ?_
 rintro e O w' ⟨q,σ,rfl,W,γ,hs⟩
 have key:lx P fn.results.toList r σ→O.defers=[] ∧∃v,(results fn O.tmps).run P w'= .ok v w'∧∃v' fp,Ending.returned v= .returned v'∧RSim w' r v' fp∧fp.Nodup∧(∀g ∈ fp,w.heap.size≤g)∧Below w.heap.size w w':=fun hr=>by
  refine⟨hs.df,?_⟩
  obtain⟨C,vs,h1,h2,h3,h4⟩:=LX hs.os hs.sl hr
  have h1:Sem.run P (List.mapM (V5 O.tmps) fn.results.toList) w'= .ok C w':=h1
  have I:(results fn O.tmps).run P w'= .ok (if h:C.toArray.size=1 then C.toArray[0] else .tuple C.toArray) w':=by
   rw [Tx,Array.mapM_eq_mapM_toList]
   simp [h1]
  have F:Below w.heap.size w w':=⟨hs.os.frm.os,hs.os.frm.tape,hs.os.frm.output,hs.os.frm.size,fun k hk=>hs.os.frm.block k hk (fun h=>h) (by grind)⟩
  refine⟨_,I,?_⟩
  have fin:∀ {σ':St} {fp:List Nat},Handed' cx γ w' σ σ' fp→∀g ∈ fp,w.heap.size≤g:=fun hh g hg=>by
   rcases (hh.fr g hg).fr with h|h
   ·exact h
   grind
  match vs,h2,h3 with
  | [],h2,h3=>
   obtain⟨σ',fp,-,k1,k2⟩:=LW hs.os (v:=.tup []) (u:=.tuple C.toArray) (by grind [VSim]) h3
   have:=h2.length
   exact⟨_,fp,by rw [dif_neg (by grind)],k1,k2.nd,fin k2,F⟩
  | [v],h2,h3=>
   simp only [AH] at h2
   obtain⟨u,us'',rfl,U,rfl⟩:=h2
   obtain⟨σ',fp,-,k1,k2⟩:=LW hs.os U h3
   exact⟨u,fp,by simp,k1,k2.nd,fin k2,F⟩
  |v1::v2::vs,h2,h3=>
   obtain⟨σ',fp,-,k1,k2⟩:=LW hs.os (v:=.tup (v1::v2::vs)) (u:=.tuple C.toArray) (by grind [VSim]) h3
   have:=h2.length
   exact⟨_,fp,by rw [dif_neg (by grind)],k1,k2.nd,fin k2,F⟩
 cases q with
 |normal=>exact key W
 |exit id=>exact W.elim
 |ret=>exact key W
def Kf:List (Nat × Tok)→List (Nat × Option Tok)
 | [] =>[]
 |(t,tk)::r=>(t,some tk)::Kf r
def Kg:List (Nat × List AV)→List (Nat × Option (List AV))
 | [] =>[]
 |(b,vs)::r=>(b,some vs)::Kg r
theorem OW:∀ (l:List (Nat × Tok)) (i:Nat),look (Kf l) i=(look l i).map some
 | [],i=>rfl
 |(t,tk)::r,i=>by
  rw [Kf,AJ,AJ]
  split
  ·rfl
  ·exact OW r i
theorem OX:∀ (l:List (Nat × List AV)) (i:Nat),look (Kg l) i=(look l i).map some
 | [],i=>rfl
 |(t,tk)::r,i=>by
  rw [Kg,AJ,AJ]
  split
  ·rfl
  ·exact OX r i
def stG (args:List AV) (pt:List (Nat × Tok)) (pb:List (Nat × List AV)):St:=⟨Tw 0 args,Kf pt,Kg pb⟩
def oneA:List AV→AV
 | [v] =>v
 |vs=>.tup vs
def RetG (P:Program) (l:List ResultVar) (r:AV) (qt:List (Nat × Tok)) (qb:List (Nat × List AV)) (σ:St):Prop:=
 Np P σ l fun vs=>Wk ⟨[(0,oneA vs)],σ.t,σ.b⟩ ⟨[(0,r)],Kf qt,Kg qb⟩
def endG (P:Program) (l:List ResultVar) (r:AV) (qt:List (Nat × Tok)) (qb:List (Nat × List AV)) (q:AE) (σ:St):Prop:=match q with
 | .exit _=>False
 |_=>RetG P l r qt qb σ
theorem YZ {α:Type} (o:Option α):(o.map some).join =o:=by cases o <;> rfl
theorem pg (s:List (Nat × AV)) (l:List (Nat × Tok)) (b:List (Nat × Option (List AV))):St.T ⟨s,Kf l,b⟩=look l:=by
 funext x
 show (look (Kf l) x).join =_
 rw [OW,YZ]
theorem ph (s:List (Nat × AV)) (l:List (Nat × List AV)) (t:List (Nat × Option Tok)):St.B ⟨s,t,Kg l⟩=look l:=by
 funext x
 show (look (Kg l) x).join =_
 rw [OX,YZ]
theorem aE {P:Program} (hm:P.follows .mixedOrders =true) {f:FuncId} {fn:Func} {c:Code} {args:List AV} {pt:List (Nat × Tok)} {pb:List (Nat × List AV)} {r:AV} {qt:List (Nat × Tok)} {qb:List (Nat × List AV)}
  (hf:P.funcs[f]? =some fn) (W:fn.body=some c) (hnm:(fn.name == "runtime.NumGoroutine")=false)
  (hn:args.length≤fn.ntmps) (hok:GS fn.ntmps c=true)
  (h:awp P c (endG P fn.results.toList r qt qb) (stG args pt pb)):AG P f args pt pb r qt qb:=by
 refine⟨by grind [GU],fun cx γ0 us hP hg0 hT hB hos hv=>?_⟩
 subst hP
 refine calls_of_wp hf W ?_
 have U:=hv.length
 have J:SimE cx fn.ntmps (stG args pt pb) {tmps:=us.toArray++Array.replicate (fn.ntmps - us.toArray.size) undef,defers:=[]} cx.we:=by
  refine⟨γ0,⟨by grind [stG,pg,ph],fun i=>?_,fun t ht=>?_,fun b W=>?_,rfl,?_⟩⟩
  ·refine Me args us 0 hv (fun i=>(us.toArray++Array.replicate (fn.ntmps - us.toArray.size) undef).getD i undef) (fun j hj=>?_) i
   simp_all [Array.getElem?_append]
  ·show (look (Kf pt) t).isSome =true
   rw [OW,Option.isSome_map]; grind
  ·show (look (Kg pb) b).isSome =true
   rw [OX,Option.isSome_map]; grind
  grind
 refine wp_mono (GG (cx:=cx) hm c _ _ _ _ hok h J) ?_
 rintro e G w' ⟨q,σ,rfl,I,γ,hs⟩
 have key:RetG cx.P fn.results.toList r qt qb σ→G.defers=[] ∧∃v,(results fn G.tmps).run cx.P w'= .ok v w'∧∃v' γ',Ending.returned v= .returned v'∧OSim cx γ' (look qt) (look qb) w'∧VSim γ'.vw γ' r v':=fun Y=>by
  refine⟨hs.df,?_⟩
  obtain⟨p,vs,h1,h2,h3,h4⟩:=LX hs.os hs.sl Y
  have h1:Sem.run cx.P (List.mapM (V5 G.tmps) fn.results.toList) w'= .ok p w':=h1
  have u:(results fn G.tmps).run cx.P w'= .ok (if h:p.toArray.size=1 then p.toArray[0] else .tuple p.toArray) w':=by
   rw [Tx,Array.mapM_eq_mapM_toList]
   simp [h1]
  refine⟨_,u,?_⟩
  have F:VSim γ.vw γ (oneA vs) (if h:p.toArray.size=1 then p.toArray[0] else .tuple p.toArray):=by
   match vs,h2 with
   | [],h2=>
    have:=h2.length
    rw [dif_neg (by grind)]
    grind [oneA,VSim]
   | [v],h2=>
    grind [AH,oneA]
   |v1::v2::vs,h2=>
    have:=h2.length
    rw [dif_neg (by grind)]
    grind [oneA,VSim]
  generalize (if h:p.toArray.size=1 then p.toArray[0] else .tuple p.toArray)=val at F
  have O:SimE cx 1 ⟨[(0,oneA vs)],σ.t,σ.b⟩ {tmps:= #[val],defers:=[]} w':=by
   refine⟨γ,⟨hs.os,fun i=>?_,hs.td,hs.bd,rfl,rfl⟩⟩
   unfold St.g
   simp only [AJ]
   split
   ·simp_all
   ·trivial
  obtain⟨γ',C⟩:=Ph h3 O
  refine⟨val,γ',rfl,?_,?_⟩
  ·have:=C.os
   rw [pg,ph] at this
   omega
  ·have:=C.sl 0
   exact this
 cases q with
 |normal=>exact key I
 |exit id=>exact I.elim
 |ret=>exact key I
end Go.Proofs.YthenkmapmnkelaaGreatDoor.Ab
