/-
  The abstract walk: code ('awp_sound').
-/
import Derived.Test.YtoncbhomocgmcaaGreatDoorAbO
import Derived.Deep.LoopGhost
import Derived.Laws.Sem
namespace Go.Proofs.YtoncbhomocgmcaaGreatDoor.Ab
set_option linter.unusedVariables false
set_option maxHeartbeats 1000000
open Go.RowKit
def D2 (N:Nat):Code→Bool
 | .region _ ops draw=>ops.toList.all (Cs N)
 | .seq a b=>D2 N a&&D2 N b
 | .cond _ t f=>D2 N t&&D2 N f
 | .block _ c=>D2 N c
 | .loop c=>D2 N c
 |_=>true
def AE.to:AE→Exit
 | .normal =>.normal
 | .exit id=>.exit id
 | .ret =>.ret
def AQ (cx:Cx) (N:Nat) (Q:AE→St→Prop) (e:Exit) (a:Act) (w:World):Prop:=∃q σ,e=AE.to q∧Q q σ∧SimE cx N σ a w
section
variable {cx:Cx} {N:Nat}
def Ha (P:Program) (c:Code) (Q:Exit→Act→World→Prop) (a:Act) (w:World):Prop:=
 ∀ (b:Frame) (k:List Item) (cs:List Frame),∃e a' w',Q e a' w'∧Arrives P (lone (b.at a (.code c:: .inLoop c::k)) cs w) b k cs e a' w'
theorem Ha.loop {P} {c} {Q} {a} {w} (h:Ha P c Q a w):(Code.loop c).wp P Q a w:=fun b k cs=>by
 obtain⟨e,a',w',hq,harr⟩:=h b k cs
 exact⟨e,a',w',hq,.of_steps (.one step_loop) harr⟩
theorem Ha.of {P} {c} {Q} {a} {w} (h:c.wp P (Exit.then (Ha P c Q) Q) a w):Ha P c Q a w:=by
 intro b k cs
 obtain⟨e,a₁,w₁,hq,harr⟩:=h b (.inLoop c::k) cs
 cases e with
 |normal=>
  obtain⟨e₂,a₂,w₂,hq₂,harr₂⟩:=hq b k cs
  exact⟨e₂,a₂,w₂,hq₂,.of_steps (Steps.trans harr (.one step_inLoop)) harr₂⟩
 |exit id=>exact⟨_,a₁,w₁,hq,.pass (x:=.inLoop c) rfl (fun _ _=>.inl (by simp)) harr⟩
 |goto l=>exact⟨_,a₁,w₁,hq,.pass (x:=.inLoop c) rfl (fun _ _=>.inl (by simp)) harr⟩
 |ret=>exact⟨_,a₁,w₁,hq,.pass (x:=.inLoop c) rfl (fun _ _=>.inl (by simp)) harr⟩
 |panic ch=>exact⟨_,a₁,w₁,hq,.pass (x:=.inLoop c) rfl (fun _ _=>.inl (by simp)) harr⟩
 |outgrown=>exact⟨_,a₁,w₁,hq,.pass (x:=.inLoop c) rfl (fun _ _=>.inl (by simp)) harr⟩
theorem W0 {σ} {a} {w} {c} {b} (hs:SimE cx N σ a w) (h:σ.e c= .bool b):a.eval c= .bool b:=by
 obtain⟨γ,hs⟩:=hs
 cases c with
 |tmp t=>
  have:=hs.sl t
  have h':σ.g t= .bool b:=h
  rw [h'] at this
  simp only [VSim] at this
  exact this
 |const v=>
  have h':Av v= .bool b:=h
  unfold Av at h'
  split at h' <;> first|(cases h'; rfl)|cases h'
 |func f=>cases h
 |global g=>cases h
theorem Kr {σ σ0} {a} {w} (h:Wk σ σ0):SimE cx N σ a w→SimE cx N σ0 a w:=by
 induction h with
 |nil σ=>exact id
 |cons h _ ih=>grind [TE]
 |fz h _ ih=>grind [F1]
theorem Dt (hm:cx.P.follows .mixedOrders =true):∀ (c:Code) (Q:AE→St→Prop) (σ:St) (a:Act) (w:World),D2 N c=true→awp cx.P c Q σ→SimE cx N σ a w→c.wp cx.P (AQ cx N Q) a w
 | .skip,Q,σ,a,w,hc,h,hs=>wp_skip ⟨.normal,σ,rfl,h,hs⟩
 | .exit id,Q,σ,a,w,hc,h,hs=>wp_exit ⟨.exit id,σ,rfl,h,hs⟩
 | .ret,Q,σ,a,w,hc,h,hs=>wp_ret ⟨.ret,σ,rfl,h,hs⟩
 | .region id ops draw,Q,σ,a,w,hc,h,hs=>by
  simp only [D2,List.all_eq_true] at hc
  rw [awp] at h
  unfold U6 at h
  cases draw with
  |false=>exact wp_region_list (G0 hc h hs fun σ' a' w' hk hs'=>⟨.normal,σ',rfl,hk,hs'⟩)
  | true=>
   rcases h with ⟨E,V,tr,hE,h⟩|h|h
   case inr.inl=>exact TJ hm hc h hs fun σ' a' w' hk hs'=>⟨.normal,σ',rfl,hk,hs'⟩
   case inr.inr=>
    refine wp_mono (h cx N id a w rfl (fun o ho d hd=>?_) hs) ?_
    ·have h1:=hc o ho
     unfold Cs at h1
     rw [hd] at h1
     simp only [Bool.and_eq_true,decide_eq_true_eq] at h1
     exact h1.2
    rintro e a' w' ⟨rfl,σ',hk,hs'⟩
    exact⟨.normal,σ',rfl,hk,hs'⟩
   exact TH hm hc (fun c a w ⟨q,σ,h,_⟩=>by cases q <;> cases h) hE h hs fun σ' a' w' hk hs'=>⟨.normal,σ',rfl,hk,hs'⟩
 | .seq x y,Q,σ,a,w,hc,h,hs=>by
  simp only [D2,Bool.and_eq_true] at hc
  refine wp_seq (wp_mono (Dt hm x _ σ a w hc.1 h hs) ?_)
  rintro e a' w' ⟨q,σ',rfl,hq,hs'⟩
  cases q with
  | normal=>
   have hq':seqW (Ft x) (awp cx.P y Q) σ':=hq
   unfold seqW at hq'
   split at hq'
   ·exact Dt hm y Q σ' a' w' hc.2 hq' hs'
   ·obtain⟨σ1,h1,h2⟩:=hq'
    exact Dt hm y Q σ1 a' w' hc.2 h2 (Kr h1 hs')
  |exit id=>exact⟨.exit id,σ',rfl,hq,hs'⟩
  |ret=>exact⟨.ret,σ',rfl,hq,hs'⟩
 | .cond c x y,Q,σ,a,w,hc,h,hs=>by
  simp only [D2,Bool.and_eq_true] at hc
  obtain⟨b,hb,ht,hf⟩:=h
  exact wp_cond_split (W0 hs hb) (fun e=>Dt hm x Q σ a w hc.1 (ht e) hs) fun e=>Dt hm y Q σ a w hc.2 (hf e) hs
 | .block id c,Q,σ,a,w,hc,h,hs=>by
  refine wp_block (wp_mono (Dt hm c _ σ a w hc h hs) ?_)
  rintro e a' w' ⟨q,σ',rfl,hq,hs'⟩
  cases q with
  |normal=>exact⟨.normal,σ',rfl,hq,hs'⟩
  |exit i=>
   simp only [AE.inBlock] at hq
   simp only [AE.to,Exit.inBlock]
   by_cases hi:i=id
   ·rw [if_pos hi] at hq ⊢; exact⟨.normal,σ',rfl,hq,hs'⟩
   ·rw [if_neg hi] at hq ⊢; exact⟨.exit i,σ',rfl,hq,hs'⟩
  |ret=>exact⟨.ret,σ',rfl,hq,hs'⟩
 | .loop c,Q,σ,a,w,hc,h,hs=>by
  have hL:∀σ,awp cx.P c (AE.then (fun σ'=>∃σ1,Wk σ' σ1∧∀a w,SimE cx N σ1 a w→Ha cx.P c (AQ cx N Q) a w) Q) σ→∀a w,SimE cx N σ a w→Ha cx.P c (AQ cx N Q) a w:=by
   intro σ hσ a w hs
   refine Ha.of (wp_mono (Dt hm c _ σ a w hc hσ hs) ?_)
   rintro e a' w' ⟨q,σ',rfl,hq,hs'⟩
   cases q with
   |normal=>
    obtain⟨σ1,h1,h2⟩:=hq
    exact h2 a' w' (Kr h1 hs')
   |exit id=>exact⟨.exit id,σ',rfl,hq,hs'⟩
   |ret=>exact⟨.ret,σ',rfl,hq,hs'⟩
  obtain⟨σ0,hw0,h0⟩:=h (fun σ=>∀a w,SimE cx N σ a w→Ha cx.P c (AQ cx N Q) a w) hL
  exact(h0 a w (Kr hw0 hs)).loop
end
end Go.Proofs.YtoncbhomocgmcaaGreatDoor.Ab
namespace Go.Proofs.YtoncbhomocgmcaaGreatDoor.Ab
set_option linter.unusedVariables false
set_option maxHeartbeats 1000000
open Go.RowKit
section
variable {cx:Cx} {γ:Gh} {w:World}
structure Handed' (cx:Cx) (γ:Gh) (w:World) (σ σ':St) (fp:List Nat):Prop where
 le:StLe σ σ'
 nd:fp.Nodup
 fr:∀g ∈ fp,Free cx γ σ'.T σ'.B g
 fm:∀g ∈ fp,∃t tk,γ.tl t∧σ.T t=some tk∧g ∈ γ.tf t
theorem Handed'.nil (σ:St):Handed' cx γ w σ σ [] :=⟨StLe.refl σ,List.nodup_nil,by simp,by simp⟩
theorem Handed'.append {σ σ' σ''} {f1 f2} (h:Handed' cx γ w σ σ' f1) (k:Handed' cx γ w σ' σ'' f2):Handed' cx γ w σ σ'' (f1++f2):=by
 refine⟨h.le.trans k.le,List.nodup_append.2 ⟨h.nd,k.nd,fun g hg g' hg' e=>?_⟩,fun g hg=>?_,fun g hg=>?_⟩
 ·subst e
  obtain⟨t,tk,h1,h2,h3⟩:=k.fm g hg'
  exact(h.fr g hg).t t tk h1 h2 h3
 ·rcases List.mem_append.1 hg with hg|hg
  ·exact Free.of_le k.le (h.fr g hg)
  ·exact k.fr g hg
 ·rcases List.mem_append.1 hg with hg|hg
  ·exact h.fm g hg
  ·obtain⟨t,tk,h1,h2,h3⟩:=k.fm g hg
   exact⟨t,tk,h1,h.le.T t tk h2,h3⟩
mutual
theorem Hb:∀ {v} {u} {r} {σ} {K},OSim cx γ σ.T σ.B w→VSim γ.vw γ v u→CD v r σ K→∃σ' fp,K σ'∧RSim w r u fp∧Handed' cx γ w σ σ' fp
 | .int k n,u,r,σ,K,hs,hv,h=>by
  cases r with
  |int k' m=>
   simp only [CD] at h
   obtain⟨rfl,rfl,h⟩:=h
   simp only [VSim] at hv
   exact⟨σ,[],h,by grind [RSim],.nil σ⟩
  |_=>simp [CD] at h
 | .bool b,u,r,σ,K,hs,hv,h=>by
  cases r with
  |bool b'=>
   simp only [CD] at h
   obtain⟨rfl,h⟩:=h
   simp only [VSim] at hv
   exact⟨σ,[],h,by grind [RSim],.nil σ⟩
  |_=>simp [CD] at h
 | .str s,u,r,σ,K,hs,hv,h=>by
  cases r with
  |str s'=>
   simp only [CD] at h
   obtain⟨rfl,h⟩:=h
   simp only [VSim] at hv
   exact⟨σ,[],h,by grind [RSim],.nil σ⟩
  |_=>simp [CD] at h
 | .nilp,u,r,σ,K,hs,hv,h=>by
  cases r with
  |nilp=>
   simp only [CD] at h
   simp only [VSim] at hv
   exact⟨σ,[],h,by grind [RSim],.nil σ⟩
  |_=>simp [CD] at h
 | .nils,u,r,σ,K,hs,hv,h=>by
  cases r with
  |ow ap rows=>
   simp only [CD] at h
   obtain⟨rfl,h⟩:=h
   simp only [VSim] at hv
   refine⟨σ,[],h,?_,.nil σ⟩
   grind [RSim,AX.nil]
  |_=>simp [CD] at h
 | .own t,u,r,σ,K,hs,hv,h=>by
  cases r with
  |ow ap rows=>
   simp only [CD] at h
   obtain⟨tk,hT,hr,hap,hz,h⟩:=h
   simp only [VSim] at hv
   obtain⟨⟨htl,-⟩,hu⟩:=hv
   refine⟨_,γ.tf t,h,?_,StLe.killT σ t,hs.tnd t tk htl hT,EI hs htl hT,fun g hg=>⟨t,tk,htl,hT,hg⟩⟩
   simp only [RSim]
   have hok:=hs.tok t tk htl hT
   rw [hu]
   obtain⟨r0,z0,k0,q0⟩:=tk
   simp only at hr hz hap
   subst hr hz
   rcases hap with rfl|rfl
   ·exact hok.own
   ·exact hok
  |_=>simp [CD] at h
 | .ro rows,u,r,σ,K,hs,hv,h=>by
  cases r with
  |ro rows'=>
   simp only [CD] at h
   obtain⟨rfl,h⟩:=h
   simp only [VSim] at hv
   exact⟨σ,[],h,by simp only [RSim]; exact⟨Rep.keep hs.vw.k _ _ hv,trivial⟩,.nil σ⟩
  |ow ap rows'=>
   simp only [CD] at h
   obtain⟨rfl,rfl,rfl,h⟩:=h
   simp only [VSim,Rep] at hv
   obtain⟨a,c,rfl,-,hc,-⟩:=hv
   refine⟨σ,[],h,?_,.nil σ⟩
   simp only [RSim]
   exact .inl ⟨rfl,⟨a,c,rfl,hc⟩,rfl⟩
  |_=>simp [CD] at h
 | .agg vs,u,r,σ,K,hs,hv,h=>by
  cases r with
  |agg rs=>
   simp only [CD] at h
   simp only [VSim] at hv
   obtain⟨us,rfl,hv⟩:=hv
   obtain⟨σ',fp,h1,h2,h3⟩:=Ia hs hv h
   exact⟨σ',fp,h1,by simp only [RSim]; exact⟨us,rfl,h2⟩,h3⟩
  |_=>simp [CD] at h
 | .tup vs,u,r,σ,K,hs,hv,h=>by
  cases r with
  |tup rs=>
   simp only [CD] at h
   simp only [VSim] at hv
   obtain⟨us,rfl,hv⟩:=hv
   obtain⟨σ',fp,h1,h2,h3⟩:=Ia hs hv h
   exact⟨σ',fp,h1,by simp only [RSim]; exact⟨us,rfl,h2⟩,h3⟩
  |_=>simp [CD] at h
 | .any,u,r,σ,K,hs,hv,h=>by grind [CD]
 | .box _ _,u,r,σ,K,hs,hv,h=>by grind [CD]
 | .bsl _ n _,u,r,σ,K,hs,hv,h=>by
  cases r with
  |ow ap rows=>
   simp only [CD] at h
   obtain⟨rfl,rfl,h⟩:=h
   simp only [VSim] at hv
   refine⟨σ,[],h,?_,.nil σ⟩
   grind [RSim,AX.nil]
  |_=>simp [CD] at h
 | .rop _ _,u,r,σ,K,hs,hv,h=>by grind [CD]
 | .elt _ _ _ _,u,r,σ,K,hs,hv,h=>by grind [CD]
 | .par _ _ _ _,u,r,σ,K,hs,hv,h=>by grind [CD]
 | .fn _ _,u,r,σ,K,hs,hv,h=>by grind [CD]
theorem Ia:∀ {vs} {us} {rs} {σ} {K},OSim cx γ σ.T σ.B w→AD γ.vw γ vs us→Gt vs rs σ K→∃σ' fp,K σ'∧KP w rs us fp∧Handed' cx γ w σ σ' fp
 | [],us,rs,σ,K,hs,hv,h=>by
  cases rs with
  |nil=>
   simp only [Gt] at h
   simp only [AD] at hv
   exact⟨σ,[],h,by grind [KP],.nil σ⟩
  |cons r rs=>grind [Gt]
 | v::vs,us,rs,σ,K,hs,hv,h=>by
  cases rs with
  |nil=>simp [Gt] at h
  |cons r rs=>
   simp only [Gt] at h
   simp only [AD] at hv
   obtain⟨u,us',rfl,h1,h2⟩:=hv
   obtain⟨σ',f1,k1,k2,k3⟩:=Hb hs h1 h
   obtain⟨σ'',f2,j1,j2,j3⟩:=Ia (k3.le.osim hs) h2 k1
   exact⟨σ'',f1++f2,j1,by simp only [KP]; exact⟨u,us',f1,f2,rfl,k2,j2,rfl⟩,k3.append j3⟩
end
theorem TK {w0} {P} {T B} {t} {av v} {u} (ha:VSim w0 γ av u) (h:Fs P T B t av v):∃a,u= .pointer (some a):=by
 unfold Fs at h
 grind [VSim]
def Po (tmps:Array Value):ResultVar→Sem Value
 | .tmp t=>pure (tmps.getD t undef)
 | .cell a t=>do loadVar t (← asAddr (tmps.getD a undef))
theorem Hc {σ:St} {a:Act} (hs:OSim cx γ σ.T σ.B w) (hsl:∀i,VSim γ.vw γ (σ.g i) (a.tmps.getD i undef)):∀ {l:List ResultVar} {K:List AV→Prop},JH cx.P σ l K→
  ∃us vs,(l.mapM (Po a.tmps)).run cx.P w= .ok us w∧AD γ.vw γ vs us∧K vs∧us.length=l.length
 | [],K,h=>⟨[],[],rfl,by rfl,h,rfl⟩
 | .tmp t::l,K,h=>by
  obtain⟨us,vs,h1,h2,h3,h4⟩:=Hc hs hsl (l:=l) h
  refine⟨a.tmps.getD t undef::us,σ.g t::vs,?_,by grind [AD],h3,by grind⟩
  rw [List.mapM_cons]
  simp [Po,h1]
 | .cell c t::l,K,h=>by
  obtain⟨v,hv,h⟩:=h
  obtain⟨us,vs,h1,h2,h3,h4⟩:=Hc hs hsl (l:=l) h
  obtain⟨u,hu,hvs⟩:=NS hs (hsl c) hv
  obtain⟨ad,had⟩:=TK (hsl c) hv
  refine⟨u::us,v::vs,?_,by grind [AD],h3,by grind⟩
  rw [had] at hu
  have hl:(loadVar t ad).run cx.P w= .ok u w:=by grind [Instr.loadAt,Instr.sureAddr]
  rw [List.mapM_cons]
  simp_all [Po,asAddr]
end
def N2:Nat→List AV→List (Nat × AV)
 |_,[] =>[]
 |i,a::as=>(i,a)::N2 (i+1) as
def st0 (args:List AV):St:=⟨N2 0 args,[],[]⟩
theorem Ib {w0} {γ}:∀ (args:List AV) (us:List Value) (i:Nat),AD w0 γ args us→∀ (tmps:Nat→Value),(∀j,j<us.length→tmps (i+j)=us.getD j undef)→∀x,VSim w0 γ ((look (N2 i args) x).getD .any) (tmps x)
 | [],us,i,h,tmps,ht,x=>by simp [N2,look,VSim]
 | a::as,us,i,h,tmps,ht,x=>by
  simp only [AD] at h
  obtain⟨u,us',rfl,h1,h2⟩:=h
  simp only [N2,AF]
  by_cases hx:x=i
  ·subst hx
   rw [if_pos rfl]
   have:=ht 0 (by simp)
   grind
  ·rw [if_neg hx]
   refine Ib as us' (i+1) h2 tmps (fun j hj=>?_) x
   have:=ht (j+1) (by grind)
   grind
theorem N3 (fn:Func) (tmps:Array Value):results fn tmps=(do let vs ← fn.results.mapM (Po tmps); pure (if h:vs.size=1 then vs[0] else .tuple vs)):=by
 rfl
def endQ (P:Program) (l:List ResultVar) (r:RV) (q:AE) (σ:St):Prop:=match q with| .exit _=>False|_=>aC P l r σ
theorem TL {P:Program} (hm:P.follows .mixedOrders =true) {f:FuncId} {fn:Func} {c:Code} {args:List AV} {r:RV} (hf:P.funcs[f]? =some fn) (hb:fn.body=some c) (hnm:(fn.name == "runtime.NumGoroutine")=false)
  (hn:args.length≤fn.ntmps) (hok:D2 fn.ntmps c=true)
  (h:awp P c (endQ P fn.results.toList r) (st0 args)):AC P f args r:=by
 refine⟨by grind [D4],fun w us hsh hlow hamb hv=>?_⟩
 let g0:Gh:= {Gh.none with vw:=w}
 let cx:Cx:=⟨P,w,w,[],fun _=>False,Keeps.refl w,by simp,by simp,hlow,hamb,g0,rfl,by simp [g0,Gh.none],by simp [g0,Gh.none]⟩
 refine calls_of_wp hf hb ?_
 have hlen:=hv.length
 have hs0:SimE cx fn.ntmps (st0 args) {tmps:=us.toArray++Array.replicate (fn.ntmps - us.toArray.size) undef,defers:=[]} w:=by
  refine⟨g0,⟨⟨hsh,rfl,rfl,rfl,Nat.le_refl _,fun _ _ _ _=>rfl,by grind⟩,by simp [g0,Gh.none],by simp [g0,Gh.none],by simp [g0,Gh.none],by simp [g0,Gh.none],by simp [g0,Gh.none],by simp [g0,Gh.none],by simp [g0,Gh.none],by simp [g0,Gh.none],by simp [g0,Gh.none],Gh.Ext.refl _,⟨Keeps.refl w,by simp [g0,Gh.none],by simp [g0,Gh.none],fun a u h=>.inl h⟩⟩,fun i=>?_,by simp [g0,Gh.none],by simp [g0,Gh.none],rfl,?_⟩
  ·refine Ib (w0:=w) (γ:=g0) args us 0 (AD.mono (Keeps.refl w) (Fv g0) hv) (fun i=>(us.toArray++Array.replicate (fn.ntmps - us.toArray.size) undef).getD i undef) (fun j hj=>?_) i
   simp_all [Array.getElem?_append]
  grind
 refine wp_mono (Dt (cx:=cx) hm c _ _ _ _ hok h hs0) ?_
 rintro e a' w' ⟨q,σ,rfl,hq,γ,hs⟩
 have key:aC P fn.results.toList r σ→a'.defers=[] ∧∃v,(results fn a'.tmps).run P w'= .ok v w'∧∃v' fp,Ending.returned v= .returned v'∧RSim w' r v' fp∧fp.Nodup∧(∀g ∈ fp,w.heap.size≤g)∧Below w.heap.size w w':=fun hr=>by
  refine⟨hs.df,?_⟩
  obtain⟨us',vs,h1,h2,h3,h4⟩:=Hc hs.os hs.sl hr
  have h1:Sem.run P (List.mapM (Po a'.tmps) fn.results.toList) w'= .ok us' w':=h1
  have hrun:(results fn a'.tmps).run P w'= .ok (if h:us'.toArray.size=1 then us'.toArray[0] else .tuple us'.toArray) w':=by
   rw [N3,Array.mapM_eq_mapM_toList]
   simp [h1]
  have hbel:Below w.heap.size w w':=⟨hs.os.frm.os,hs.os.frm.tape,hs.os.frm.output,hs.os.frm.size,fun k hk=>hs.os.frm.block k hk (fun h=>h) (by grind)⟩
  refine⟨_,hrun,?_⟩
  have fin:∀ {σ':St} {fp:List Nat},Handed' cx γ w' σ σ' fp→∀g ∈ fp,w.heap.size≤g:=fun hh g hg=>by
   rcases (hh.fr g hg).fr with h|h
   ·exact h
   grind
  match vs,h2,h3 with
  | [],h2,h3=>
   obtain⟨σ',fp,-,k1,k2⟩:=Hb hs.os (v:=.tup []) (u:=.tuple us'.toArray) (by grind [VSim]) h3
   have:=h2.length
   exact⟨_,fp,by rw [dif_neg (by grind)],k1,k2.nd,fin k2,hbel⟩
  | [v],h2,h3=>
   simp only [AD] at h2
   obtain⟨u,us'',rfl,hv2,rfl⟩:=h2
   obtain⟨σ',fp,-,k1,k2⟩:=Hb hs.os hv2 h3
   exact⟨u,fp,by simp,k1,k2.nd,fin k2,hbel⟩
  |v1::v2::vs,h2,h3=>
   obtain⟨σ',fp,-,k1,k2⟩:=Hb hs.os (v:=.tup (v1::v2::vs)) (u:=.tuple us'.toArray) (by grind [VSim]) h3
   have:=h2.length
   exact⟨_,fp,by rw [dif_neg (by grind)],k1,k2.nd,fin k2,hbel⟩
 cases q with
 |normal=>exact key hq
 |exit id=>exact hq.elim
 |ret=>exact key hq
end Go.Proofs.YtoncbhomocgmcaaGreatDoor.Ab
namespace Go.Proofs.YtoncbhomocgmcaaGreatDoor.Ab
set_option linter.unusedVariables false
open Go.RowKit
def Hv:List (Nat × Tok)→List (Nat × Option Tok)
 | [] =>[]
 |(t,tk)::r=>(t,some tk)::Hv r
def Hw:List (Nat × List AV)→List (Nat × Option (List AV))
 | [] =>[]
 |(b,vs)::r=>(b,some vs)::Hw r
theorem Jw:∀ (l:List (Nat × Tok)) (i:Nat),look (Hv l) i=(look l i).map some
 | [],i=>rfl
 |(t,tk)::r,i=>by
  rw [Hv,AF,AF]
  split
  ·rfl
  ·exact Jw r i
theorem Jx:∀ (l:List (Nat × List AV)) (i:Nat),look (Hw l) i=(look l i).map some
 | [],i=>rfl
 |(t,tk)::r,i=>by
  rw [Hw,AF,AF]
  split
  ·rfl
  ·exact Jx r i
def stG (args:List AV) (pt:List (Nat × Tok)) (pb:List (Nat × List AV)):St:=⟨N2 0 args,Hv pt,Hw pb⟩
def oneA:List AV→AV
 | [v] =>v
 |vs=>.tup vs
def RetG (P:Program) (l:List ResultVar) (r:AV) (qt:List (Nat × Tok)) (qb:List (Nat × List AV)) (σ:St):Prop:=
 JH P σ l fun vs=>Wk ⟨[(0,oneA vs)],σ.t,σ.b⟩ ⟨[(0,r)],Hv qt,Hw qb⟩
def endG (P:Program) (l:List ResultVar) (r:AV) (qt:List (Nat × Tok)) (qb:List (Nat × List AV)) (q:AE) (σ:St):Prop:=match q with
 | .exit _=>False
 |_=>RetG P l r qt qb σ
theorem Ru {α:Type} (o:Option α):(o.map some).join =o:=by cases o <;> rfl
theorem eH (s:List (Nat × AV)) (l:List (Nat × Tok)) (b:List (Nat × Option (List AV))):St.T ⟨s,Hv l,b⟩=look l:=by
 funext x
 show (look (Hv l) x).join =_
 rw [Jw,Ru]
theorem eI (s:List (Nat × AV)) (l:List (Nat × List AV)) (t:List (Nat × Option Tok)):St.B ⟨s,t,Hw l⟩=look l:=by
 funext x
 show (look (Hw l) x).join =_
 rw [Jx,Ru]
theorem TM {P:Program} (hm:P.follows .mixedOrders =true) {f:FuncId} {fn:Func} {c:Code} {args:List AV} {pt:List (Nat × Tok)} {pb:List (Nat × List AV)} {r:AV} {qt:List (Nat × Tok)} {qb:List (Nat × List AV)}
  (hf:P.funcs[f]? =some fn) (hb:fn.body=some c) (hnm:(fn.name == "runtime.NumGoroutine")=false)
  (hn:args.length≤fn.ntmps) (hok:D2 fn.ntmps c=true)
  (h:awp P c (endG P fn.results.toList r qt qb) (stG args pt pb)):AG P f args pt pb r qt qb:=by
 refine⟨by grind [D4],fun cx γ0 us hP hg0 hT hB hos hv=>?_⟩
 subst hP
 refine calls_of_wp hf hb ?_
 have hlen:=hv.length
 have hs0:SimE cx fn.ntmps (stG args pt pb) {tmps:=us.toArray++Array.replicate (fn.ntmps - us.toArray.size) undef,defers:=[]} cx.we:=by
  refine⟨γ0,⟨by grind [stG,eH,eI],fun i=>?_,fun t ht=>?_,fun b hb=>?_,rfl,?_⟩⟩
  ·refine Ib args us 0 hv (fun i=>(us.toArray++Array.replicate (fn.ntmps - us.toArray.size) undef).getD i undef) (fun j hj=>?_) i
   simp_all [Array.getElem?_append]
  ·show (look (Hv pt) t).isSome =true
   rw [Jw,Option.isSome_map]; grind
  ·show (look (Hw pb) b).isSome =true
   rw [Jx,Option.isSome_map]; grind
  grind
 refine wp_mono (Dt (cx:=cx) hm c _ _ _ _ hok h hs0) ?_
 rintro e a' w' ⟨q,σ,rfl,hq,γ,hs⟩
 have key:RetG cx.P fn.results.toList r qt qb σ→a'.defers=[] ∧∃v,(results fn a'.tmps).run cx.P w'= .ok v w'∧∃v' γ',Ending.returned v= .returned v'∧OSim cx γ' (look qt) (look qb) w'∧VSim γ'.vw γ' r v':=fun hr=>by
  refine⟨hs.df,?_⟩
  obtain⟨us',vs,h1,h2,h3,h4⟩:=Hc hs.os hs.sl hr
  have h1:Sem.run cx.P (List.mapM (Po a'.tmps) fn.results.toList) w'= .ok us' w':=h1
  have hrun:(results fn a'.tmps).run cx.P w'= .ok (if h:us'.toArray.size=1 then us'.toArray[0] else .tuple us'.toArray) w':=by
   rw [N3,Array.mapM_eq_mapM_toList]
   simp [h1]
  refine⟨_,hrun,?_⟩
  have hval:VSim γ.vw γ (oneA vs) (if h:us'.toArray.size=1 then us'.toArray[0] else .tuple us'.toArray):=by
   match vs,h2 with
   | [],h2=>
    have:=h2.length
    rw [dif_neg (by grind)]
    grind [oneA,VSim]
   | [v],h2=>
    grind [AD,oneA]
   |v1::v2::vs,h2=>
    have:=h2.length
    rw [dif_neg (by grind)]
    grind [oneA,VSim]
  generalize (if h:us'.toArray.size=1 then us'.toArray[0] else .tuple us'.toArray)=val at hval
  have hs1:SimE cx 1 ⟨[(0,oneA vs)],σ.t,σ.b⟩ {tmps:= #[val],defers:=[]} w':=by
   refine⟨γ,⟨hs.os,fun i=>?_,hs.td,hs.bd,rfl,rfl⟩⟩
   unfold St.g
   simp only [AF]
   split
   ·simp_all
   ·trivial
  obtain⟨γ',hs2⟩:=Kr h3 hs1
  refine⟨val,γ',rfl,?_,?_⟩
  ·have:=hs2.os
   rw [eH,eI] at this
   omega
  ·have:=hs2.sl 0
   exact this
 cases q with
 |normal=>exact key hq
 |exit id=>exact hq.elim
 |ret=>exact key hq
end Go.Proofs.YtoncbhomocgmcaaGreatDoor.Ab
