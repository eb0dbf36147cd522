/-
  The abstract walk, thirteenth part: operations one after another.
-/
import Derived.Test.YtgigfdghecdlgaaAbLa
import Derived.Tactics
namespace Go.Proofs.Ytgigfdghecdlgaa.Ab
set_option linter.unusedVariables false
set_option linter.unusedSimpArgs false
open Go.RowKit
mutual
def Fb:Value→Bool
 | .int k n=>(Lit.int k n).wf
 | .string s=>decide (s.size≤maxLen)
 | .agg cs=>G5 cs.toList
 |_=>true
def G5:List Value→Bool
 | [] =>true
 |v::vs=>Fb v&&G5 vs
end
mutual
theorem HT {w0} {γ}:∀ (v:Value),Fb v=true→VSim w0 γ (Aa v) v
 | .int k n,h=>by simp only [Fb] at h; simp only [Aa]; exact Ba h
 | .bool b,h=>by simp only [Aa]; exact Bf
 | .string s,h=>by simp only [Fb,decide_eq_true_eq] at h; simp only [Aa]; exact MI h
 | .agg cs,h=>by
  simp only [Fb] at h
  simp only [Aa,VSim]
  exact⟨cs.toList,by simp,GY cs.toList h⟩
 | .slice none 0 0,h=>by simp only [Aa,VSim]
 | .slice none 0 (c+1),h=>by simp only [Aa]; trivial
 | .slice none (n+1) c,h=>by simp only [Aa]; trivial
 | .slice (some a) n c,h=>by simp only [Aa]; trivial
 | .pointer none,h=>by simp only [Aa,VSim]
 | .pointer (some a),h=>by simp only [Aa]; trivial
 | .float _ _,h=>by simp only [Aa]; trivial
 | .complex _ _ _,h=>by simp only [Aa]; trivial
 | .map _,h=>by simp only [Aa]; trivial
 | .chan _,h=>by simp only [Aa]; trivial
 | .func _ _ _,h=>by simp only [Aa]; trivial
 | .nilFunc,h=>by simp only [Aa]; trivial
 | .iface _ _,h=>by simp only [Aa]; trivial
 | .nilIface,h=>by simp only [Aa]; trivial
 | .tuple _,h=>by simp only [Aa]; trivial
theorem GY {w0} {γ}:∀ (vs:List Value),G5 vs=true→AB w0 γ (Dc vs) vs
 | [],h=>by simp [Dc,AB]
 |v::vs,h=>by
  simp only [G5,Bool.and_eq_true] at h
  simp only [Dc,AB]
  exact⟨v,vs,rfl,HT v h.1,GY vs h.2⟩
end
def Cm (N:Nat) (o:Oper):Bool:=(o.op.operands.toList.all fun| .const v=>Fb v|_=>true)&&(match o.dst with|some d=>decide (d<N)|none=>true)
structure Sim (cx:Cx) (N:Nat) (γ:Gh) (σ:St) (a:Act) (w:World):Prop where
 os:OSim cx γ σ.T σ.B w
 sl:∀i,VSim γ.vw γ (σ.g i) (a.tmps.getD i undef)
 td:∀t,γ.tl t→(look σ.t t).isSome =true
 bd:∀b,γ.bl b→(look σ.b b).isSome =true
 df:a.defers=[]
 n:a.tmps.size=N
def SimE (cx:Cx) (N:Nat) (σ:St) (a:Act) (w:World):Prop:=∃γ,Sim cx N γ σ a w
theorem St.g_put (σ:St) (dst:Option Tmp) (v:AV) (i:Nat):(σ.put dst v).g i=if dst=some i then v else σ.g i:=by
 unfold St.g St.put
 cases dst with
 |none=>simp
 |some d=>
  simp only [AI,Option.some.injEq]
  by_cases h:i=d
  ·subst h; simp
  ·rw [if_neg h,if_neg (fun e=>h e.symm)]
theorem MQ (a:Act) (dst:Option Tmp) (v:Value) (i:Nat) (h:∀d,dst=some d→d<a.tmps.size):(a.put dst v).tmps.getD i undef=if dst=some i then v else a.tmps.getD i undef:=by
 cases dst with
 |none=>simp [Act.put]
 |some d=>
  have hd:=h d rfl
  simp only [Act.put,Option.some.injEq]
  by_cases e:d=i
  ·subst e; simp [hd]
  ·simp [e,Array.getElem?_setIfInBounds_ne e]
section
variable {cx:Cx} {N:Nat} {w:World} {P:Program}
theorem CX {o} (h:Cm N o=true):∀d,o.dst=some d→d<N:=fun d hd=>by
 unfold Cm at h
 rw [Bool.and_eq_true,hd] at h
 simpa using h.2
theorem Fc {γ γ':Gh} {s:Nat→AV} {a:Act} (he:Gh.Ext γ γ') (hn:a.tmps.size=N) (hs:∀i,VSim γ.vw γ (s i) (a.tmps.getD i undef)) {dst:Option Tmp} (hd:∀d,dst=some d→d<N) {av:AV} {v:Value} (hv:VSim γ'.vw γ' av v):
  ∀i,VSim γ'.vw γ' (if dst=some i then av else s i) ((a.put dst v).tmps.getD i undef):=fun i=>by
 rw [MQ a dst v i (by rw [hn]; exact hd)]
 split
 ·exact hv
 ·exact VSim.mono he.vw he (hs i)
theorem Fd (a:Act) (dst:Option Tmp) (v:Value):(a.put dst v).tmps.size =a.tmps.size:=by cases dst <;> simp [Act.put]
theorem D2 (a:Act) (dst:Option Tmp) (v:Value):(a.put dst v).defers =a.defers:=by cases dst <;> rfl
theorem A0 {γ:Gh} {s:Nat→AV} {e:Operand→AV} {a:Act} {o:Oper} (hok:Cm N o=true) (he:∀x ∈ o.op.operands,e x=match x with| .tmp t=>s t| .const v=>Aa v| .func f=>.fn f [] | .global _=>.any)
  (hs:∀t,.tmp t ∈ o.op.operands→VSim γ.vw γ (s t) (a.tmps.getD t undef)):∀x ∈ o.op.operands,VSim γ.vw γ (e x) (a.eval x):=fun x hx=>by
 rw [he x hx]
 unfold Cm at hok
 rw [Bool.and_eq_true] at hok
 have h1:=hok.1
 rw [List.all_eq_true] at h1
 have h2:=h1 x (Array.mem_toList_iff.2 hx)
 cases x with
 |tmp t=>exact hs t hx
 |const v=>exact HT v h2
 |global g=>trivial
 |func f=>simp only [VSim]; exact⟨[],rfl,by simp [AB]⟩
theorem St.e_eq (σ:St) (x:Operand):σ.e x=match x with| .tmp t=>σ.g t| .const v=>Aa v| .func f=>.fn f [] | .global _=>.any :=by cases x <;> rfl
theorem Ls:∀ (l:List (Nat × Tok)) (σ:List (Nat × Option Tok)) (x:Nat),(look σ x).isSome =true∨(∃y ∈ l,y.1 =x)→(look (addT σ l) x).isSome =true
 | [],σ,x,h=>by
  rcases h with h|⟨y,hy,-⟩
  ·exact h
  ·cases hy
 | (n,tk)::l,σ,x,h=>by
  simp only [addT,AI]
  split
  ·rfl
  ·rename_i hne
   refine Ls l σ x ?_
   rcases h with h|⟨y,hy,hyx⟩
   ·exact .inl h
   ·rcases List.mem_cons.1 hy with rfl|hy
    ·exact absurd hyx.symm hne
    ·exact .inr ⟨y,hy,hyx⟩
theorem Lt:∀ (l:List (Nat × List AV)) (σ:List (Nat × Option (List AV))) (x:Nat),(look σ x).isSome =true∨(∃y ∈ l,y.1 =x)→(look (addB σ l) x).isSome =true
 | [],σ,x,h=>by
  rcases h with h|⟨y,hy,-⟩
  ·exact h
  ·cases hy
 | (n,tk)::l,σ,x,h=>by
  simp only [addB,AI]
  split
  ·rfl
  ·rename_i hne
   refine Lt l σ x ?_
   rcases h with h|⟨y,hy,hyx⟩
   ·exact .inl h
   ·rcases List.mem_cons.1 hy with rfl|hy
    ·exact absurd hyx.symm hne
    ·exact .inr ⟨y,hy,hyx⟩
theorem ID:∀ (l:List (Nat × Tok)) (σ:List (Nat × Option Tok)) (x:Nat),(∀y ∈ l,y.1 ≠x)→look (addT σ l) x=look σ x
 | [],_,_,_=>rfl
 |(n,tk)::l,σ,x,h=>by
  simp only [addT,AI]
  rw [if_neg (fun e=>h (n,tk) (by simp) e.symm),ID l σ x fun y hy=>h y (by simp [hy])]
theorem IE:∀ (l:List (Nat × List AV)) (σ:List (Nat × Option (List AV))) (x:Nat),(∀y ∈ l,y.1 ≠x)→look (addB σ l) x=look σ x
 | [],_,_,_=>rfl
 |(n,tk)::l,σ,x,h=>by
  simp only [addB,AI]
  rw [if_neg (fun e=>h (n,tk) (by simp) e.symm),IE l σ x fun y hy=>h y (by simp [hy])]
theorem GZ:∀ (l:List (Nat × Tok)) (σ:List (Nat × Option Tok)),(l.map (·.1)).Nodup →∀y ∈ l,look (addT σ l) y.1 =some (some y.2)
 | [],_,_,y,hy=>by cases hy
 | (n,tk)::l,σ,hn,y,hy=>by
  simp only [List.map_cons,List.nodup_cons] at hn
  simp only [addT,AI]
  rcases List.mem_cons.1 hy with rfl|hy
  ·rw [if_pos rfl]
  ·rw [if_neg (fun e:y.1 =n=>hn.1 (by rw [← e]; exact List.mem_map.2 ⟨y,hy,rfl⟩))]
   exact GZ l σ hn.2 y hy
theorem Ga:∀ (l:List (Nat × List AV)) (σ:List (Nat × Option (List AV))),(l.map (·.1)).Nodup →∀y ∈ l,look (addB σ l) y.1 =some (some y.2)
 | [],_,_,y,hy=>by cases hy
 | (n,tk)::l,σ,hn,y,hy=>by
  simp only [List.map_cons,List.nodup_cons] at hn
  simp only [addB,AI]
  rcases List.mem_cons.1 hy with rfl|hy
  ·rw [if_pos rfl]
  ·rw [if_neg (fun e:y.1 =n=>hn.1 (by rw [← e]; exact List.mem_map.2 ⟨y,hy,rfl⟩))]
   exact Ga l σ hn.2 y hy
theorem Cp {σ}:∀ {l},BZ σ l→∀y ∈ l,look σ.t y.1 =none
 | [],_,y,hy=>by cases hy
 |(n,tk)::l,h,y,hy=>by
  simp only [BZ] at h
  rcases List.mem_cons.1 hy with rfl|hy
  ·exact h.1
  ·exact Cp h.2 y hy
theorem CS {σ}:∀ {l},CM σ l→∀y ∈ l,look σ.b y.1 =none
 | [],_,y,hy=>by cases hy
 |(n,tk)::l,h,y,hy=>by
  simp only [CM] at h
  rcases List.mem_cons.1 hy with rfl|hy
  ·exact h.1
  ·exact CS h.2 y hy
def Le {α:Type} (T T':Nat→Option α):Prop:=∀x y,T x=some y→T' x=some y
theorem G6 {T T'} (h:Le T T') {t g} {p} {r} (hs:subR T t g p=some r):subR T' t g p=some r:=by
 unfold subR at hs ⊢
 cases hT:T t with
 |none=>rw [hT] at hs; cases hs
 |some tk=>rw [h t tk hT]; rw [hT] at hs; exact hs
theorem Rq {T T'} (h:Le T T') {a} {d} (hd:toD T a=some d):toD T' a=some d:=by
 cases a with
 |own t=>
  simp only [toD] at hd ⊢
  cases hT:T t with
  |none=>simp [hT] at hd
  |some tk=>rw [h t tk hT]; simpa [hT] using hd
 |_=>first|exact hd|(simp [toD] at hd)
theorem Iq {T T'} (h:Le T T'):∀ {as} {ds},toDs T as=some ds→toDs T' as=some ds
 | [],ds,hd=>by simpa [toDs] using hd
 | a::as,ds,hd=>by
  simp only [toDs] at hd ⊢
  cases ha:toD T a with
  |none=>simp [ha] at hd
  | some d=>
   cases has:toDs T as with
   |none=>simp [ha,has] at hd
   |some ds'=>
    rw [Rq h ha,Iq h has]
    simpa [ha,has] using hd
theorem Lu {T T'} (h:Le T T') {t g} {p} {r} (hx:subE T t g p=some r):subE T' t g p=some r:=by
 unfold subE at hx ⊢
 cases hT:T t with
 |none=>rw [hT] at hx; cases hx
 |some tk=>rw [h t tk hT]; rw [hT] at hx; exact hx
theorem Rr {T T'} {B B'} (h:Le T T') (hb:Le B B') {a} {d} (hd:toA T B a=some d):toA T' B' a=some d:=by
 cases a with
 |own t=>
  simp only [toA] at hd ⊢
  cases hT:T t with
  |none=>simp [hT] at hd
  |some tk=>rw [h t tk hT]; simpa [hT] using hd
 |sub t g p=>
  simp only [toA] at hd ⊢
  cases hT:subE T t g p with
  |none=>simp [hT] at hd
  |some r=>rw [Lu h hT]; simpa [hT] using hd
 | bsl b n sz=>
  simp only [toA] at hd ⊢
  cases hB:B b with
  |none=>simp [hB] at hd
  |some vs=>
   cases hd':toDs T vs with
   |none=>simp [hB,hd'] at hd
   |some ds=>rw [hb b vs hB]; simp only [Iq h hd']; simpa [hB,hd'] using hd
 |_=>first|exact hd|(simp [toA] at hd)
theorem Lv {T T'} {B B'} (h:Le T T') (hb:Le B B'):∀ {as} {ds},toAs T B as=some ds→toAs T' B' as=some ds
 | [],ds,hd=>by simpa [toAs] using hd
 | a::as,ds,hd=>by
  simp only [toAs] at hd ⊢
  cases ha:toA T B a with
  |none=>simp [ha] at hd
  | some d=>
   cases has:toAs T B as with
   |none=>simp [ha,has] at hd
   |some ds'=>
    rw [Rr h hb ha,Lv h hb has]
    simpa [ha,has] using hd
mutual
theorem Pr {T T'} {B B'} (h:Le T T') (hb:Le B B'):∀ {a x},cl T B a=some x→cl T' B' a=some x
 | .int _ _,x,hx=>by simpa [cl] using hx
 | .bool _,x,hx=>by simpa [cl] using hx
 | .str _,x,hx=>by simpa [cl] using hx
 | .ro _,x,hx=>by simpa [cl] using hx
 | .nils,x,hx=>by simpa [cl] using hx
 | .nilp,x,hx=>by simpa [cl] using hx
 | .rop vs off,x,hx=>by
  simp only [cl] at hx ⊢
  cases hc:cls T B vs with
  |none=>simp [hc] at hx
  |some xs=>rw [Gb h hb hc]; simpa [hc] using hx
 | .own t,x,hx=>by
  simp only [cl] at hx ⊢
  cases hT:T t with
  |none=>simp [hT] at hx
  |some tk=>rw [h t tk hT]; simpa [hT] using hx
 | .box b off,x,hx=>by
  simp only [cl] at hx ⊢
  cases hB:B b with
  |none=>simp [hB] at hx
  |some vs=>
   cases hd:toAs T B vs with
   |none=>simp [hB,hd] at hx
   |some ds=>rw [hb b vs hB]; simp only [Lv h hb hd]; simpa [hB,hd] using hx
 | .bsl b n sz,x,hx=>by
  simp only [cl] at hx ⊢
  cases hB:B b with
  |none=>simp [hB] at hx
  |some vs=>
   cases hd:toDs T vs with
   |none=>simp [hB,hd] at hx
   |some ds=>rw [hb b vs hB]; simp only [Iq h hd]; simpa [hB,hd] using hx
 | .elt t sz i off,x,hx=>by
  simp only [cl] at hx ⊢
  cases hT:T t with
  |none=>simp [hT] at hx
  |some tk=>rw [h t tk hT]; simpa [hT] using hx
 | .agg vs,x,hx=>by
  simp only [cl] at hx ⊢
  cases hc:cls T B vs with
  |none=>simp [hc] at hx
  |some xs=>rw [Gb h hb hc]; simpa [hc] using hx
 | .fn f vs,x,hx=>by
  simp only [cl] at hx ⊢
  cases hc:cls T B vs with
  |none=>simp [hc] at hx
  |some xs=>rw [Gb h hb hc]; simpa [hc] using hx
 | .par t sz i n,x,hx=>by
  simp only [cl] at hx ⊢
  cases hT:T t with
  |none=>simp [hT] at hx
  |some tk=>rw [h t tk hT]; simpa [hT] using hx
 | .sub t g p,x,hx=>by
  simp only [cl] at hx ⊢
  cases hT:subE T t g p with
  |none=>simp [hT] at hx
  |some r=>rw [Lu h hT]; simpa [hT] using hx
 | .els t g p sz i off,x,hx=>by
  simp only [cl] at hx ⊢
  cases hT:subR T t g p with
  |none=>simp [hT] at hx
  |some r=>rw [G6 h hT]; simpa [hT] using hx
 | .mpr _,x,hx=>by simpa [cl] using hx
 | .mpc _ _,x,hx=>by simpa [cl] using hx
 | .tup _,x,hx=>by simp [cl] at hx
 | .any,x,hx=>by simp [cl] at hx
theorem Gb {T T'} {B B'} (h:Le T T') (hb:Le B B'):∀ {as xs},cls T B as=some xs→cls T' B' as=some xs
 | [],xs,hx=>by simpa [cls] using hx
 | a::as,xs,hx=>by
  simp only [cls] at hx ⊢
  cases ha:cl T B a with
  |none=>simp [ha] at hx
  |some y=>
   cases has:cls T B as with
   |none=>simp [ha,has] at hx
   |some ys=>rw [Pr h hb ha,Gb h hb has]; simpa [ha,has] using hx
end
theorem Om {T T'} {B B'} (h:Le T T') (hb:Le B B') {t} {a v} (hl:Ej P T B t a v):Ej P T' B' t a v:=by
 unfold Ej at*
 split at hl
 ·obtain⟨vs,h1,h2⟩:=hl; exact⟨vs,hb _ _ h1,h2⟩
 ·exact hl
 ·obtain⟨tk,row,h1,h2⟩:=hl; exact⟨tk,row,h _ _ h1,h2⟩
 ·obtain⟨rows,row,h1,h2⟩:=hl; exact⟨rows,row,G6 h h1,h2⟩
 ·exact hl
theorem Qf {T T'} (h:Le T T') {t} {x i v} (hl:Jp P T t x i v):Jp P T' t x i v:=by
 unfold Jp at*
 split at hl
 ·exact hl
 ·obtain⟨h0,tk,row,h1,h2⟩:=hl; exact⟨h0,tk,row,h _ _ h1,h2⟩
 ·obtain⟨h0,rows,row,h1,h2⟩:=hl; exact⟨h0,rows,row,G6 h h1,h2⟩
 ·exact hl
theorem Qg {T T'} {B B'} (h:Le T T') (hb:Le B B') {t} {x v} (hl:He P T B t x v):He P T' B' t x v:=by
 unfold He at*
 split at hl
 ·exact hl
 ·exact hl
 ·exact hl
 ·exact hl
 ·obtain⟨tk,h1,h2⟩:=hl; exact⟨tk,h _ _ h1,h2⟩
 ·obtain⟨rows,h1,h2⟩:=hl; exact⟨rows,G6 h h1,h2⟩
 ·obtain⟨q,rows,h1,h2⟩:=hl; exact⟨q,rows,hb _ _ h1,h2⟩
 ·exact hl
theorem On {B B'} (hb:Le B B') {t} {x i v} {ok} (hl:JB P B t x i ok v):JB P B' t x i ok v:=by
 unfold JB at*
 split at hl
 ·obtain⟨q,rows,h1,h2⟩:=hl; exact⟨q,rows,hb _ _ h1,h2⟩
 ·exact hl
theorem Oo {T T'} {B B'} (h:Le T T') (hb:Le B B') {pos} {g} {args} {r} (hl:Jr P T B pos g args r):Jr P T' B' pos g args r:=by
 unfold Jr at*
 split at hl
 ·rcases hl with hl|hl
  ·split at hl
   ·rename_i as hc
    refine .inl ?_
    simp only [Gb h hb hc]; exact hl
   ·exact hl.elim
  ·exact .inr hl
 ·exact hl
theorem Qh {T T'} (h:Le T T') {t} {x v} {l h'} (hl:K4 P T t x l h' v):K4 P T' t x l h' v:=by
 unfold K4 at*
 split at hl
 ·obtain⟨tk,h1,h2⟩:=hl; exact⟨tk,h _ _ h1,h2⟩
 ·exact hl
theorem Ps {T T'} {B B'} (h:Le T T') (hb:Le B B') {pos} {o} {e} {r} (hl:Ev P pos o e T B r):Ev P pos o e T' B' r:=by
 obtain⟨dst,op,ty,ps,after,guard⟩:=o
 unfold Ev at*
 dsimp only at*
 split at hl <;> try exact hl
 ·obtain⟨v,h1,h2⟩:=hl; exact⟨v,Om h hb h1,h2⟩
 ·split at hl
  ·exact hl
  ·obtain⟨el,ns,h1,h2,h3,h4,h5⟩:=hl; exact⟨el,ns,h1,h2,h3,Pr h hb h4,h5⟩
  ·exact hl.elim
 ·obtain⟨v,h1,h2⟩:=hl; exact⟨v,Qf h h1,h2⟩
 ·obtain⟨v,h1,h2⟩:=hl; exact⟨v,h1.imp_right (Qh h),h2⟩
 ·split at hl
  ·obtain⟨v,h1,rfl⟩:=hl; exact⟨v,Qg h hb h1,rfl⟩
  ·exact hl.elim
 ·exact Oo h hb hl
 ·obtain⟨v,h1,h2⟩:=hl; exact⟨v,On hb h1,h2⟩
end
section
variable {cx:Cx} {N:Nat}
mutual
theorem NV:∀ (n:Nat) (r:RV),((conv n r).2.map (·.1))=List.range' n (conv n r).2.length
 |n,.int _ _=>rfl
 |n,.bool _=>rfl
 |n,.str _=>rfl
 |n,.ow _ _=>rfl
 |n,.ro _=>rfl
 |n,.nilp =>rfl
 |n,.agg vs=>by simp only [conv]; exact Ir n vs
 |n,.tup vs=>by simp only [conv]; exact Ir n vs
theorem Ir:∀ (n:Nat) (rs:List RV),((CL n rs).2.map (·.1))=List.range' n (CL n rs).2.length
 |n,[] =>rfl
 |n,r::rs=>by
  simp only [CL,List.map_append,List.length_append,NV n r,Ir (n+(conv n r).2.length) rs]
  rw [List.range'_append_1]
end
theorem Is {P} {pos} {o} {e} {T} {B} {r} (h:Ev P pos o e T B r):(r.t.map (·.1)).Nodup ∧(r.b.map (·.1)).Nodup :=by
 have nil:(([] :List (Nat × Tok)).map (·.1)).Nodup ∧(([] :List (Nat × List AV)).map (·.1)).Nodup :=⟨List.nodup_nil,List.nodup_nil⟩
 have one:∀ (b:Nat) (vs:List AV),(([] :List (Nat × Tok)).map (·.1)).Nodup ∧([(b,vs)].map (·.1)).Nodup :=fun b vs=>⟨List.nodup_nil,by simp⟩
 obtain⟨dst,op,ty,ps,after,guard⟩:=o
 unfold Ev at h
 dsimp only at h
 split at h
 ·subst h; exact nil
 ·subst h; exact nil
 ·obtain⟨_,_,rfl⟩:=h; exact nil
 ·split at h
  ·subst h; exact one _ _
  ·exact h.elim
 ·obtain⟨_,_,rfl⟩:=h; exact nil
 ·split at h
  ·subst h; exact nil
  ·subst h; exact nil
  ·subst h; exact nil
  ·subst h; exact nil
  ·exact h.elim
 ·obtain⟨_,_,rfl⟩:=h; exact nil
 ·obtain⟨_,_,rfl⟩:=h; exact nil
 ·split at h
  ·obtain⟨_,rfl⟩:=h; exact nil
  ·obtain⟨_,_,_,_,_,_,rfl⟩:=h; exact nil
  ·exact h.elim
 ·split at h
  ·obtain⟨_,_,_,rfl⟩:=h; exact nil
  ·obtain⟨_,_,_,rfl⟩:=h; exact nil
  ·obtain⟨_,_,_,rfl⟩:=h; exact nil
  ·obtain⟨_,_,_,rfl⟩:=h; exact nil
  ·exact h.elim
 ·split at h
  ·obtain⟨_,_,h⟩:=h
   split at h
   ·obtain⟨_,rfl⟩:=h; exact nil
   ·obtain⟨_,_,_,rfl⟩:=h; exact nil
  ·exact h.elim
 ·obtain⟨_,_,rfl⟩:=h; exact nil
 ·obtain⟨_,_,rfl⟩:=h; exact nil
 ·obtain⟨_,_,rfl⟩:=h; exact nil
 ·split at h
  ·obtain⟨_,_,rfl⟩:=h; exact nil
  ·exact h.elim
 ·obtain⟨_,rfl⟩:=h; exact nil
 ·split at h
  ·obtain⟨_,_,rfl⟩:=h; exact nil
  ·exact h.elim
 ·split at h
  ·split at h
   ·obtain⟨_,rfl⟩:=h; exact nil
   ·exact h.elim
  ·exact h.elim
 ·split at h
  ·split at h
   ·obtain⟨_,rfl⟩:=h; exact nil
   ·exact h.elim
  ·exact h.elim
 ·unfold Jr at h
  split at h
  ·rcases h with h|h
   ·split at h
    ·obtain⟨rv,_,rfl⟩:=h
     refine⟨?_,List.nodup_nil⟩
     rw [NV]
     exact List.nodup_range'
    ·exact h.elim
   ·obtain⟨_,_,_,_,_,_,h⟩:=h
    rcases h with ⟨_,_,rfl⟩|⟨_,_,_,_,_,rfl⟩|⟨-,rfl⟩
    ·exact nil
    ·exact⟨by simp,List.nodup_nil⟩
    ·exact nil
  ·exact h.elim
 ·split at h
  ·obtain⟨_,_,h⟩:=h
   split at h
   ·obtain⟨_,z,h⟩:=h
    cases z
    ·obtain⟨_,_,rfl⟩:=h; exact⟨by simp,List.nodup_nil⟩
    ·obtain⟨_,_,rfl⟩:=h; exact⟨by simp,List.nodup_nil⟩
   ·exact h.elim
  ·exact h.elim
 ·split at h
  ·obtain⟨_,_,_,_,h⟩:=h
   split at h
   ·subst h; exact one _ _
   ·exact h.elim
  ·exact h.elim
 ·obtain⟨_,_,_,rfl⟩:=h; exact one _ _
 ·split at h
  ·obtain⟨_,_,_,_,rfl⟩:=h; exact nil
  ·obtain⟨_,_,_,_,_,rfl⟩:=h; exact nil
  ·exact h.elim
 ·split at h
  ·obtain⟨_,_,_,_,_,_,_,_,rfl⟩:=h; exact⟨by simp,List.nodup_nil⟩
  ·exact h.elim
 ·obtain⟨_,_,rfl⟩:=h; exact one _ _
 ·obtain⟨_,_,rfl⟩:=h; exact nil
 ·exact h.elim
theorem Sim.add {γ γ':Gh} {σ:St} {a:Act} {w w':World} {dst:Option Tmp} {r:Res} {v:Value} (hs:Sim cx N γ σ a w) (hd:∀d,dst=some d→d<N) (hf:BZ σ r.t) (hfb:CM σ r.b)
  (he:Gh.Ext γ γ') (ht:∀t,γ'.tl t→γ.tl t∨∃x ∈ r.t,x.1 =t) (hb:∀b,γ'.bl b→γ.bl b∨∃x ∈ r.b,x.1 =b) (hos:OSim cx γ' (σ.add dst r).T (σ.add dst r).B w') (hv:VSim γ'.vw γ' r.v v):Sim cx N γ' (σ.add dst r) (a.put dst v) w':=by
 have hg:∀i,(σ.add dst r).g i=if dst=some i then r.v else σ.g i:=fun i=>by
  have:(σ.add dst r).g i=(σ.put dst r.v).g i:=rfl
  rw [this,St.g_put]
 refine⟨hos,fun i=>by rw [hg]; exact Fc he hs.n hs.sl hd hv i,fun t h=>?_,fun b h=>?_,by rw [D2]; exact hs.df,by rw [Fd]; exact hs.n⟩
 ·refine Ls r.t σ.t t ?_
  rcases ht t h with h|h
  ·exact .inl (hs.td t h)
  ·exact .inr h
 ·refine Lt r.b σ.b b ?_
  rcases hb b h with h|h
  ·exact .inl (hs.bd b h)
  ·exact .inr h
theorem Rs {σ} {dst} {r} (hf:BZ σ r.t):Le σ.T (σ.add dst r).T :=fun x y h=>by
 show (look (addT σ.t r.t) x).join =some y
 rw [ID]
 ·exact h
 ·intro z hz e
  have:=Cp hf z hz
  rw [e] at this
  unfold St.T at h
  rw [this] at h; cases h
theorem Rt {σ} {dst} {r} (hf:CM σ r.b):Le σ.B (σ.add dst r).B :=fun x y h=>by
 show (look (addB σ.b r.b) x).join =some y
 rw [IE]
 ·exact h
 ·intro z hz e
  have:=CS hf z hz
  rw [e] at this
  unfold St.B at h
  rw [this] at h; cases h
theorem NW {γ} {T} {B} {w} (hs:OSim cx γ T B w) {t e} {ox oy} {v} {u} (he:ti cx.P t= .sl e) (hv:VSim γ.vw γ v u) (hn:Ft v=true):
  ∃b,QI T v b∧(∀op,(eqGuard op t ox oy u (.slice none 0 0)).run cx.P w= .ok () w)∧(binOp .eql t u (.slice none 0 0)).run cx.P w= .ok (.bool b) w∧(binOp .neq t u (.slice none 0 0)).run cx.P w= .ok (.bool !b) w:=by
 have hu:=ED he
 have key:∀ (a:Option Addr) (n c:Nat),u= .slice a n c→(∀op,(eqGuard op t ox oy u (.slice none 0 0)).run cx.P w= .ok () w)∧(binOp .eql t u (.slice none 0 0)).run cx.P w= .ok (.bool a.isNone) w∧(binOp .neq t u (.slice none 0 0)).run cx.P w= .ok (.bool !a.isNone) w:=by
  rintro a n c rfl
  have h1:(Op.equal t (.slice a n c) (.slice none 0 0)).run cx.P w= .ok a.isNone w:=by
   show (Op.equalIn (9999+1) t _ _).run cx.P w=_
   rw [Op.equalIn]
   cases a <;> simp [run_underlying hu]
  refine⟨fun op=>by cases op <;> simp [eqGuard],by simp [binOp,h1],by simp [binOp,h1]⟩
 cases v with
 |nils=>
  simp only [VSim] at hv
  exact⟨true,rfl,key none 0 0 hv⟩
 |bsl b n sz=>
  simp only [VSim] at hv
  exact⟨false,rfl,key _ _ _ hv.2.2⟩
 |ro rows=>
  simp only [VSim,Rep] at hv
  obtain⟨a,c,rfl,-,-,hr⟩:=hv
  refine⟨a.isNone,fun hne=>?_,key a _ c rfl⟩
  rcases hr with hr|hr
  ·exact absurd hr hne
  ·obtain⟨_,_,_,rfl,-⟩:=hr; rfl
 |_=>simp [Ft] at hn
theorem KP {γ:Gh} {σ:St} {a:Act} {w:World} {pos:Nat} {o:Oper} {K:St→Prop} {next:Act→World→Prop} {Q:Exit→Act→World→Prop} (hs:Sim cx N γ σ a w) (hok:Cm N o=true) (h:∃r,Ev cx.P pos o σ.e σ.T σ.B r∧BZ σ r.t∧CM σ r.b∧K (σ.add o.dst r))
  (hk:∀σ' a' w',K σ'→SimE cx N σ' a' w'→next a' w'):o.wp cx.P a w next Q:=by
 have hd:=CX hok
 have hop:=A0 (γ:=γ) (s:=σ.g) (e:=σ.e) (a:=a) hok (fun x _=>St.e_eq σ x) (fun t _=>hs.sl t)
 obtain⟨r,hev,hft,hfb,hK⟩:=h
 have hids:=Is hev
 have hev':=Ps (Rs (dst:=o.dst) hft) (Rt (dst:=o.dst) hfb) hev
 have hos:OSim cx γ (σ.add o.dst r).T (σ.add o.dst r).B w:=by
  refine hs.os.tables (fun t tk h1 h2=>?_) fun b vs h1 h2=>?_
  ·have h3:=hs.td t h1
   have h4:(look (addT σ.t r.t) t).join =some tk:=h2
   rw [ID] at h4
   ·exact h4
   ·intro z hz e
    have:=Cp hft z hz
    rw [e] at this
    rw [this] at h3; cases h3
  ·have h3:=hs.bd b h1
   have h4:(look (addB σ.b r.b) b).join =some vs:=h2
   rw [IE] at h4
   ·exact h4
   ·intro z hz e
    have:=CS hfb z hz
    rw [e] at this
    rw [this] at h3; cases h3
 refine KD hev' hop hos (fun x hx=>⟨?_,fun hl=>?_⟩) (fun x hx=>⟨?_,fun hl=>?_⟩) fun v w' γ' he ht hb ho hv=>hk _ _ _ hK ⟨γ',hs.add hd hft hfb he ht hb ho hv⟩
 ·show (look (addT σ.t r.t) x.1).join =_
  rw [GZ _ _ hids.1 x hx]; rfl
 ·have h1:=hs.td _ hl
  rw [Cp hft x hx] at h1; cases h1
 ·show (look (addB σ.b r.b) x.1).join =_
  rw [Ga _ _ hids.2 x hx]; rfl
 ·have h1:=hs.bd _ hl
  rw [CS hfb x hx] at h1; cases h1
theorem Ru {γ:Gh} {σ:St} {a:Act} {w:World} {pos:Nat} {o:Oper} {K:St→Prop} {next:Act→World→Prop} {Q:Exit→Act→World→Prop} (hs:Sim cx N γ σ a w) (hok:Cm N o=true) (h:aop cx.P pos o σ K)
  (hk:∀σ' a' w',K σ'→SimE cx N σ' a' w'→next a' w'):o.wp cx.P a w next Q:=by
 have hd:=CX hok
 have hop:=A0 (γ:=γ) (s:=σ.g) (e:=σ.e) (a:=a) hok (fun x _=>St.e_eq σ x) (fun t _=>hs.sl t)
 have done:∀ (σ':St) (γ':Gh) (w':World) (av:AV) (v:Value),Out cx γ σ γ' σ' w'→VSim γ'.vw γ' av v→SimE cx N (σ'.put o.dst av) (a.put o.dst v) w':=fun σ' γ' w' av v ho hv=>by
  have hT:(σ'.put o.dst av).T =σ'.T:=by cases o.dst <;> rfl
  have hB:(σ'.put o.dst av).B =σ'.B:=by cases o.dst <;> rfl
  have ht:(σ'.put o.dst av).t =σ'.t:=by cases o.dst <;> rfl
  have hb:(σ'.put o.dst av).b =σ'.b:=by cases o.dst <;> rfl
  have hg:∀i,σ'.g i=σ.g i:=fun i=>by unfold St.g; rw [ho.s]
  refine⟨γ',by rw [hT,hB]; exact ho.os,fun i=>?_,fun t h=>?_,fun b h=>?_,by rw [D2]; exact hs.df,by rw [Fd]; exact hs.n⟩
  ·rw [St.g_put,hg]; exact Fc ho.ext hs.n hs.sl hd hv i
  ·rw [ht]
   rcases ho.td t h with h|h
   ·exact ho.tm t (hs.td t h)
   ·exact h
  ·rw [hb]
   rcases ho.bd b h with h|h
   ·exact ho.bm b (hs.bd b h)
   ·exact h
 unfold aop at h
 split at h
 ·rename_i t x yt hop'
  rw [hop'] at hop
  obtain⟨⟨e,he⟩,hn,h⟩:=h
  obtain⟨b,hb,hr⟩:=NW (ox:=x) (oy:=.const (.slice none 0 0)) hs.os he (hop x (by simp [Op.operands])) hn
  refine Fv (v:=.bool b) (w':=w) ?_ (hk _ _ _ (h b hb) (done σ γ w (.bool b) (.bool b) ⟨Gh.Ext.refl γ,hs.os,rfl,fun x h=>.inl h,fun x h=>.inl h,fun x h=>h,fun x h=>h⟩ (by simp only [VSim])))
  have e1:a.eval (.const (.slice none 0 0))= .slice none 0 0:=rfl
  simp [execOp,hop',e1,hr.1,hr.2.1]
 ·rename_i t x yt hop'
  rw [hop'] at hop
  obtain⟨⟨e,he⟩,hn,h⟩:=h
  obtain⟨b,hb,hr⟩:=NW (ox:=x) (oy:=.const (.slice none 0 0)) hs.os he (hop x (by simp [Op.operands])) hn
  refine Fv (v:=.bool !b) (w':=w) ?_ (hk _ _ _ (h b hb) (done σ γ w (.bool !b) (.bool !b) ⟨Gh.Ext.refl γ,hs.os,rfl,fun x h=>.inl h,fun x h=>.inl h,fun x h=>h,fun x h=>h⟩ (by simp only [VSim])))
  have e1:a.eval (.const (.slice none 0 0))= .slice none 0 0:=rfl
  simp [execOp,hop',e1,hr.1,hr.2.2]
 ·rename_i t x y hop'
  rw [hop'] at hop
  obtain⟨w',γ',σ',hr,hK,ho⟩:=NR hs.os (hop x (by simp [Op.operands])) (hop y (by simp [Op.operands])) h
  have hrun:(execOp a.eval o).run cx.P w= .ok .skip w':=by simp [execOp,hop',hr]
  unfold Oper.wp
  rw [hrun]
  exact hk _ _ _ hK (done σ' γ' w' .any undef ho trivial)
 ·rename_i t m i x hop'
  rw [hop'] at hop
  obtain⟨w',γ',σ',hr,hK,ho⟩:=QZ hs.os (hop m (by simp [Op.operands])) (hop i (by simp [Op.operands])) (hop x (by simp [Op.operands])) h
  have hrun:(execOp a.eval o).run cx.P w= .ok .skip w':=by simp [execOp,hop',hr]
  unfold Oper.wp
  rw [hrun]
  exact hk _ _ _ hK (done σ' γ' w' .any undef ho trivial)
 ·rename_i args argTypes hop'
  split at h
  ·rename_i x y t t' hx ht
   obtain⟨rfl,h⟩:=h
   have ha:args= #[x,y] :=by cases args; simp_all
   have hat:argTypes= #[t',t'] :=by cases argTypes; simp_all
   subst ha hat
   rw [hop'] at hop
   obtain⟨v',w',γ',σ',av,hr,hv,hK,ho⟩:=Qa (ty:=o.type) hs.os hs.td (hop x (by simp [Op.operands,Call.operands])) (hop y (by simp [Op.operands,Call.operands])) h
   refine Fv (v:=v') (w':=w') ?_ (hk _ _ _ hK (done σ' γ' w' av v' ho hv))
   simp [execOp,hop',resolve,invoke,builtin,hr]
  ·exact h.elim
 ·exact KP hs hok h hk
theorem NX {γ:Gh} {σ:St} {a:Act} {w:World} {o:Oper} {K:St→Prop} {next:Act→World→Prop} {Q:Exit→Act→World→Prop} (hs:Sim cx N γ σ a w) (hok:Cm N o=true) (h:GQ cx.P o σ K)
  (hk:∀σ' a' w',K σ'→SimE cx N σ' a' w'→next a' w'):o.wp cx.P a w next Q:=by
 have hd:=CX hok
 have hop:=A0 (γ:=γ) (s:=σ.g) (e:=σ.e) (a:=a) hok (fun x _=>St.e_eq σ x) (fun t _=>hs.sl t)
 unfold GQ at h
 split at h
 ·rename_i g args argTypes hop'
  rw [hop'] at hop
  have h1:=hop g (by simp [Op.operands,Call.operands])
  split at h
  ·rename_i f caps he
   rw [he] at h1
   simp only [VSim] at h1
   obtain⟨cv,h2,h3⟩:=h1
   have hav:AB γ.vw γ (args.toList.map σ.e++caps) (args.toList.map a.eval++cv):=(AB.of_map fun x hx=>hop x (by simp [Op.operands,Call.operands]; exact .inr (Array.mem_toList_iff.1 hx))).append h3
   obtain⟨bs,h⟩:=h
   obtain⟨hb,hcalls⟩:=JK hs.os hs.td hs.bd h hav
   unfold DB at hb
   cases hf:cx.P.funcs[f]? with
   |none=>simp [hf] at hb
   | some fn=>
    simp only [hf,Option.any_some,Bool.and_eq_true,Bool.not_eq_true',beq_eq_false_iff_ne] at hb
    have hrun:(callFunc f (args.toList.map a.eval++cv).toArray).run cx.P w= .ok (.enter f (args.toList.map a.eval++cv).toArray) w:=by
     obtain⟨c,h1⟩:=Option.isSome_iff_exists.1 hb.1
     simp [callFunc,hf,hb.2,h1]
    have hr:(execOp a.eval o).run cx.P w=(callFunc f (args.toList.map a.eval++cv).toArray).run cx.P w:=by
     have e1:(args.toList.map a.eval++cv).toArray =Array.map a.eval args++cv.toArray:=by
      apply Array.toList_inj.1; simp
     rw [e1]
     simp [execOp,hop',resolve,h2,Deferred.ofValue,invoke]
    unfold Oper.wp
    rw [hr,hrun]
    simp only [Oper.upon]
    refine hcalls.mono ?_
    rintro e w' ⟨v,γ',σ',r,rfl,hK,hv,hext,hos,hss,htd,hbd⟩
    simp only
    have hT:(σ'.put o.dst r).T =σ'.T:=by cases o.dst <;> rfl
    have hB:(σ'.put o.dst r).B =σ'.B:=by cases o.dst <;> rfl
    have ht:(σ'.put o.dst r).t =σ'.t:=by cases o.dst <;> rfl
    have hb':(σ'.put o.dst r).b =σ'.b:=by cases o.dst <;> rfl
    have hg:∀i,σ'.g i=σ.g i:=fun i=>by unfold St.g; rw [hss]
    refine hk _ _ _ hK ⟨γ',by rw [hT,hB]; exact hos,fun i=>?_,fun t h=>by rw [ht]; exact htd t h,fun b h=>by rw [hb']; exact hbd b h,by rw [D2]; exact hs.df,by rw [Fd]; exact hs.n⟩
    rw [St.g_put,hg]; exact Fc hext hs.n hs.sl hd hv i
  ·exact h.elim
 ·exact h.elim
theorem OwnR.of_append {V w} {cs} {sz}:∀ {xs ys} {o} {fp},OwnR V w cs sz o (xs++ys) fp→∃f1 f2,OwnR V w cs sz o xs f1∧OwnR V w cs sz (o+xs.length*sz) ys f2∧fp=f1++f2
 | [],ys,o,fp,h=>⟨[],fp,by simp only [OwnR],by simpa using h,rfl⟩
 |x::xs,ys,o,fp,h=>by
  simp only [List.cons_append,OwnR] at h
  obtain⟨f1,f2,h1,h2,h3,rfl⟩:=h
  obtain⟨g1,g2,k1,k2,rfl⟩:=OwnR.of_append h3
  refine⟨f1++g1,g2,?_,?_,by rw [List.append_assoc]⟩
  ·simp only [OwnR]; exact⟨f1,g1,h1,h2,k1,rfl⟩
  ·rw [List.length_cons,Nat.add_mul,Nat.one_mul,show o+(xs.length*sz+sz)=o+sz+xs.length*sz from by omega]; exact k2
theorem OwnR.cut {V w} {cs} {sz o i n} {rows} {fp} (h:OwnR V w cs sz o rows fp) (hi:i≤rows.length):∃f a b,OwnR V w cs sz (o+i*sz) ((rows.drop i).take n) f∧fp=a++f++b:=by
 rw [← List.take_append_drop i rows] at h
 obtain⟨f1,f2,-,h2,rfl⟩:=OwnR.of_append h
 rw [List.length_take,Nat.min_eq_left hi,← List.take_append_drop n (rows.drop i)] at h2
 obtain⟨g1,g2,k1,-,rfl⟩:=OwnR.of_append h2
 exact⟨g1,f1,g2,k1,by rw [List.append_assoc]⟩
theorem Oq {γ:Gh} {σ:St} {a:Act} {w:World} {pos:Nat} {o:Oper} {K:St→Prop} {next:Act→World→Prop} {Q:Exit→Act→World→Prop} (hs:Sim cx N γ σ a w) (hok:Cm N o=true) (h:SliK cx.P pos o σ K)
  (hk:∀σ' a' w',K σ'→SimE cx N σ' a' w'→next a' w'):o.wp cx.P a w next Q:=by
 have hd:=CX hok
 have hop:=A0 (γ:=γ) (s:=σ.g) (e:=σ.e) (a:=a) hok (fun x _=>St.e_eq σ x) (fun t _=>hs.sl t)
 unfold SliK at h
 split at h
 ·rename_i t x l h' hop'
  rw [hop'] at hop
  split at h
  ·rename_i n he
   obtain⟨tk,hT,el,hu,⟨hsz,hrl⟩,i,hi,j,hj,r,hr,hlook,hK⟩:=h
   have hx:=hop x (by simp [Op.operands])
   rw [he] at hx
   simp only [VSim] at hx
   obtain⟨⟨htl,-⟩,hx⟩:=hx
   have hbl:(l.map a.eval=none∧i=0)∨∃k,l.map a.eval=some (.int k i):=DP (w0:=γ.vw) (γ:=γ) (a:=l.map σ.e) (v:=l.map a.eval) (fun y hy=>by
    cases l with
    |none=>cases hy
    |some l=>cases hy; exact⟨_,rfl,hop l (by simp [Op.operands])⟩) (fun hy=>by cases l with|none=>rfl|some l=>cases hy) hi
   have hbh:(h'.map a.eval=none∧j=tk.rows.length)∨∃k,h'.map a.eval=some (.int k j):=DP (w0:=γ.vw) (γ:=γ) (a:=h'.map σ.e) (v:=h'.map a.eval) (fun y hy=>by
    cases h' with
    |none=>cases hy
    |some l=>cases hy; exact⟨_,rfl,hop l (by simp [Op.operands])⟩) (fun hy=>by cases h' with|none=>rfl|some l=>cases hy) hj
   unfold OX at hr
   by_cases h0:0≤i∧i≤j∧j≤tk.rows.length
   case neg=>rw [if_neg h0] at hr; cases hr
   rw [if_pos h0] at hr
   cases hr
   have hown:=(hs.os.tok n tk htl hT).own
   have hsz':=B2 (P:=cx.P) (w:=w) hsz
   have hlen:((tk.rows.drop i.toNat).take (j - i).toNat).length =j.toNat - i.toNat:=by rw [List.length_take,List.length_drop]; omega
   have key:∃v' f,(execOp a.eval o).run cx.P w= .ok (.value v') w∧Own (tk.vw γ.vw) w (.sl ((tk.rows.drop i.toNat).take (j - i).toNat)) v' f∧f.Nodup∧∀g ∈ f,g ∈ γ.tf n:=by
    have run:∀ (ad:Option Addr) (c:Nat),γ.tv n= .slice ad tk.rows.length c→tk.rows.length≤c→(execOp a.eval o).run cx.P w= .ok (.value (.slice (if c=i.toNat then ad else ad.map (·.add (i.toNat*tsz cx.P el))) (j.toNat - i.toNat) (c - i.toNat))) w:=fun ad c hv hc=>by
     have hb:=Fy (P:=cx.P) (w:=w) (b:=true) hbl hbh hc h0
     rw [← hx] at hv
     simp only [execOp,hop',hv,Sem.run_bind]
     simp [Instr.sliceAt,Instr.slice,run_underlying (ED hu),hb,hsz']
    have hnd:=hs.os.tnd n tk htl hT
    simp only [Own] at hown
    by_cases he0:j.toNat - i.toNat=0
    ·have hnil:(tk.rows.drop i.toNat).take (j - i).toNat =[] :=List.eq_nil_of_length_eq_zero (by rw [hlen]; exact he0)
     have:∃ad c,γ.tv n= .slice ad tk.rows.length c∧tk.rows.length≤c∧c≤maxLen:=by
      rcases hown with ⟨h1,⟨ad,c,h2,h2'⟩,-⟩|⟨sz,g,o1,c,e,cs,fps,h1,h2,h3,-⟩
      ·exact⟨ad,c,by rw [h2,h1]; rfl,by rw [h1]; exact Nat.zero_le _,h2'⟩
      ·exact⟨_,c,h1,h2,h3⟩
     obtain⟨ad,c,h1,h2,h3⟩:=this
     refine⟨_,[],run ad c h1 h2,?_,List.nodup_nil,by simp⟩
     simp only [Own]
     exact .inl ⟨hnil,⟨_,_,by rw [he0],by omega⟩,trivial⟩
    ·rcases hown with ⟨h1,-,-⟩|⟨sz,g,o1,c,e,cs,fps,h1,h2,h3,hb,h4,hR,hfp⟩
     ·rw [h1] at h0; simp at h0; omega
     ·have h5:0<tk.rows.length:=by omega
      have hsz2:sz=tsz cx.P el:=by
       obtain⟨_,_,_,_,h6,-⟩:=hR.split 0 h5
       have h7:=hrl tk.rows[0] (List.getElem_mem h5)
       omega
      subst hsz2
      have hci:i.toNat≤c:=by omega
      obtain⟨f,fa,fb,k1,k2⟩:=OwnR.cut (i:=i.toNat) (n:=(j - i).toNat) hR (by omega)
      have hmul:i.toNat*tsz cx.P el+(c - i.toNat)*tsz cx.P el=c*tsz cx.P el:=by rw [← Nat.add_mul]; congr 1; omega
      refine⟨_,g::f,run _ c h1 h2,?_,?_,fun g' hg'=>?_⟩
      ·simp only [Own]
       refine .inr ⟨tsz cx.P el,g,o1+i.toNat*tsz cx.P el,c - i.toNat,e,cs,f,?_,by rw [hlen]; omega,by omega,hb,by omega,k1,rfl⟩
       rw [if_neg (by omega),hlen]
       simp only [Option.map_some,Addr.add]
       split
       ·rename_i h9; rw [h9]; rfl
       ·rfl
      ·rw [hfp,k2] at hnd
       obtain⟨n1,n2⟩:=List.nodup_cons.1 hnd
       refine List.nodup_cons.2 ⟨fun hm=>n1 (by simp [hm]),?_⟩
       rw [List.append_assoc] at n2
       exact(List.nodup_append.1 (List.nodup_append.1 n2).2.1).1
      ·rw [hfp,k2]
       rcases List.mem_cons.1 hg' with rfl|hg'
       ·simp
       ·simp [hg']
   obtain⟨v',f,hrun,hown',hnd',hin⟩:=key
   have hntl:¬γ.tl (pos*16):=fun htl=>by
    have h1:=hs.td _ htl
    rw [hlook] at h1; cases h1
   have hne:pos*16≠n:=fun e=>by rw [e] at hntl; exact hntl htl
   have hs1:=hs.os.kill n
   have hTn:tset σ.T n none (pos*16)=none:=by
    unfold tset; rw [if_neg hne]; unfold St.T; rw [hlook]; rfl
   have hfree:=hs.os.freed htl hT
   have htok:AW γ.vw w ⟨(tk.rows.drop i.toNat).take (j - i).toNat,none,0,tk.z⟩ v' f:=hown'
   have hfin:=hs1.putTok (tk:=⟨(tk.rows.drop i.toNat).take (j - i).toNat,none,0,tk.z⟩) hTn (fun h=>absurd h hntl) htok hnd' (fun g hg=>hfree g (hin g hg)) (fun h=>absurd h hntl) (fun h=>absurd h hntl)
   have hext:Gh.Ext γ (γ.tok w (pos*16) v' f 0):=Gh.tok_ext fun h=>absurd h hntl
   refine Fv (v:=v') (w':=w) hrun (hk _ _ _ hK ⟨γ.tok w (pos*16) v' f 0,?_,fun x=>?_,fun z hz=>?_,fun z hz=>?_,by rw [D2]; exact hs.df,by rw [Fd]; exact hs.n⟩)
   ·refine hfin.tables (fun z tz' _ hz=>?_) fun b vs _ hb=>?_
    ·have e1:(St.put ⟨σ.s,(pos*16,some ⟨(tk.rows.drop i.toNat).take (j - i).toNat,none,0,tk.z⟩)::(n,none)::σ.t,σ.b⟩ o.dst (.own (pos*16))).T z=(look ((pos*16,some ⟨(tk.rows.drop i.toNat).take (j - i).toNat,none,0,tk.z⟩)::(n,none)::σ.t) z).join :=by cases o.dst <;> rfl
     rw [e1] at hz
     simp only [AI] at hz
     split at hz
     ·rename_i e; rw [if_pos e]; simpa using hz
     ·rename_i e
      rw [if_neg e]
      unfold tset
      split at hz
      ·cases hz
      ·rename_i e2; rw [if_neg e2]; exact hz
    ·have e1:(St.put ⟨σ.s,(pos*16,some ⟨(tk.rows.drop i.toNat).take (j - i).toNat,none,0,tk.z⟩)::(n,none)::σ.t,σ.b⟩ o.dst (.own (pos*16))).B b=σ.B b:=by cases o.dst <;> rfl
     rw [e1] at hb; exact hb
   ·rw [St.g_put]
    have hrep:=htok.rep hs1.vw.k
    simp only [Rep] at hrep
    obtain⟨a',c',hv',-⟩:=hrep
    refine Fc hext hs.n hs.sl hd (av:=.own (pos*16)) ?_ x
    simp only [VSim]
    have e1:(γ.tok w (pos*16) v' f 0).tv (pos*16)=v':=by show (if pos*16=pos*16 then _ else _)=_; rw [if_pos rfl]
    rw [e1]
    exact⟨⟨.inr rfl,a',_,c',hv'⟩,rfl⟩
   ·have e1:(St.put ⟨σ.s,(pos*16,some ⟨(tk.rows.drop i.toNat).take (j - i).toNat,none,0,tk.z⟩)::(n,none)::σ.t,σ.b⟩ o.dst (.own (pos*16))).t =(pos*16,some ⟨(tk.rows.drop i.toNat).take (j - i).toNat,none,0,tk.z⟩)::(n,none)::σ.t:=by cases o.dst <;> rfl
    rw [e1]
    simp only [AI]
    split
    ·rfl
    ·split
     ·rfl
     ·rename_i e2 _
      rcases hz with hz|hz
      ·exact hs.td z hz
      ·exact absurd hz e2
   ·have e1:(St.put ⟨σ.s,(pos*16,some ⟨(tk.rows.drop i.toNat).take (j - i).toNat,none,0,tk.z⟩)::(n,none)::σ.t,σ.b⟩ o.dst (.own (pos*16))).b =σ.b:=by cases o.dst <;> rfl
    rw [e1]; exact hs.bd z hz
  ·exact h.elim
 ·exact h.elim
theorem G7 {γ:Gh} {σ:St} {a:Act} {w:World} {L:Bool} {pos:Nat} {o:Oper} {K:St→Prop} {next:Act→World→Prop} {Q:Exit→Act→World→Prop} (hs:Sim cx N γ σ a w) (hok:Cm N o=true) (h:JR cx.P L pos o σ K)
  (hk:∀σ' a' w',K σ'→SimE cx N σ' a' w'→next a' w'):o.wp cx.P a w next Q:=by
 rcases h with ⟨-,h⟩|⟨-,h⟩|⟨-,-,h⟩
 ·exact Ru hs hok h hk
 ·rcases h with h|h
  ·exact NX hs hok h hk
  ·exact Oq hs hok h hk
 ·exact KP hs hok h hk
theorem KQ {γ} {σ} {a} {w} (hs:Sim cx N γ σ a w) {ops} {j s} {b} (hj:EP ops j=some s) (hb:σ.g s= .bool b):yielded ops a.tmps j=some b:=by
 have h1:=hs.sl s
 rw [hb] at h1
 simp only [VSim] at h1
 unfold EP at hj
 unfold yielded
 rw [hj]
 simp only [Option.bind_some]
 rw [Array.getD_eq_getD_getElem?] at h1
 cases hx:a.tmps[s]? with
 |none=>rw [hx] at h1; simp [undef] at h1
 |some u=>
  rw [hx] at h1
  simp only [Option.getD_some] at h1
  subst h1
  rfl
theorem KR {γ} {σ} {a} {w} (hs:Sim cx N γ σ a w) {ops} {j s} (hj:EP ops j=some s) (hb:σ.g s= .tup []):yielded ops a.tmps j=none:=by
 have h1:=hs.sl s
 rw [hb] at h1
 simp only [VSim,AB] at h1
 obtain⟨us,h1,rfl⟩:=h1
 unfold EP at hj
 unfold yielded
 rw [hj]
 simp only [Option.bind_some]
 rw [Array.getD_eq_getD_getElem?] at h1
 cases hx:a.tmps[s]? with
 |none=>rfl
 |some u=>
  rw [hx] at h1
  simp only [Option.getD_some] at h1
  subst h1
  rfl
theorem KS {w0} {γ}:VSim w0 γ (.tup []) undef:=by simp only [VSim,AB]; exact⟨[],rfl,rfl⟩
theorem Sim.putU {γ:Gh} {σ:St} {a:Act} {w:World} (hs:Sim cx N γ σ a w) {dst:Option Tmp} (hd:∀d,dst=some d→d<N):Sim cx N γ (σ.put dst (.tup [])) (a.put dst undef) w:=by
 refine⟨?_,fun i=>?_,?_,?_,by rw [D2]; exact hs.df,by rw [Fd]; exact hs.n⟩
 ·have hT:(σ.put dst (.tup [])).T =σ.T:=by cases dst <;> rfl
  have hB:(σ.put dst (.tup [])).B =σ.B:=by cases dst <;> rfl
  rw [hT,hB]; exact hs.os
 ·rw [St.g_put]
  exact Fc (Gh.Ext.refl γ) hs.n hs.sl hd (av:=.tup []) KS i
 ·have ht:(σ.put dst (.tup [])).t =σ.t:=by cases dst <;> rfl
  rw [ht]; exact hs.td
 ·have ht:(σ.put dst (.tup [])).b =σ.b:=by cases dst <;> rfl
  rw [ht]; exact hs.bd
end
end Go.Proofs.Ytgigfdghecdlgaa.Ab
