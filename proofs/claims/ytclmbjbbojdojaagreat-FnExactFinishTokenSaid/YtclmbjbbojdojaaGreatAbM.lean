/-
  The abstract walk, thirteenth part: operations one after another.
-/
import Derived.Test.YtclmbjbbojdojaaGreatAbLa
import Derived.Tactics
namespace Go.Proofs.YtclmbjbbojdojaaGreat.Ab
set_option linter.unusedVariables false
set_option maxHeartbeats 1000000
set_option linter.unusedSimpArgs false
open Go.RowKit
mutual
def LR:Value→Bool
 | .int k n=>(Lit.int k n).wf
 | .string s=>decide (s.size≤maxLen)
 | .agg cs=>N1 cs.toList
 |_=>true
def N1:List Value→Bool
 | [] =>true
 |v::vs=>LR v&&N1 vs
end
mutual
theorem Oi {w0} {γ}:∀ (v:Value),LR v=true→VSim w0 γ (Bd v) v
 | .int k n,h=>by grind [LR,Bd,Da]
 | .bool b,h=>by rfl
 | .string s,h=>by grind [LR,Bd,W6]
 | .agg cs,h=>by
  simp only [LR] at h
  simp only [Bd,VSim]
  exact⟨cs.toList,by simp,M8 cs.toList h⟩
 | .slice none 0 0,h=>by rfl
 | .slice none 0 (c+1),h=>by simp only [Bd]; trivial
 | .slice none (n+1) c,h=>by simp only [Bd]; trivial
 | .slice (some a) n c,h=>by simp only [Bd]; trivial
 | .pointer none,h=>by rfl
 | .pointer (some a),h=>by simp only [Bd]; trivial
 | .float _ _,h=>by simp only [Bd]; trivial
 | .complex _ _ _,h=>by simp only [Bd]; trivial
 | .map _,h=>by simp only [Bd]; trivial
 | .chan _,h=>by simp only [Bd]; trivial
 | .func _ _ _,h=>by simp only [Bd]; trivial
 | .nilFunc,h=>by simp only [Bd]; trivial
 | .iface _ _,h=>by simp only [Bd]; trivial
 | .nilIface,h=>by simp only [Bd]; trivial
 | .tuple _,h=>by simp only [Bd]; trivial
theorem M8 {w0} {γ}:∀ (vs:List Value),N1 vs=true→AH w0 γ (I2 vs) vs
 | [],h=>by rfl
 |v::vs,h=>by
  simp only [N1,Bool.and_eq_true] at h
  simp only [I2,AH]
  exact⟨v,vs,rfl,Oi v h.1,M8 vs h.2⟩
end
def E9 (N:Nat) (o:Oper):Bool:=(o.op.operands.toList.all fun| .const v=>LR v|_=>true)&&(match o.dst with|some d=>decide (d<N)|none=>true)
theorem St.g_put (σ:St) (dst:Option Tmp) (v:AV) (i:Nat):(σ.put dst v).g i=if dst=some i then v else σ.g i:=by
 unfold St.g St.put
 grind [AI]
theorem XE (a:Act) (dst:Option Tmp) (v:Value) (i:Nat) (h:∀d,dst=some d→d<a.tmps.size):(a.put dst v).tmps.getD i undef=if dst=some i then v else a.tmps.getD i undef:=by
 cases dst with
 |none=>rfl
 |some d=>
  have hd:=h d rfl
  simp only [Act.put,Option.some.injEq]
  by_cases e:d=i
  ·simp_all
  simp_all
section
variable {cx:Cx} {N:Nat} {w:World} {P:Program}
theorem Fs {o} (h:E9 N o=true):∀d,o.dst=some d→d<N:=fun d hd=>by
 grind [E9]
theorem LS {γ γ':Gh} {s:Nat→AV} {a:Act} (he:Gh.Ext γ γ') (hn:a.tmps.size=N) (hs:∀i,VSim γ.vw γ (s i) (a.tmps.getD i undef)) {dst:Option Tmp} (hd:∀d,dst=some d→d<N) {av:AV} {v:Value} (hv:VSim γ'.vw γ' av v):
  ∀i,VSim γ'.vw γ' (if dst=some i then av else s i) ((a.put dst v).tmps.getD i undef):=fun i=>by
 rw [XE a dst v i (by rw [hn]; exact hd)]
 split
 ·exact hv
 ·exact VSim.mono he.vw he (hs i)
theorem LU (a:Act) (dst:Option Tmp) (v:Value):(a.put dst v).tmps.size =a.tmps.size:=by cases dst <;> simp [Act.put]
theorem Ij (a:Act) (dst:Option Tmp) (v:Value):(a.put dst v).defers =a.defers:=by cases dst <;> rfl
theorem Bz {γ:Gh} {s:Nat→AV} {e:Operand→AV} {a:Act} {o:Oper} (hok:E9 N o=true) (he:∀x ∈ o.op.operands,e x=match x with| .tmp t=>s t| .const v=>Bd v| .func f=>.fn f [] | .global _=>.any)
  (hs:∀t,.tmp t ∈ o.op.operands→VSim γ.vw γ (s t) (a.tmps.getD t undef)):∀x ∈ o.op.operands,VSim γ.vw γ (e x) (a.eval x):=fun x hx=>by
 rw [he x hx]
 unfold E9 at hok
 rw [Bool.and_eq_true] at hok
 have h1:=hok.1
 rw [List.all_eq_true] at h1
 have h2:=h1 x (Array.mem_toList_iff.2 hx)
 cases x with
 |tmp t=>exact hs t hx
 |const v=>exact Oi v h2
 |global g=>trivial
 |func f=>simp only [VSim]; exact⟨[],.inl ⟨rfl,rfl⟩,by rfl⟩
theorem St.e_eq (σ:St) (x:Operand):σ.e x=match x with| .tmp t=>σ.g t| .const v=>Bd v| .func f=>.fn f [] | .global _=>.any :=by cases x <;> rfl
theorem WQ:∀ (l:List (Nat × Tok)) (σ:List (Nat × Option Tok)) (x:Nat),(look σ x).isSome =true∨(∃y ∈ l,y.1 =x)→(look (addT σ l) x).isSome =true
 | [],σ,x,h=>by
  rcases h with h|⟨y,hy,-⟩
  ·exact h
  grind
 | (n,tk)::l,σ,x,h=>by
  simp only [addT,AI]
  split
  ·rfl
  ·rename_i hne
   refine WQ l σ x ?_
   rcases h with h|⟨y,hy,hyx⟩
   ·exact .inl h
   ·rcases List.mem_cons.1 hy with rfl|hy
    ·exact absurd hyx.symm hne
    ·exact .inr ⟨y,hy,hyx⟩
theorem WR:∀ (l:List (Nat × List AV)) (σ:List (Nat × Option (List AV))) (x:Nat),(look σ x).isSome =true∨(∃y ∈ l,y.1 =x)→(look (addB σ l) x).isSome =true
 | [],σ,x,h=>by
  rcases h with h|⟨y,hy,-⟩
  ·exact h
  grind
 | (n,tk)::l,σ,x,h=>by
  simp only [addB,AI]
  split
  ·rfl
  ·rename_i hne
   refine WR l σ x ?_
   rcases h with h|⟨y,hy,hyx⟩
   ·exact .inl h
   ·rcases List.mem_cons.1 hy with rfl|hy
    ·exact absurd hyx.symm hne
    ·exact .inr ⟨y,hy,hyx⟩
theorem QH:∀ (l:List (Nat × Tok)) (σ:List (Nat × Option Tok)) (x:Nat),(∀y ∈ l,y.1 ≠x)→look (addT σ l) x=look σ x
 | [],_,_,_=>rfl
 |(n,tk)::l,σ,x,h=>by
  simp only [addT,AI]
  rw [if_neg (fun e=>h (n,tk) (by simp) e.symm),QH l σ x fun y hy=>h y (by grind)]
theorem QI:∀ (l:List (Nat × List AV)) (σ:List (Nat × Option (List AV))) (x:Nat),(∀y ∈ l,y.1 ≠x)→look (addB σ l) x=look σ x
 | [],_,_,_=>rfl
 |(n,tk)::l,σ,x,h=>by
  simp only [addB,AI]
  rw [if_neg (fun e=>h (n,tk) (by simp) e.symm),QI l σ x fun y hy=>h y (by grind)]
theorem M9:∀ (l:List (Nat × Tok)) (σ:List (Nat × Option Tok)),(l.map (·.1)).Nodup →∀y ∈ l,look (addT σ l) y.1 =some (some y.2)
 | [],_,_,y,hy=>by cases hy
 | (n,tk)::l,σ,hn,y,hy=>by
  simp only [List.map_cons,List.nodup_cons] at hn
  simp only [addT,AI]
  rcases List.mem_cons.1 hy with rfl|hy
  ·rw [if_pos rfl]
  ·rw [if_neg (fun e:y.1 =n=>hn.1 (by rw [← e]; exact List.mem_map.2 ⟨y,hy,rfl⟩))]
   exact M9 l σ hn.2 y hy
theorem NA:∀ (l:List (Nat × List AV)) (σ:List (Nat × Option (List AV))),(l.map (·.1)).Nodup →∀y ∈ l,look (addB σ l) y.1 =some (some y.2)
 | [],_,_,y,hy=>by cases hy
 | (n,tk)::l,σ,hn,y,hy=>by
  simp only [List.map_cons,List.nodup_cons] at hn
  simp only [addB,AI]
  rcases List.mem_cons.1 hy with rfl|hy
  ·rw [if_pos rfl]
  ·rw [if_neg (fun e:y.1 =n=>hn.1 (by rw [← e]; exact List.mem_map.2 ⟨y,hy,rfl⟩))]
   exact NA l σ hn.2 y hy
theorem Gd {σ}:∀ {l},DY σ l→∀y ∈ l,look σ.t y.1 =none
 | [],_,y,hy=>by cases hy
 |(n,tk)::l,h,y,hy=>by
  simp only [DY] at h
  rcases List.mem_cons.1 hy with rfl|hy
  ·exact h.1
  ·exact Gd h.2 y hy
theorem Fr {σ}:∀ {l},FS σ l→∀y ∈ l,look σ.b y.1 =none
 | [],_,y,hy=>by cases hy
 |(n,tk)::l,h,y,hy=>by
  simp only [FS] at h
  rcases List.mem_cons.1 hy with rfl|hy
  ·exact h.1
  ·exact Fr h.2 y hy
def Le {α:Type} (T T':Nat→Option α):Prop:=∀x y,T x=some y→T' x=some y
theorem N2 {T T'} (h:Le T T') {t g} {p} {r} (hs:subR T t g p=some r):subR T' t g p=some r:=by
 unfold subR at hs ⊢
 cases hT:T t with
 |none=>rw [hT] at hs; cases hs
 |some tk=>rw [h t tk hT]; rw [hT] at hs; exact hs
theorem ep {T T'} (h:Le T T') {a} {d} (hd:toD T a=some d):toD T' a=some d:=by
 cases a with
 |own t=>
  simp only [toD] at hd ⊢
  cases hT:T t with
  |none=>grind
  |some tk=>rw [h t tk hT]; grind
 |_=>first|exact hd|(simp [toD] at hd)
theorem Ri {T T'} (h:Le T T'):∀ {as} {ds},toDs T as=some ds→toDs T' as=some ds
 | [],ds,hd=>by grind [toDs]
 | a::as,ds,hd=>by
  simp only [toDs] at hd ⊢
  cases ha:toD T a with
  |none=>simp [ha] at hd
  | some d=>
   cases has:toDs T as with
   |none=>simp [ha,has] at hd
   |some ds'=>
    rw [ep h ha,Ri h has]
    simpa [ha,has] using hd
theorem WS {T T'} (h:Le T T') {t g} {p} {r} (hx:subE T t g p=some r):subE T' t g p=some r:=by
 unfold subE at hx ⊢
 cases hT:T t with
 |none=>rw [hT] at hx; cases hx
 |some tk=>rw [h t tk hT]; rw [hT] at hx; exact hx
theorem eq {T T'} {B B'} (h:Le T T') (hb:Le B B') {a} {d} (hd:toA T B a=some d):toA T' B' a=some d:=by
 cases a with
 |own t=>
  simp only [toA] at hd ⊢
  cases hT:T t with
  |none=>grind
  |some tk=>rw [h t tk hT]; grind
 |sub t g p=>
  simp only [toA] at hd ⊢
  cases hT:subE T t g p with
  |none=>grind
  |some r=>rw [WS h hT]; grind
 | bsl b n sz=>
  simp only [toA] at hd ⊢
  cases hB:B b with
  |none=>grind
  |some vs=>
   cases hd':toDs T vs with
   |none=>grind
   |some ds=>rw [hb b vs hB]; grind [Ri]
 |_=>first|exact hd|(simp [toA] at hd)
theorem WT {T T'} {B B'} (h:Le T T') (hb:Le B B'):∀ {as} {ds},toAs T B as=some ds→toAs T' B' as=some ds
 | [],ds,hd=>by grind [toAs]
 | a::as,ds,hd=>by
  simp only [toAs] at hd ⊢
  cases ha:toA T B a with
  |none=>simp [ha] at hd
  | some d=>
   cases has:toAs T B as with
   |none=>simp [ha,has] at hd
   |some ds'=>
    rw [eq h hb ha,WT h hb has]
    simpa [ha,has] using hd
mutual
theorem bO {T T'} {B B'} (h:Le T T') (hb:Le B B'):∀ {a x},cl T B a=some x→cl T' B' a=some x
 | .int _ _,x,hx=>by grind [cl]
 | .bool _,x,hx=>by grind [cl]
 | .str _,x,hx=>by grind [cl]
 | .ro _,x,hx=>by grind [cl]
 | .nils,x,hx=>by grind [cl]
 | .nilp,x,hx=>by grind [cl]
 | .rop vs off,x,hx=>by
  simp only [cl] at hx ⊢
  cases hc:cls T B vs with
  |none=>grind
  |some xs=>rw [NB h hb hc]; grind
 | .own t,x,hx=>by
  simp only [cl] at hx ⊢
  cases hT:T t with
  |none=>grind
  |some tk=>rw [h t tk hT]; grind
 | .box b off,x,hx=>by
  simp only [cl] at hx ⊢
  cases hB:B b with
  |none=>grind
  |some vs=>
   cases hd:toAs T B vs with
   |none=>grind
   |some ds=>rw [hb b vs hB]; grind [WT]
 | .bsl b n sz,x,hx=>by
  simp only [cl] at hx ⊢
  cases hB:B b with
  |none=>grind
  |some vs=>
   cases hd:toDs T vs with
   |none=>grind
   |some ds=>rw [hb b vs hB]; grind [Ri]
 | .elt t sz i off,x,hx=>by
  simp only [cl] at hx ⊢
  cases hT:T t with
  |none=>grind
  |some tk=>rw [h t tk hT]; grind
 | .agg vs,x,hx=>by
  simp only [cl] at hx ⊢
  cases hc:cls T B vs with
  |none=>grind
  |some xs=>rw [NB h hb hc]; grind
 | .fn f vs,x,hx=>by
  simp only [cl] at hx ⊢
  cases hc:cls T B vs with
  |none=>grind
  |some xs=>rw [NB h hb hc]; grind
 | .par t sz i n,x,hx=>by
  simp only [cl] at hx ⊢
  cases hT:T t with
  |none=>grind
  |some tk=>rw [h t tk hT]; grind
 | .sub t g p,x,hx=>by
  simp only [cl] at hx ⊢
  cases hT:subE T t g p with
  |none=>grind
  |some r=>rw [WS h hT]; grind
 | .els t g p sz i off,x,hx=>by
  grind [cl,N2]
 | .mpr _,x,hx=>by grind [cl]
 | .mpc _ _,x,hx=>by grind [cl]
 | .tup _,x,hx=>by simp [cl] at hx
 | .any,x,hx=>by simp [cl] at hx
theorem NB {T T'} {B B'} (h:Le T T') (hb:Le B B'):∀ {as xs},cls T B as=some xs→cls T' B' as=some xs
 | [],xs,hx=>by grind [cls]
 | a::as,xs,hx=>by
  simp only [cls] at hx ⊢
  cases ha:cl T B a with
  |none=>simp [ha] at hx
  |some y=>
   cases has:cls T B as with
   |none=>simp [ha,has] at hx
   |some ys=>rw [bO h hb ha,NB h hb has]; simpa [ha,has] using hx
end
theorem Z0 {T T'} {B B'} (h:Le T T') (hb:Le B B') {t} {a v} (hl:Jx P T B t a v):Jx P T' B' t a v:=by
 unfold Jx at*
 split at hl
 ·obtain⟨vs,h1,h2⟩:=hl; exact⟨vs,hb _ _ h1,h2⟩
 ·exact hl
 ·obtain⟨tk,row,h1,h2⟩:=hl; exact⟨tk,row,h _ _ h1,h2⟩
 ·grind [N2]
 omega
theorem cz {T T'} (h:Le T T') {t} {x i v} (hl:Tp P T t x i v):Tp P T' t x i v:=by
 unfold Tp at*
 split at hl
 ·exact hl
 ·obtain⟨h0,tk,row,h1,h2⟩:=hl; exact⟨h0,tk,row,h _ _ h1,h2⟩
 ·grind [N2]
 ·exact hl
 omega
theorem c8 {T T'} {B B'} (h:Le T T') (hb:Le B B') {t} {x v} (hl:To P T B t x v):To P T' B' t x v:=by
 unfold To at*
 split at hl
 ·exact hl
 ·exact hl
 ·exact hl
 ·exact hl
 ·obtain⟨tk,h1,h2⟩:=hl; exact⟨tk,h _ _ h1,h2⟩
 ·grind [N2]
 ·obtain⟨q,rows,h1,h2⟩:=hl; exact⟨q,rows,hb _ _ h1,h2⟩
 omega
theorem Z1 {B B'} (hb:Le B B') {t} {x i v} {ok} (hl:SU P B t x i ok v):SU P B' t x i ok v:=by
 unfold SU at*
 split at hl
 ·obtain⟨q,rows,h1,h2⟩:=hl; exact⟨q,rows,hb _ _ h1,h2⟩
 omega
theorem Z2 {T T'} {B B'} (h:Le T T') (hb:Le B B') {pos} {g} {args} {r} (hl:Tq P T B pos g args r):Tq P T' B' pos g args r:=by
 unfold Tq at*
 grind [NB]
theorem c9 {T T'} (h:Le T T') {t} {x v} {l h'} (hl:cS P T t x l h' v):cS P T' t x l h' v:=by
 unfold cS at*
 split at hl
 ·obtain⟨tk,h1,h2⟩:=hl; exact⟨tk,h _ _ h1,h2⟩
 omega
theorem bP {T T'} {B B'} (h:Le T T') (hb:Le B B') {pos} {o} {e} {r} (hl:Ev P pos o e T B r):Ev P pos o e T' B' r:=by
 obtain⟨dst,op,ty,ps,after,guard⟩:=o
 unfold Ev at*
 dsimp only at*
 split at hl <;> try exact hl
 ·grind [Z0]
 ·grind [bO]
 ·grind [cz]
 ·grind [c9]
 ·grind [c8]
 ·grind [Z2]
 grind [Z1]
end
section
variable {cx:Cx} {N:Nat}
mutual
theorem YX:∀ (n:Nat) (r:RV),((conv n r).2.map (·.1))=List.range' n (conv n r).2.length
 |n,.int _ _=>rfl
 |n,.bool _=>rfl
 |n,.str _=>rfl
 |n,.ow _ _=>rfl
 |n,.ro _=>rfl
 |n,.nilp =>rfl
 |n,.agg vs=>by simp only [conv]; exact Rj n vs
 |n,.tup vs=>by simp only [conv]; exact Rj n vs
theorem Rj:∀ (n:Nat) (rs:List RV),((H1 n rs).2.map (·.1))=List.range' n (H1 n rs).2.length
 |n,[] =>rfl
 |n,r::rs=>by
  simp only [H1,List.map_append,List.length_append,YX n r,Rj (n+(conv n r).2.length) rs]
  rw [List.range'_append_1]
end
theorem Rk {P} {pos} {o} {e} {T} {B} {r} (h:Ev P pos o e T B r):(r.t.map (·.1)).Nodup ∧(r.b.map (·.1)).Nodup :=by
 have nil:(([] :List (Nat × Tok)).map (·.1)).Nodup ∧(([] :List (Nat × List AV)).map (·.1)).Nodup :=⟨List.nodup_nil,List.nodup_nil⟩
 have one:∀ (b:Nat) (vs:List AV),(([] :List (Nat × Tok)).map (·.1)).Nodup ∧([(b,vs)].map (·.1)).Nodup :=fun b vs=>⟨List.nodup_nil,by simp⟩
 obtain⟨dst,op,ty,ps,after,guard⟩:=o
 unfold Ev at h
 dsimp only at h
 split at h
 ·grind
 ·grind
 ·grind
 ·grind
 ·grind
 ·grind
 ·grind
 ·grind
 ·grind
 ·grind
 ·grind
 ·grind
 ·grind
 ·grind
 ·grind
 ·grind
 ·grind
 ·grind
 ·grind
 ·unfold Tq at h
  split at h
  ·obtain⟨-,h⟩:=h
   rcases h with h|h
   ·grind [YX]
   ·obtain⟨_,_,_,_,_,_,h⟩:=h
    grind
  grind
 ·split at h
  ·obtain⟨_,_,h⟩:=h
   split at h
   ·obtain⟨_,z,h⟩:=h
    cases z
    ·obtain⟨_,_,rfl⟩:=h; grind
    ·obtain⟨_,_,rfl⟩:=h; grind
    ·obtain⟨_,_,rfl⟩:=h; grind
   grind
  grind
 ·split at h
  ·obtain⟨_,_,_,_,h⟩:=h
   grind
  grind
 ·grind
 ·grind
 ·split at h
  ·obtain⟨_,_,_,_,_,_,_,_,_,rfl⟩:=h; grind
  grind
 ·grind
 ·grind
 grind
theorem Sim.add {γ γ':Gh} {σ:St} {a:Act} {w w':World} {dst:Option Tmp} {r:Res} {v:Value} (hs:Sim cx N γ σ a w) (hd:∀d,dst=some d→d<N) (hf:DY σ r.t) (hfb:FS σ r.b)
  (he:Gh.Ext γ γ') (ht:∀t,γ'.tl t→γ.tl t∨∃x ∈ r.t,x.1 =t) (hb:∀b,γ'.bl b→γ.bl b∨∃x ∈ r.b,x.1 =b) (hos:OSim cx γ' (σ.add dst r).T (σ.add dst r).B w') (hv:VSim γ'.vw γ' r.v v):Sim cx N γ' (σ.add dst r) (a.put dst v) w':=by
 have hg:∀i,(σ.add dst r).g i=if dst=some i then r.v else σ.g i:=fun i=>by
  have:(σ.add dst r).g i=(σ.put dst r.v).g i:=rfl
  rw [this,St.g_put]
 refine⟨hos,fun i=>by rw [hg]; exact LS he hs.n hs.sl hd hv i,fun t h=>?_,fun b h=>?_,by rw [Ij]; exact hs.df,by rw [LU]; exact hs.n⟩
 ·refine WQ r.t σ.t t ?_
  rcases ht t h with h|h
  ·exact .inl (hs.td t h)
  grind
 ·refine WR r.b σ.b b ?_
  rcases hb b h with h|h
  ·exact .inl (hs.bd b h)
  grind
theorem eu {σ} {dst} {r} (hf:DY σ r.t):Le σ.T (σ.add dst r).T :=fun x y h=>by
 show (look (addT σ.t r.t) x).join =some y
 rw [QH]
 ·exact h
 ·intro z hz e
  grind [Gd,St.T]
theorem ew {σ} {dst} {r} (hf:FS σ r.b):Le σ.B (σ.add dst r).B :=fun x y h=>by
 show (look (addB σ.b r.b) x).join =some y
 rw [QI]
 ·exact h
 ·intro z hz e
  grind [Fr,St.B]
theorem YY {γ} {T} {B} {w} (hs:OSim cx γ T B w) {t e} {ox oy} {v} {u} (he:ti cx.P t= .sl e) (hv:VSim γ.vw γ v u) (hn:P6 v=true):
  ∃b,gv T v b∧(∀op,(eqGuard op t ox oy u (.slice none 0 0)).run cx.P w= .ok () w)∧(binOp .eql t u (.slice none 0 0)).run cx.P w= .ok (.bool b) w∧(binOp .neq t u (.slice none 0 0)).run cx.P w= .ok (.bool !b) w:=by
 have hu:=I3 he
 have key:∀ (a:Option Addr) (n c:Nat),u= .slice a n c→(∀op,(eqGuard op t ox oy u (.slice none 0 0)).run cx.P w= .ok () w)∧(binOp .eql t u (.slice none 0 0)).run cx.P w= .ok (.bool a.isNone) w∧(binOp .neq t u (.slice none 0 0)).run cx.P w= .ok (.bool !a.isNone) w:=by
  rintro a n c rfl
  have h1:(Op.equal t (.slice a n c) (.slice none 0 0)).run cx.P w= .ok a.isNone w:=by
   show (Op.equalIn (9999+1) t _ _).run cx.P w=_
   rw [Op.equalIn]
   cases a <;> simp [run_underlying hu]
  simp_all [eqGuard,binOp]
 cases v with
 |nils=>
  simp only [VSim] at hv
  exact⟨true,rfl,key none 0 0 hv⟩
 |bsl b n sz=>
  simp only [VSim] at hv
  exact⟨false,rfl,key _ _ _ hv.2.2⟩
 |ro rows=>
  simp only [VSim,Rep] at hv
  obtain⟨a,c,rfl,-,-,hr⟩:=hv
  refine⟨a.isNone,fun hne=>?_,key a _ c rfl⟩
  grind
 |_=>simp [P6] at hn
theorem US {γ:Gh} {σ:St} {a:Act} {w:World} {pos:Nat} {o:Oper} {K:St→Prop} {next:Act→World→Prop} {Q:Exit→Act→World→Prop} (hs:Sim cx N γ σ a w) (hok:E9 N o=true) (h:∃r,Ev cx.P pos o σ.e σ.T σ.B r∧DY σ r.t∧FS σ r.b∧K (σ.add o.dst r))
  (hk:∀σ' a' w',K σ'→SimE cx N σ' a' w'→next a' w'):o.wp cx.P a w next Q:=by
 have hd:=Fs hok
 have hop:=Bz (γ:=γ) (s:=σ.g) (e:=σ.e) (a:=a) hok (fun x _=>St.e_eq σ x) (fun t _=>hs.sl t)
 obtain⟨r,hev,hft,hfb,hK⟩:=h
 have hids:=Rk hev
 have hev':=bP (eu (dst:=o.dst) hft) (ew (dst:=o.dst) hfb) hev
 have hos:OSim cx γ (σ.add o.dst r).T (σ.add o.dst r).B w:=by
  refine hs.os.tables (fun t tk h1 h2=>?_) fun b vs h1 h2=>?_
  ·have h3:=hs.td t h1
   have h4:(look (addT σ.t r.t) t).join =some tk:=h2
   rw [QH] at h4
   ·exact h4
   ·intro z hz e
    grind [Gd]
  ·have h3:=hs.bd b h1
   have h4:(look (addB σ.b r.b) b).join =some vs:=h2
   rw [QI] at h4
   ·exact h4
   ·intro z hz e
    grind [Fr]
 refine UH hev' hop hos (fun x hx=>⟨?_,fun hl=>?_⟩) (fun x hx=>⟨?_,fun hl=>?_⟩) fun v w' γ' he ht hb ho hv=>hk _ _ _ hK ⟨γ',hs.add hd hft hfb he ht hb ho hv⟩
 ·show (look (addT σ.t r.t) x.1).join =_
  rw [M9 _ _ hids.1 x hx]; rfl
 ·have h1:=hs.td _ hl
  rw [Gd hft x hx] at h1; cases h1
 ·show (look (addB σ.b r.b) x.1).join =_
  rw [NA _ _ hids.2 x hx]; rfl
 ·have h1:=hs.bd _ hl
  rw [Fr hfb x hx] at h1; cases h1
theorem YZ {γ:Gh} {σ:St} {a:Act} {w:World} {pos:Nat} {o:Oper} {K:St→Prop} {next:Act→World→Prop} {Q:Exit→Act→World→Prop} (hs:Sim cx N γ σ a w) (hok:E9 N o=true) (h:aop cx.P pos o σ K)
  (hk:∀σ' a' w',K σ'→SimE cx N σ' a' w'→next a' w'):o.wp cx.P a w next Q:=by
 have hd:=Fs hok
 have hop:=Bz (γ:=γ) (s:=σ.g) (e:=σ.e) (a:=a) hok (fun x _=>St.e_eq σ x) (fun t _=>hs.sl t)
 have done:∀ (σ':St) (γ':Gh) (w':World) (av:AV) (v:Value),Out cx γ σ γ' σ' w'→VSim γ'.vw γ' av v→SimE cx N (σ'.put o.dst av) (a.put o.dst v) w':=fun σ' γ' w' av v ho hv=>by
  have hT:(σ'.put o.dst av).T =σ'.T:=by cases o.dst <;> rfl
  have hB:(σ'.put o.dst av).B =σ'.B:=by cases o.dst <;> rfl
  have ht:(σ'.put o.dst av).t =σ'.t:=by cases o.dst <;> rfl
  have hb:(σ'.put o.dst av).b =σ'.b:=by cases o.dst <;> rfl
  have hg:∀i,σ'.g i=σ.g i:=fun i=>by unfold St.g; rw [ho.s]
  refine⟨γ',by rw [hT,hB]; exact ho.os,fun i=>?_,fun t h=>?_,fun b h=>?_,by rw [Ij]; exact hs.df,by rw [LU]; exact hs.n⟩
  ·rw [St.g_put,hg]; exact LS ho.ext hs.n hs.sl hd hv i
  ·rw [ht]
   rcases ho.td t h with h|h
   ·exact ho.tm t (hs.td t h)
   omega
  ·rw [hb]
   rcases ho.bd b h with h|h
   ·exact ho.bm b (hs.bd b h)
   omega
 unfold aop at h
 split at h
 ·rename_i t x yt hop'
  rw [hop'] at hop
  obtain⟨⟨e,he⟩,hn,h⟩:=h
  obtain⟨b,hb,hr⟩:=YY (ox:=x) (oy:=.const (.slice none 0 0)) hs.os he (hop x (by simp [Op.operands])) hn
  refine L2 (v:=.bool b) (w':=w) ?_ (hk _ _ _ (h b hb) (done σ γ w (.bool b) (.bool b) ⟨Gh.Ext.refl γ,hs.os,rfl,fun x h=>.inl h,fun x h=>.inl h,fun x h=>h,fun x h=>h⟩ (by rfl)))
  have e1:a.eval (.const (.slice none 0 0))= .slice none 0 0:=rfl
  simp_all [execOp]
 ·rename_i t x yt hop'
  rw [hop'] at hop
  obtain⟨⟨e,he⟩,hn,h⟩:=h
  obtain⟨b,hb,hr⟩:=YY (ox:=x) (oy:=.const (.slice none 0 0)) hs.os he (hop x (by simp [Op.operands])) hn
  refine L2 (v:=.bool !b) (w':=w) ?_ (hk _ _ _ (h b hb) (done σ γ w (.bool !b) (.bool !b) ⟨Gh.Ext.refl γ,hs.os,rfl,fun x h=>.inl h,fun x h=>.inl h,fun x h=>h,fun x h=>h⟩ (by rfl)))
  have e1:a.eval (.const (.slice none 0 0))= .slice none 0 0:=rfl
  simp_all [execOp]
 ·rename_i t x y hop'
  rw [hop'] at hop
  obtain⟨w',γ',σ',hr,hK,ho⟩:=YT hs.os (hop x (by simp [Op.operands])) (hop y (by simp [Op.operands])) h
  have hrun:(execOp a.eval o).run cx.P w= .ok .skip w':=by simp_all [execOp]
  unfold Oper.wp
  rw [hrun]
  exact hk _ _ _ hK (done σ' γ' w' .any undef ho trivial)
 ·rename_i t m i x hop'
  rw [hop'] at hop
  obtain⟨w',γ',σ',hr,hK,ho⟩:=Re hs.os (hop m (by simp [Op.operands])) (hop i (by simp [Op.operands])) (hop x (by simp [Op.operands])) h
  have hrun:(execOp a.eval o).run cx.P w= .ok .skip w':=by simp_all [execOp]
  unfold Oper.wp
  rw [hrun]
  exact hk _ _ _ hK (done σ' γ' w' .any undef ho trivial)
 ·rename_i t m i x hop'
  rw [hop'] at hop
  obtain⟨w',γ',σ',hr,hK,ho⟩:=Re hs.os (hop m (by simp [Op.operands])) (hop i (by simp [Op.operands])) (hop x (by simp [Op.operands])) h
  have hrun:(execOp a.eval o).run cx.P w= .ok .skip w':=by simp_all [execOp]
  unfold Oper.wp
  rw [hrun]
  exact hk _ _ _ hK (done σ' γ' w' .any undef ho trivial)
 ·rename_i args argTypes hop'
  split at h
  ·rename_i x y t t' hx ht
   obtain⟨rfl,h⟩:=h
   have ha:args= #[x,y] :=by grind
   have hat:argTypes= #[t',t'] :=by grind
   subst ha hat
   rw [hop'] at hop
   obtain⟨v',w',γ',σ',av,hr,hv,hK,ho⟩:=cr (ty:=o.type) hs.os hs.td (hop x (by simp [Op.operands,Call.operands])) (hop y (by simp [Op.operands,Call.operands])) h
   refine L2 (v:=v') (w':=w') ?_ (hk _ _ _ hK (done σ' γ' w' av v' ho hv))
   simp_all [execOp,resolve,invoke,builtin]
  grind
 ·exact US hs hok h hk
theorem Ya {γ:Gh} {σ:St} {a:Act} {w:World} {o:Oper} {K:St→Prop} {next:Act→World→Prop} {Q:Exit→Act→World→Prop} (hs:Sim cx N γ σ a w) (hok:E9 N o=true) (h:Og cx.P o σ K)
  (hk:∀σ' a' w',K σ'→SimE cx N σ' a' w'→next a' w'):o.wp cx.P a w next Q:=by
 have hd:=Fs hok
 have hop:=Bz (γ:=γ) (s:=σ.g) (e:=σ.e) (a:=a) hok (fun x _=>St.e_eq σ x) (fun t _=>hs.sl t)
 unfold Og at h
 split at h
 ·rename_i g args argTypes hop'
  rw [hop'] at hop
  have h1:=hop g (by simp [Op.operands,Call.operands])
  split at h
  ·rename_i f caps he
   rw [he] at h1
   simp only [VSim] at h1
   obtain⟨cv,h2,h3⟩:=h1
   obtain⟨ho,h⟩:=h
   obtain⟨hav,ws,cs,hfv,e1⟩:=a6 ho h2 h3 (AH.of_map (e:=σ.e) (ρ:=a.eval) (l:=args.toList) fun x hx=>hop x (by grind [Op.operands,Call.operands]))
   obtain⟨bs,h⟩:=h
   obtain⟨hb,hcalls⟩:=Sh hs.os hs.td hs.bd h hav
   unfold HD at hb
   cases hf:cx.P.funcs[f]? with
   |none=>grind
   | some fn=>
    simp only [hf,Option.any_some,Bool.and_eq_true,Bool.not_eq_true',beq_eq_false_iff_ne] at hb
    have hrun:(callFunc f (fnU cv (args.toList.map a.eval)).toArray).run cx.P w= .ok (.enter f (fnU cv (args.toList.map a.eval)).toArray) w:=by
     obtain⟨c,h1⟩:=Option.isSome_iff_exists.1 hb.1
     simp_all [callFunc]
    have hr:(execOp a.eval o).run cx.P w=(callFunc f (fnU cv (args.toList.map a.eval)).toArray).run cx.P w:=by
     have e2:(args.toList.map a.eval).toArray =args.map a.eval:=by grind
     rw [e1,e2]
     grind [execOp,resolve,Deferred.ofValue,invoke]
    unfold Oper.wp
    rw [hr,hrun]
    simp only [Oper.upon]
    refine hcalls.mono ?_
    rintro e w' ⟨v,γ',σ',r,rfl,hK,hv,hext,hos,hss,htd,hbd⟩
    simp only
    have hT:(σ'.put o.dst r).T =σ'.T:=by cases o.dst <;> rfl
    have hB:(σ'.put o.dst r).B =σ'.B:=by cases o.dst <;> rfl
    have ht:(σ'.put o.dst r).t =σ'.t:=by cases o.dst <;> rfl
    have hb':(σ'.put o.dst r).b =σ'.b:=by cases o.dst <;> rfl
    have hg:∀i,σ'.g i=σ.g i:=fun i=>by unfold St.g; rw [hss]
    refine hk _ _ _ hK ⟨γ',by rw [hT,hB]; omega,fun i=>?_,fun t h=>by rw [ht]; grind,fun b h=>by rw [hb']; grind,by rw [Ij]; exact hs.df,by rw [LU]; exact hs.n⟩
    rw [St.g_put,hg]; exact LS hext hs.n hs.sl hd hv i
  grind
 grind
theorem OwnR.of_append {V w} {cs} {sz}:∀ {xs ys} {o} {fp},OwnR V w cs sz o (xs++ys) fp→∃f1 f2,OwnR V w cs sz o xs f1∧OwnR V w cs sz (o+xs.length*sz) ys f2∧fp=f1++f2
 | [],ys,o,fp,h=>⟨[],fp,by rfl,by grind,rfl⟩
 |x::xs,ys,o,fp,h=>by
  simp only [List.cons_append,OwnR] at h
  obtain⟨f1,f2,h1,h2,h3,rfl⟩:=h
  obtain⟨g1,g2,k1,k2,rfl⟩:=OwnR.of_append h3
  refine⟨f1++g1,g2,?_,?_,by rw [List.append_assoc]⟩
  ·simp only [OwnR]; exact⟨f1,g1,h1,h2,k1,rfl⟩
  ·rw [List.length_cons,Nat.add_mul,Nat.one_mul,show o+(xs.length*sz+sz)=o+sz+xs.length*sz from by omega]; exact k2
theorem OwnR.cut {V w} {cs} {sz o i n} {rows} {fp} (h:OwnR V w cs sz o rows fp) (hi:i≤rows.length):∃f a b,OwnR V w cs sz (o+i*sz) ((rows.drop i).take n) f∧fp=a++f++b:=by
 rw [← List.take_append_drop i rows] at h
 obtain⟨f1,f2,-,h2,rfl⟩:=OwnR.of_append h
 rw [List.length_take,Nat.min_eq_left hi,← List.take_append_drop n (rows.drop i)] at h2
 grind [OwnR.of_append]
theorem Z3 {γ:Gh} {σ:St} {a:Act} {w:World} {pos:Nat} {o:Oper} {K:St→Prop} {next:Act→World→Prop} {Q:Exit→Act→World→Prop} (hs:Sim cx N γ σ a w) (hok:E9 N o=true) (h:VP cx.P pos o σ K)
  (hk:∀σ' a' w',K σ'→SimE cx N σ' a' w'→next a' w'):o.wp cx.P a w next Q:=by
 have hd:=Fs hok
 have hop:=Bz (γ:=γ) (s:=σ.g) (e:=σ.e) (a:=a) hok (fun x _=>St.e_eq σ x) (fun t _=>hs.sl t)
 unfold VP at h
 split at h
 ·rename_i t x l h' hop'
  rw [hop'] at hop
  split at h
  ·rename_i n he
   obtain⟨tk,hT,el,hu,⟨hsz,hrl⟩,i,hi,j,hj,r,hr,hlook,hK⟩:=h
   have hx:=hop x (by simp [Op.operands])
   rw [he] at hx
   simp only [VSim] at hx
   obtain⟨⟨htl,-⟩,hx⟩:=hx
   have hbl:(l.map a.eval=none∧i=0)∨∃k,l.map a.eval=some (.int k i):=Hk (w0:=γ.vw) (γ:=γ) (a:=l.map σ.e) (v:=l.map a.eval) (fun y hy=>by
    cases l with
    |none=>cases hy
    |some l=>grind [Op.operands]) (fun hy=>by simp_all) hi
   have hbh:(h'.map a.eval=none∧j=tk.rows.length)∨∃k,h'.map a.eval=some (.int k j):=Hk (w0:=γ.vw) (γ:=γ) (a:=h'.map σ.e) (v:=h'.map a.eval) (fun y hy=>by
    cases h' with
    |none=>cases hy
    |some l=>grind [Op.operands]) (fun hy=>by simp_all) hj
   unfold cR at hr
   by_cases h0:0≤i∧i≤j∧j≤tk.rows.length
   case neg=>rw [if_neg h0] at hr; cases hr
   rw [if_pos h0] at hr
   cases hr
   have hown:=(hs.os.tok n tk htl hT).own
   have hsz':=DZ (P:=cx.P) (w:=w) hsz
   have hlen:((tk.rows.drop i.toNat).take (j - i).toNat).length =j.toNat - i.toNat:=by rw [List.length_take,List.length_drop]; omega
   have key:∃v' f,(execOp a.eval o).run cx.P w= .ok (.value v') w∧Own (tk.vw γ.vw) w (.sl ((tk.rows.drop i.toNat).take (j - i).toNat)) v' f∧f.Nodup∧∀g ∈ f,g ∈ γ.tf n:=by
    have run:∀ (ad:Option Addr) (c:Nat),γ.tv n= .slice ad tk.rows.length c→tk.rows.length≤c→(execOp a.eval o).run cx.P w= .ok (.value (.slice (if c=i.toNat then ad else ad.map (·.add (i.toNat*tsz cx.P el))) (j.toNat - i.toNat) (c - i.toNat))) w:=fun ad c hv hc=>by
     have hb:=L5 (P:=cx.P) (w:=w) (b:=true) hbl hbh hc h0
     rw [← hx] at hv
     simp only [execOp,hop',hv,Sem.run_bind]
     simp [Instr.sliceAt,Instr.slice,run_underlying (I3 hu),hb,hsz']
    have hnd:=hs.os.tnd n tk htl hT
    simp only [Own] at hown
    by_cases he0:j.toNat - i.toNat=0
    ·have hnil:(tk.rows.drop i.toNat).take (j - i).toNat =[] :=List.eq_nil_of_length_eq_zero (by rw [hlen]; omega)
     have:∃ad c,γ.tv n= .slice ad tk.rows.length c∧tk.rows.length≤c∧c≤maxLen:=by
      grind
     obtain⟨ad,c,h1,h2,h3⟩:=this
     refine⟨_,[],run ad c h1 h2,?_,List.nodup_nil,by simp⟩
     grind [Own]
    ·rcases hown with ⟨h1,-,-⟩|⟨sz,g,o1,c,e,cs,fps,h1,h2,h3,hb,h4,hR,hfp⟩
     ·rw [h1] at h0; grind
     ·have h5:0<tk.rows.length:=by omega
      have hsz2:sz=tsz cx.P el:=by
       obtain⟨_,_,_,_,h6,-⟩:=hR.split 0 h5
       grind
      subst hsz2
      have hci:i.toNat≤c:=by omega
      obtain⟨f,fa,fb,k1,k2⟩:=OwnR.cut (i:=i.toNat) (n:=(j - i).toNat) hR (by omega)
      have hmul:i.toNat*tsz cx.P el+(c - i.toNat)*tsz cx.P el=c*tsz cx.P el:=by rw [← Nat.add_mul]; grind
      refine⟨_,g::f,run _ c h1 h2,?_,?_,fun g' hg'=>?_⟩
      ·simp only [Own]
       refine .inr ⟨tsz cx.P el,g,o1+i.toNat*tsz cx.P el,c - i.toNat,e,cs,f,?_,by rw [hlen]; omega,by omega,hb,by omega,k1,rfl⟩
       rw [if_neg (by omega),hlen]
       simp [Addr.add]
      ·rw [hfp,k2] at hnd
       grind
      grind
   obtain⟨v',f,hrun,hown',hnd',hin⟩:=key
   have hntl:¬γ.tl (pos*16):=fun htl=>by
    have h1:=hs.td _ htl
    rw [hlook] at h1; cases h1
   have hne:pos*16≠n:=fun e=>by rw [e] at hntl; grind
   have hs1:=hs.os.kill n
   have hTn:tset σ.T n none (pos*16)=none:=by
    grind [tset,St.T]
   have hfree:=hs.os.freed htl hT
   have htok:Aj γ.vw w ⟨(tk.rows.drop i.toNat).take (j - i).toNat,none,0,tk.z⟩ v' f:=hown'
   have hfin:=hs1.putTok (tk:=⟨(tk.rows.drop i.toNat).take (j - i).toNat,none,0,tk.z⟩) hTn (fun h=>absurd h hntl) htok hnd' (fun g hg=>hfree g (hin g hg)) (fun h=>absurd h hntl) (fun h=>absurd h hntl)
   have hext:Gh.Ext γ (γ.tok w (pos*16) v' f 0):=Gh.tok_ext fun h=>absurd h hntl
   refine L2 (v:=v') (w':=w) hrun (hk _ _ _ hK ⟨γ.tok w (pos*16) v' f 0,?_,fun x=>?_,fun z hz=>?_,fun z hz=>?_,by rw [Ij]; exact hs.df,by rw [LU]; exact hs.n⟩)
   ·refine hfin.tables (fun z tz' _ hz=>?_) fun b vs _ hb=>?_
    ·have e1:(St.put ⟨σ.s,(pos*16,some ⟨(tk.rows.drop i.toNat).take (j - i).toNat,none,0,tk.z⟩)::(n,none)::σ.t,σ.b⟩ o.dst (.own (pos*16))).T z=(look ((pos*16,some ⟨(tk.rows.drop i.toNat).take (j - i).toNat,none,0,tk.z⟩)::(n,none)::σ.t) z).join :=by cases o.dst <;> rfl
     rw [e1] at hz
     simp only [AI] at hz
     split at hz
     ·grind
     ·rename_i e
      rw [if_neg e]
      unfold tset
      split at hz
      ·cases hz
      ·rename_i e2; rw [if_neg e2]; exact hz
    ·have e1:(St.put ⟨σ.s,(pos*16,some ⟨(tk.rows.drop i.toNat).take (j - i).toNat,none,0,tk.z⟩)::(n,none)::σ.t,σ.b⟩ o.dst (.own (pos*16))).B b=σ.B b:=by cases o.dst <;> rfl
     rw [e1] at hb; exact hb
   ·rw [St.g_put]
    have hrep:=htok.rep hs1.vw.k
    simp only [Rep] at hrep
    obtain⟨a',c',hv',-⟩:=hrep
    refine LS hext hs.n hs.sl hd (av:=.own (pos*16)) ?_ x
    simp only [VSim]
    have e1:(γ.tok w (pos*16) v' f 0).tv (pos*16)=v':=by show (if pos*16=pos*16 then _ else _)=_; rw [if_pos rfl]
    rw [e1]
    exact⟨⟨.inr rfl,a',_,c',hv'⟩,rfl⟩
   ·have e1:(St.put ⟨σ.s,(pos*16,some ⟨(tk.rows.drop i.toNat).take (j - i).toNat,none,0,tk.z⟩)::(n,none)::σ.t,σ.b⟩ o.dst (.own (pos*16))).t =(pos*16,some ⟨(tk.rows.drop i.toNat).take (j - i).toNat,none,0,tk.z⟩)::(n,none)::σ.t:=by cases o.dst <;> rfl
    rw [e1]
    simp only [AI]
    split
    ·rfl
    ·split
     ·rfl
     ·rename_i e2 _
      rcases hz with hz|hz
      ·exact hs.td z hz
      omega
   ·have e1:(St.put ⟨σ.s,(pos*16,some ⟨(tk.rows.drop i.toNat).take (j - i).toNat,none,0,tk.z⟩)::(n,none)::σ.t,σ.b⟩ o.dst (.own (pos*16))).b =σ.b:=by cases o.dst <;> rfl
    rw [e1]; exact hs.bd z hz
  grind
 grind
theorem UT {γ} {σ} {a} {w} (hs:Sim cx N γ σ a w) {ops} {j s} {b} (hj:Ja ops j=some s) (hb:σ.g s= .bool b):yielded ops a.tmps j=some b:=by
 have h1:=hs.sl s
 rw [hb] at h1
 simp only [VSim] at h1
 unfold Ja at hj
 unfold yielded
 rw [hj]
 simp only [Option.bind_some]
 rw [Array.getD_eq_getD_getElem?] at h1
 grind [undef]
theorem UU {γ} {σ} {a} {w} (hs:Sim cx N γ σ a w) {ops} {j s} (hj:Ja ops j=some s) (hb:σ.g s= .tup []):yielded ops a.tmps j=none:=by
 have h1:=hs.sl s
 rw [hb] at h1
 simp only [VSim,AH] at h1
 obtain⟨us,h1,rfl⟩:=h1
 unfold Ja at hj
 unfold yielded
 rw [hj]
 simp only [Option.bind_some]
 rw [Array.getD_eq_getD_getElem?] at h1
 grind
theorem UV {w0} {γ}:VSim w0 γ (.tup []) undef:=by simp only [VSim,AH]; exact⟨[],rfl,rfl⟩
theorem Sim.putU {γ:Gh} {σ:St} {a:Act} {w:World} (hs:Sim cx N γ σ a w) {dst:Option Tmp} (hd:∀d,dst=some d→d<N):Sim cx N γ (σ.put dst (.tup [])) (a.put dst undef) w:=by
 refine⟨?_,fun i=>?_,?_,?_,by rw [Ij]; exact hs.df,by rw [LU]; exact hs.n⟩
 ·have hT:(σ.put dst (.tup [])).T =σ.T:=by cases dst <;> rfl
  have hB:(σ.put dst (.tup [])).B =σ.B:=by cases dst <;> rfl
  rw [hT,hB]; exact hs.os
 ·rw [St.g_put]
  exact LS (Gh.Ext.refl γ) hs.n hs.sl hd (av:=.tup []) UV i
 ·have ht:(σ.put dst (.tup [])).t =σ.t:=by cases dst <;> rfl
  rw [ht]; exact hs.td
 ·have ht:(σ.put dst (.tup [])).b =σ.b:=by cases dst <;> rfl
  rw [ht]; exact hs.bd
end
end Go.Proofs.YtclmbjbbojdojaaGreat.Ab
