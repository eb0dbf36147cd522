/-
  The abstract walk, thirteenth part: operations one after another.
-/
import Derived.Test.YtnfgeocnolheoaaGreatAbLa
import Derived.Tactics
namespace Go.Proofs.YtnfgeocnolheoaaGreat.Ab
set_option linter.unusedVariables false
set_option maxHeartbeats 1000000
set_option linter.unusedSimpArgs false
open Go.RowKit
mutual
def Ka:Value→Bool
 | .int k n=>(Lit.int k n).wf
 | .string s=>decide (s.size≤maxLen)
 | .agg cs=>M5 cs.toList
 |_=>true
def M5:List Value→Bool
 | [] =>true
 |v::vs=>Ka v&&M5 vs
end
mutual
theorem Nd {w0} {γ}:∀ (v:Value),Ka v=true→VSim w0 γ (Bf v) v
 | .int k n,h=>by grind [Ka,Bf,De]
 | .bool b,h=>by rfl
 | .string s,h=>by grind [Ka,Bf,Ul]
 | .agg cs,h=>by
  simp only [Ka] at h
  simp only [Bf,VSim]
  exact⟨cs.toList,by simp,MK cs.toList h⟩
 | .slice none 0 0,h=>by rfl
 | .slice none 0 (c+1),h=>by simp only [Bf]; trivial
 | .slice none (n+1) c,h=>by simp only [Bf]; trivial
 | .slice (some a) n c,h=>by simp only [Bf]; trivial
 | .pointer none,h=>by rfl
 | .pointer (some a),h=>by simp only [Bf]; trivial
 | .float _ _,h=>by simp only [Bf]; trivial
 | .complex _ _ _,h=>by simp only [Bf]; trivial
 | .map _,h=>by simp only [Bf]; trivial
 | .chan _,h=>by simp only [Bf]; trivial
 | .func _ _ _,h=>by simp only [Bf]; trivial
 | .nilFunc,h=>by simp only [Bf]; trivial
 | .iface _ _,h=>by simp only [Bf]; trivial
 | .nilIface,h=>by simp only [Bf]; trivial
 | .tuple _,h=>by simp only [Bf]; trivial
theorem MK {w0} {γ}:∀ (vs:List Value),M5 vs=true→AI w0 γ (II vs) vs
 | [],h=>by rfl
 |v::vs,h=>by
  simp only [M5,Bool.and_eq_true] at h
  simp only [II,AI]
  exact⟨v,vs,rfl,Nd v h.1,MK vs h.2⟩
end
def El (N:Nat) (o:Oper):Bool:=(o.op.operands.toList.all fun| .const v=>Ka v|_=>true)&&(match o.dst with|some d=>decide (d<N)|none=>true)
structure Sim (cx:Cx) (N:Nat) (γ:Gh) (σ:St) (a:Act) (w:World):Prop where
 os:OSim cx γ σ.T σ.B w
 sl:∀i,VSim γ.vw γ (σ.g i) (a.tmps.getD i undef)
 td:∀t,γ.tl t→(look σ.t t).isSome =true
 bd:∀b,γ.bl b→(look σ.b b).isSome =true
 df:a.defers=[]
 n:a.tmps.size=N
def SimE (cx:Cx) (N:Nat) (σ:St) (a:Act) (w:World):Prop:=∃γ,Sim cx N γ σ a w
theorem St.g_put (σ:St) (dst:Option Tmp) (v:AV) (i:Nat):(σ.put dst v).g i=if dst=some i then v else σ.g i:=by
 unfold St.g St.put
 grind [AJ]
theorem Us (a:Act) (dst:Option Tmp) (v:Value) (i:Nat) (h:∀d,dst=some d→d<a.tmps.size):(a.put dst v).tmps.getD i undef=if dst=some i then v else a.tmps.getD i undef:=by
 cases dst with
 |none=>rfl
 |some d=>
  have hd:=h d rfl
  simp only [Act.put,Option.some.injEq]
  by_cases e:d=i
  ·simp_all
  simp_all
section
variable {cx:Cx} {N:Nat} {w:World} {P:Program}
theorem FD {o} (h:El N o=true):∀d,o.dst=some d→d<N:=fun d hd=>by
 grind [El]
theorem Kb {γ γ':Gh} {s:Nat→AV} {a:Act} (he:Gh.Ext γ γ') (hn:a.tmps.size=N) (hs:∀i,VSim γ.vw γ (s i) (a.tmps.getD i undef)) {dst:Option Tmp} (hd:∀d,dst=some d→d<N) {av:AV} {v:Value} (hv:VSim γ'.vw γ' av v):
  ∀i,VSim γ'.vw γ' (if dst=some i then av else s i) ((a.put dst v).tmps.getD i undef):=fun i=>by
 rw [Us a dst v i (by rw [hn]; exact hd)]
 split
 ·exact hv
 ·exact VSim.mono he.vw he (hs i)
theorem Kc (a:Act) (dst:Option Tmp) (v:Value):(a.put dst v).tmps.size =a.tmps.size:=by cases dst <;> simp [Act.put]
theorem Ht (a:Act) (dst:Option Tmp) (v:Value):(a.put dst v).defers =a.defers:=by cases dst <;> rfl
theorem CM {γ:Gh} {s:Nat→AV} {e:Operand→AV} {a:Act} {o:Oper} (hok:El N o=true) (he:∀x ∈ o.op.operands,e x=match x with| .tmp t=>s t| .const v=>Bf v| .func f=>.fn f [] | .global _=>.any)
  (hs:∀t,.tmp t ∈ o.op.operands→VSim γ.vw γ (s t) (a.tmps.getD t undef)):∀x ∈ o.op.operands,VSim γ.vw γ (e x) (a.eval x):=fun x hx=>by
 rw [he x hx]
 unfold El at hok
 rw [Bool.and_eq_true] at hok
 have h1:=hok.1
 rw [List.all_eq_true] at h1
 have h2:=h1 x (Array.mem_toList_iff.2 hx)
 cases x with
 |tmp t=>exact hs t hx
 |const v=>exact Nd v h2
 |global g=>trivial
 |func f=>simp only [VSim]; exact⟨[],.inl ⟨rfl,rfl⟩,by rfl⟩
theorem St.e_eq (σ:St) (x:Operand):σ.e x=match x with| .tmp t=>σ.g t| .const v=>Bf v| .func f=>.fn f [] | .global _=>.any :=by cases x <;> rfl
theorem T9:∀ (l:List (Nat × Tok)) (σ:List (Nat × Option Tok)) (x:Nat),(look σ x).isSome =true∨(∃y ∈ l,y.1 =x)→(look (addT σ l) x).isSome =true
 | [],σ,x,h=>by
  rcases h with h|⟨y,hy,-⟩
  ·exact h
  grind
 | (n,tk)::l,σ,x,h=>by
  simp only [addT,AJ]
  split
  ·rfl
  ·rename_i hne
   refine T9 l σ x ?_
   rcases h with h|⟨y,hy,hyx⟩
   ·exact .inl h
   ·rcases List.mem_cons.1 hy with rfl|hy
    ·exact absurd hyx.symm hne
    ·exact .inr ⟨y,hy,hyx⟩
theorem UA:∀ (l:List (Nat × List AV)) (σ:List (Nat × Option (List AV))) (x:Nat),(look σ x).isSome =true∨(∃y ∈ l,y.1 =x)→(look (addB σ l) x).isSome =true
 | [],σ,x,h=>by
  rcases h with h|⟨y,hy,-⟩
  ·exact h
  grind
 | (n,tk)::l,σ,x,h=>by
  simp only [addB,AJ]
  split
  ·rfl
  ·rename_i hne
   refine UA l σ x ?_
   rcases h with h|⟨y,hy,hyx⟩
   ·exact .inl h
   ·rcases List.mem_cons.1 hy with rfl|hy
    ·exact absurd hyx.symm hne
    ·exact .inr ⟨y,hy,hyx⟩
theorem Om:∀ (l:List (Nat × Tok)) (σ:List (Nat × Option Tok)) (x:Nat),(∀y ∈ l,y.1 ≠x)→look (addT σ l) x=look σ x
 | [],_,_,_=>rfl
 |(n,tk)::l,σ,x,h=>by
  simp only [addT,AJ]
  rw [if_neg (fun e=>h (n,tk) (by simp) e.symm),Om l σ x fun y hy=>h y (by grind)]
theorem On:∀ (l:List (Nat × List AV)) (σ:List (Nat × Option (List AV))) (x:Nat),(∀y ∈ l,y.1 ≠x)→look (addB σ l) x=look σ x
 | [],_,_,_=>rfl
 |(n,tk)::l,σ,x,h=>by
  simp only [addB,AJ]
  rw [if_neg (fun e=>h (n,tk) (by simp) e.symm),On l σ x fun y hy=>h y (by grind)]
theorem ML:∀ (l:List (Nat × Tok)) (σ:List (Nat × Option Tok)),(l.map (·.1)).Nodup →∀y ∈ l,look (addT σ l) y.1 =some (some y.2)
 | [],_,_,y,hy=>by cases hy
 | (n,tk)::l,σ,hn,y,hy=>by
  simp only [List.map_cons,List.nodup_cons] at hn
  simp only [addT,AJ]
  rcases List.mem_cons.1 hy with rfl|hy
  ·rw [if_pos rfl]
  ·rw [if_neg (fun e:y.1 =n=>hn.1 (by rw [← e]; exact List.mem_map.2 ⟨y,hy,rfl⟩))]
   exact ML l σ hn.2 y hy
theorem MM:∀ (l:List (Nat × List AV)) (σ:List (Nat × Option (List AV))),(l.map (·.1)).Nodup →∀y ∈ l,look (addB σ l) y.1 =some (some y.2)
 | [],_,_,y,hy=>by cases hy
 | (n,tk)::l,σ,hn,y,hy=>by
  simp only [List.map_cons,List.nodup_cons] at hn
  simp only [addB,AJ]
  rcases List.mem_cons.1 hy with rfl|hy
  ·rw [if_pos rfl]
  ·rw [if_neg (fun e:y.1 =n=>hn.1 (by rw [← e]; exact List.mem_map.2 ⟨y,hy,rfl⟩))]
   exact MM l σ hn.2 y hy
theorem Fo {σ}:∀ {l},Dd σ l→∀y ∈ l,look σ.t y.1 =none
 | [],_,y,hy=>by cases hy
 |(n,tk)::l,h,y,hy=>by
  simp only [Dd] at h
  rcases List.mem_cons.1 hy with rfl|hy
  ·exact h.1
  ·exact Fo h.2 y hy
theorem E4 {σ}:∀ {l},Ej σ l→∀y ∈ l,look σ.b y.1 =none
 | [],_,y,hy=>by cases hy
 |(n,tk)::l,h,y,hy=>by
  simp only [Ej] at h
  rcases List.mem_cons.1 hy with rfl|hy
  ·exact h.1
  ·exact E4 h.2 y hy
def Le {α:Type} (T T':Nat→Option α):Prop:=∀x y,T x=some y→T' x=some y
theorem M6 {T T'} (h:Le T T') {t g} {p} {r} (hs:subR T t g p=some r):subR T' t g p=some r:=by
 unfold subR at hs ⊢
 cases hT:T t with
 |none=>rw [hT] at hs; cases hs
 |some tk=>rw [h t tk hT]; rw [hT] at hs; exact hs
theorem bn {T T'} (h:Le T T') {a} {d} (hd:toD T a=some d):toD T' a=some d:=by
 cases a with
 |own t=>
  simp only [toD] at hd ⊢
  cases hT:T t with
  |none=>grind
  |some tk=>rw [h t tk hT]; grind
 |_=>first|exact hd|(simp [toD] at hd)
theorem P1 {T T'} (h:Le T T'):∀ {as} {ds},toDs T as=some ds→toDs T' as=some ds
 | [],ds,hd=>by grind [toDs]
 | a::as,ds,hd=>by
  simp only [toDs] at hd ⊢
  cases ha:toD T a with
  |none=>simp [ha] at hd
  | some d=>
   cases has:toDs T as with
   |none=>simp [ha,has] at hd
   |some ds'=>
    rw [bn h ha,P1 h has]
    simpa [ha,has] using hd
theorem UB {T T'} (h:Le T T') {t g} {p} {r} (hx:subE T t g p=some r):subE T' t g p=some r:=by
 unfold subE at hx ⊢
 cases hT:T t with
 |none=>rw [hT] at hx; cases hx
 |some tk=>rw [h t tk hT]; rw [hT] at hx; exact hx
theorem bp {T T'} {B B'} (h:Le T T') (hb:Le B B') {a} {d} (hd:toA T B a=some d):toA T' B' a=some d:=by
 cases a with
 |own t=>
  simp only [toA] at hd ⊢
  cases hT:T t with
  |none=>grind
  |some tk=>rw [h t tk hT]; grind
 |sub t g p=>
  simp only [toA] at hd ⊢
  cases hT:subE T t g p with
  |none=>grind
  |some r=>rw [UB h hT]; grind
 | bsl b n sz=>
  simp only [toA] at hd ⊢
  cases hB:B b with
  |none=>grind
  |some vs=>
   cases hd':toDs T vs with
   |none=>grind
   |some ds=>rw [hb b vs hB]; grind [P1]
 |_=>first|exact hd|(simp [toA] at hd)
theorem UC {T T'} {B B'} (h:Le T T') (hb:Le B B'):∀ {as} {ds},toAs T B as=some ds→toAs T' B' as=some ds
 | [],ds,hd=>by grind [toAs]
 | a::as,ds,hd=>by
  simp only [toAs] at hd ⊢
  cases ha:toA T B a with
  |none=>simp [ha] at hd
  | some d=>
   cases has:toAs T B as with
   |none=>simp [ha,has] at hd
   |some ds'=>
    rw [bp h hb ha,UC h hb has]
    simpa [ha,has] using hd
mutual
theorem Yu {T T'} {B B'} (h:Le T T') (hb:Le B B'):∀ {a x},cl T B a=some x→cl T' B' a=some x
 | .int _ _,x,hx=>by grind [cl]
 | .bool _,x,hx=>by grind [cl]
 | .str _,x,hx=>by grind [cl]
 | .ro _,x,hx=>by grind [cl]
 | .nils,x,hx=>by grind [cl]
 | .nilp,x,hx=>by grind [cl]
 | .rop vs off,x,hx=>by
  simp only [cl] at hx ⊢
  cases hc:cls T B vs with
  |none=>grind
  |some xs=>rw [MN h hb hc]; grind
 | .own t,x,hx=>by
  simp only [cl] at hx ⊢
  cases hT:T t with
  |none=>grind
  |some tk=>rw [h t tk hT]; grind
 | .box b off,x,hx=>by
  simp only [cl] at hx ⊢
  cases hB:B b with
  |none=>grind
  |some vs=>
   cases hd:toAs T B vs with
   |none=>grind
   |some ds=>rw [hb b vs hB]; grind [UC]
 | .bsl b n sz,x,hx=>by
  simp only [cl] at hx ⊢
  cases hB:B b with
  |none=>grind
  |some vs=>
   cases hd:toDs T vs with
   |none=>grind
   |some ds=>rw [hb b vs hB]; grind [P1]
 | .elt t sz i off,x,hx=>by
  simp only [cl] at hx ⊢
  cases hT:T t with
  |none=>grind
  |some tk=>rw [h t tk hT]; grind
 | .agg vs,x,hx=>by
  simp only [cl] at hx ⊢
  cases hc:cls T B vs with
  |none=>grind
  |some xs=>rw [MN h hb hc]; grind
 | .fn f vs,x,hx=>by
  simp only [cl] at hx ⊢
  cases hc:cls T B vs with
  |none=>grind
  |some xs=>rw [MN h hb hc]; grind
 | .par t sz i n,x,hx=>by
  simp only [cl] at hx ⊢
  cases hT:T t with
  |none=>grind
  |some tk=>rw [h t tk hT]; grind
 | .sub t g p,x,hx=>by
  simp only [cl] at hx ⊢
  cases hT:subE T t g p with
  |none=>grind
  |some r=>rw [UB h hT]; grind
 | .els t g p sz i off,x,hx=>by
  grind [cl,M6]
 | .mpr _,x,hx=>by grind [cl]
 | .mpc _ _,x,hx=>by grind [cl]
 | .tup _,x,hx=>by simp [cl] at hx
 | .any,x,hx=>by simp [cl] at hx
theorem MN {T T'} {B B'} (h:Le T T') (hb:Le B B'):∀ {as xs},cls T B as=some xs→cls T' B' as=some xs
 | [],xs,hx=>by grind [cls]
 | a::as,xs,hx=>by
  simp only [cls] at hx ⊢
  cases ha:cl T B a with
  |none=>simp [ha] at hx
  |some y=>
   cases has:cls T B as with
   |none=>simp [ha,has] at hx
   |some ys=>rw [Yu h hb ha,MN h hb has]; simpa [ha,has] using hx
end
theorem Xg {T T'} {B B'} (h:Le T T') (hb:Le B B') {t} {a v} (hl:JL P T B t a v):JL P T' B' t a v:=by
 unfold JL at*
 split at hl
 ·obtain⟨vs,h1,h2⟩:=hl; exact⟨vs,hb _ _ h1,h2⟩
 ·exact hl
 ·obtain⟨tk,row,h1,h2⟩:=hl; exact⟨tk,row,h _ _ h1,h2⟩
 ·grind [M6]
 omega
theorem Zt {T T'} (h:Le T T') {t} {x i v} (hl:Rg P T t x i v):Rg P T' t x i v:=by
 unfold Rg at*
 split at hl
 ·exact hl
 ·obtain⟨h0,tk,row,h1,h2⟩:=hl; exact⟨h0,tk,row,h _ _ h1,h2⟩
 ·grind [M6]
 omega
theorem Zu {T T'} {B B'} (h:Le T T') (hb:Le B B') {t} {x v} (hl:Nv P T B t x v):Nv P T' B' t x v:=by
 unfold Nv at*
 split at hl
 ·exact hl
 ·exact hl
 ·exact hl
 ·exact hl
 ·obtain⟨tk,h1,h2⟩:=hl; exact⟨tk,h _ _ h1,h2⟩
 ·grind [M6]
 ·obtain⟨q,rows,h1,h2⟩:=hl; exact⟨q,rows,hb _ _ h1,h2⟩
 omega
theorem Xh {B B'} (hb:Le B B') {t} {x i v} {ok} (hl:Qc P B t x i ok v):Qc P B' t x i ok v:=by
 unfold Qc at*
 split at hl
 ·obtain⟨q,rows,h1,h2⟩:=hl; exact⟨q,rows,hb _ _ h1,h2⟩
 omega
theorem Xi {T T'} {B B'} (h:Le T T') (hb:Le B B') {pos} {g} {args} {r} (hl:Ri P T B pos g args r):Ri P T' B' pos g args r:=by
 unfold Ri at*
 grind [MN]
theorem Zv {T T'} (h:Le T T') {t} {x v} {l h'} (hl:TS P T t x l h' v):TS P T' t x l h' v:=by
 unfold TS at*
 split at hl
 ·obtain⟨tk,h1,h2⟩:=hl; exact⟨tk,h _ _ h1,h2⟩
 omega
theorem Yv {T T'} {B B'} (h:Le T T') (hb:Le B B') {pos} {o} {e} {r} (hl:Ev P pos o e T B r):Ev P pos o e T' B' r:=by
 obtain⟨dst,op,ty,ps,after,guard⟩:=o
 unfold Ev at*
 dsimp only at*
 split at hl <;> try exact hl
 ·grind [Xg]
 ·grind [Yu]
 ·grind [Zt]
 ·grind [Zv]
 ·grind [Zu]
 ·grind [Xi]
 grind [Xh]
end
section
variable {cx:Cx} {N:Nat}
mutual
theorem WA:∀ (n:Nat) (r:RV),((conv n r).2.map (·.1))=List.range' n (conv n r).2.length
 |n,.int _ _=>rfl
 |n,.bool _=>rfl
 |n,.str _=>rfl
 |n,.ow _ _=>rfl
 |n,.ro _=>rfl
 |n,.nilp =>rfl
 |n,.agg vs=>by simp only [conv]; exact P2 n vs
 |n,.tup vs=>by simp only [conv]; exact P2 n vs
theorem P2:∀ (n:Nat) (rs:List RV),((HL n rs).2.map (·.1))=List.range' n (HL n rs).2.length
 |n,[] =>rfl
 |n,r::rs=>by
  simp only [HL,List.map_append,List.length_append,WA n r,P2 (n+(conv n r).2.length) rs]
  rw [List.range'_append_1]
end
theorem P3 {P} {pos} {o} {e} {T} {B} {r} (h:Ev P pos o e T B r):(r.t.map (·.1)).Nodup ∧(r.b.map (·.1)).Nodup :=by
 have nil:(([] :List (Nat × Tok)).map (·.1)).Nodup ∧(([] :List (Nat × List AV)).map (·.1)).Nodup :=⟨List.nodup_nil,List.nodup_nil⟩
 have one:∀ (b:Nat) (vs:List AV),(([] :List (Nat × Tok)).map (·.1)).Nodup ∧([(b,vs)].map (·.1)).Nodup :=fun b vs=>⟨List.nodup_nil,by simp⟩
 obtain⟨dst,op,ty,ps,after,guard⟩:=o
 unfold Ev at h
 dsimp only at h
 split at h
 ·grind
 ·grind
 ·grind
 ·grind
 ·grind
 ·grind
 ·grind
 ·grind
 ·grind
 ·grind
 ·grind
 ·grind
 ·grind
 ·grind
 ·grind
 ·grind
 ·grind
 ·grind
 ·grind
 ·unfold Ri at h
  split at h
  ·obtain⟨-,h⟩:=h
   rcases h with h|h
   ·grind [WA]
   ·obtain⟨_,_,_,_,_,_,h⟩:=h
    grind
  grind
 ·split at h
  ·obtain⟨_,_,h⟩:=h
   split at h
   ·obtain⟨_,z,h⟩:=h
    cases z
    ·obtain⟨_,_,rfl⟩:=h; grind
    ·obtain⟨_,_,rfl⟩:=h; grind
   grind
  grind
 ·split at h
  ·obtain⟨_,_,_,_,h⟩:=h
   grind
  grind
 ·grind
 ·grind
 ·split at h
  ·obtain⟨_,_,_,_,_,_,_,_,rfl⟩:=h; grind
  grind
 ·grind
 ·grind
 grind
theorem Sim.add {γ γ':Gh} {σ:St} {a:Act} {w w':World} {dst:Option Tmp} {r:Res} {v:Value} (hs:Sim cx N γ σ a w) (hd:∀d,dst=some d→d<N) (hf:Dd σ r.t) (hfb:Ej σ r.b)
  (he:Gh.Ext γ γ') (ht:∀t,γ'.tl t→γ.tl t∨∃x ∈ r.t,x.1 =t) (hb:∀b,γ'.bl b→γ.bl b∨∃x ∈ r.b,x.1 =b) (hos:OSim cx γ' (σ.add dst r).T (σ.add dst r).B w') (hv:VSim γ'.vw γ' r.v v):Sim cx N γ' (σ.add dst r) (a.put dst v) w':=by
 have hg:∀i,(σ.add dst r).g i=if dst=some i then r.v else σ.g i:=fun i=>by
  have:(σ.add dst r).g i=(σ.put dst r.v).g i:=rfl
  rw [this,St.g_put]
 refine⟨hos,fun i=>by rw [hg]; exact Kb he hs.n hs.sl hd hv i,fun t h=>?_,fun b h=>?_,by rw [Ht]; exact hs.df,by rw [Kc]; exact hs.n⟩
 ·refine T9 r.t σ.t t ?_
  rcases ht t h with h|h
  ·exact .inl (hs.td t h)
  grind
 ·refine UA r.b σ.b b ?_
  rcases hb b h with h|h
  ·exact .inl (hs.bd b h)
  grind
theorem bq {σ} {dst} {r} (hf:Dd σ r.t):Le σ.T (σ.add dst r).T :=fun x y h=>by
 show (look (addT σ.t r.t) x).join =some y
 rw [Om]
 ·exact h
 ·intro z hz e
  grind [Fo,St.T]
theorem bt {σ} {dst} {r} (hf:Ej σ r.b):Le σ.B (σ.add dst r).B :=fun x y h=>by
 show (look (addB σ.b r.b) x).join =some y
 rw [On]
 ·exact h
 ·intro z hz e
  grind [E4,St.B]
theorem WB {γ} {T} {B} {w} (hs:OSim cx γ T B w) {t e} {ox oy} {v} {u} (he:ti cx.P t= .sl e) (hv:VSim γ.vw γ v u) (hn:LE v=true):
  ∃b,ZU T v b∧(∀op,(eqGuard op t ox oy u (.slice none 0 0)).run cx.P w= .ok () w)∧(binOp .eql t u (.slice none 0 0)).run cx.P w= .ok (.bool b) w∧(binOp .neq t u (.slice none 0 0)).run cx.P w= .ok (.bool !b) w:=by
 have hu:=IK he
 have key:∀ (a:Option Addr) (n c:Nat),u= .slice a n c→(∀op,(eqGuard op t ox oy u (.slice none 0 0)).run cx.P w= .ok () w)∧(binOp .eql t u (.slice none 0 0)).run cx.P w= .ok (.bool a.isNone) w∧(binOp .neq t u (.slice none 0 0)).run cx.P w= .ok (.bool !a.isNone) w:=by
  rintro a n c rfl
  have h1:(Op.equal t (.slice a n c) (.slice none 0 0)).run cx.P w= .ok a.isNone w:=by
   show (Op.equalIn (9999+1) t _ _).run cx.P w=_
   rw [Op.equalIn]
   cases a <;> simp [run_underlying hu]
  simp_all [eqGuard,binOp]
 cases v with
 |nils=>
  simp only [VSim] at hv
  exact⟨true,rfl,key none 0 0 hv⟩
 |bsl b n sz=>
  simp only [VSim] at hv
  exact⟨false,rfl,key _ _ _ hv.2.2⟩
 |ro rows=>
  simp only [VSim,Rep] at hv
  obtain⟨a,c,rfl,-,-,hr⟩:=hv
  refine⟨a.isNone,fun hne=>?_,key a _ c rfl⟩
  grind
 |_=>simp [LE] at hn
theorem SF {γ:Gh} {σ:St} {a:Act} {w:World} {pos:Nat} {o:Oper} {K:St→Prop} {next:Act→World→Prop} {Q:Exit→Act→World→Prop} (hs:Sim cx N γ σ a w) (hok:El N o=true) (h:∃r,Ev cx.P pos o σ.e σ.T σ.B r∧Dd σ r.t∧Ej σ r.b∧K (σ.add o.dst r))
  (hk:∀σ' a' w',K σ'→SimE cx N σ' a' w'→next a' w'):o.wp cx.P a w next Q:=by
 have hd:=FD hok
 have hop:=CM (γ:=γ) (s:=σ.g) (e:=σ.e) (a:=a) hok (fun x _=>St.e_eq σ x) (fun t _=>hs.sl t)
 obtain⟨r,hev,hft,hfb,hK⟩:=h
 have hids:=P3 hev
 have hev':=Yv (bq (dst:=o.dst) hft) (bt (dst:=o.dst) hfb) hev
 have hos:OSim cx γ (σ.add o.dst r).T (σ.add o.dst r).B w:=by
  refine hs.os.tables (fun t tk h1 h2=>?_) fun b vs h1 h2=>?_
  ·have h3:=hs.td t h1
   have h4:(look (addT σ.t r.t) t).join =some tk:=h2
   rw [Om] at h4
   ·exact h4
   ·intro z hz e
    grind [Fo]
  ·have h3:=hs.bd b h1
   have h4:(look (addB σ.b r.b) b).join =some vs:=h2
   rw [On] at h4
   ·exact h4
   ·intro z hz e
    grind [E4]
 refine R4 hev' hop hos (fun x hx=>⟨?_,fun hl=>?_⟩) (fun x hx=>⟨?_,fun hl=>?_⟩) fun v w' γ' he ht hb ho hv=>hk _ _ _ hK ⟨γ',hs.add hd hft hfb he ht hb ho hv⟩
 ·show (look (addT σ.t r.t) x.1).join =_
  rw [ML _ _ hids.1 x hx]; rfl
 ·have h1:=hs.td _ hl
  rw [Fo hft x hx] at h1; cases h1
 ·show (look (addB σ.b r.b) x.1).join =_
  rw [MM _ _ hids.2 x hx]; rfl
 ·have h1:=hs.bd _ hl
  rw [E4 hfb x hx] at h1; cases h1
theorem bu {γ:Gh} {σ:St} {a:Act} {w:World} {pos:Nat} {o:Oper} {K:St→Prop} {next:Act→World→Prop} {Q:Exit→Act→World→Prop} (hs:Sim cx N γ σ a w) (hok:El N o=true) (h:aop cx.P pos o σ K)
  (hk:∀σ' a' w',K σ'→SimE cx N σ' a' w'→next a' w'):o.wp cx.P a w next Q:=by
 have hd:=FD hok
 have hop:=CM (γ:=γ) (s:=σ.g) (e:=σ.e) (a:=a) hok (fun x _=>St.e_eq σ x) (fun t _=>hs.sl t)
 have done:∀ (σ':St) (γ':Gh) (w':World) (av:AV) (v:Value),Out cx γ σ γ' σ' w'→VSim γ'.vw γ' av v→SimE cx N (σ'.put o.dst av) (a.put o.dst v) w':=fun σ' γ' w' av v ho hv=>by
  have hT:(σ'.put o.dst av).T =σ'.T:=by cases o.dst <;> rfl
  have hB:(σ'.put o.dst av).B =σ'.B:=by cases o.dst <;> rfl
  have ht:(σ'.put o.dst av).t =σ'.t:=by cases o.dst <;> rfl
  have hb:(σ'.put o.dst av).b =σ'.b:=by cases o.dst <;> rfl
  have hg:∀i,σ'.g i=σ.g i:=fun i=>by unfold St.g; rw [ho.s]
  refine⟨γ',by rw [hT,hB]; exact ho.os,fun i=>?_,fun t h=>?_,fun b h=>?_,by rw [Ht]; exact hs.df,by rw [Kc]; exact hs.n⟩
  ·rw [St.g_put,hg]; exact Kb ho.ext hs.n hs.sl hd hv i
  ·rw [ht]
   rcases ho.td t h with h|h
   ·exact ho.tm t (hs.td t h)
   omega
  ·rw [hb]
   rcases ho.bd b h with h|h
   ·exact ho.bm b (hs.bd b h)
   omega
 unfold aop at h
 split at h
 ·rename_i t x yt hop'
  rw [hop'] at hop
  obtain⟨⟨e,he⟩,hn,h⟩:=h
  obtain⟨b,hb,hr⟩:=WB (ox:=x) (oy:=.const (.slice none 0 0)) hs.os he (hop x (by simp [Op.operands])) hn
  refine LI (v:=.bool b) (w':=w) ?_ (hk _ _ _ (h b hb) (done σ γ w (.bool b) (.bool b) ⟨Gh.Ext.refl γ,hs.os,rfl,fun x h=>.inl h,fun x h=>.inl h,fun x h=>h,fun x h=>h⟩ (by rfl)))
  have e1:a.eval (.const (.slice none 0 0))= .slice none 0 0:=rfl
  simp_all [execOp]
 ·rename_i t x yt hop'
  rw [hop'] at hop
  obtain⟨⟨e,he⟩,hn,h⟩:=h
  obtain⟨b,hb,hr⟩:=WB (ox:=x) (oy:=.const (.slice none 0 0)) hs.os he (hop x (by simp [Op.operands])) hn
  refine LI (v:=.bool !b) (w':=w) ?_ (hk _ _ _ (h b hb) (done σ γ w (.bool !b) (.bool !b) ⟨Gh.Ext.refl γ,hs.os,rfl,fun x h=>.inl h,fun x h=>.inl h,fun x h=>h,fun x h=>h⟩ (by rfl)))
  have e1:a.eval (.const (.slice none 0 0))= .slice none 0 0:=rfl
  simp_all [execOp]
 ·rename_i t x y hop'
  rw [hop'] at hop
  obtain⟨w',γ',σ',hr,hK,ho⟩:=V6 hs.os (hop x (by simp [Op.operands])) (hop y (by simp [Op.operands])) h
  have hrun:(execOp a.eval o).run cx.P w= .ok .skip w':=by simp_all [execOp]
  unfold Oper.wp
  rw [hrun]
  exact hk _ _ _ hK (done σ' γ' w' .any undef ho trivial)
 ·rename_i t m i x hop'
  rw [hop'] at hop
  obtain⟨w',γ',σ',hr,hK,ho⟩:=Zn hs.os (hop m (by simp [Op.operands])) (hop i (by simp [Op.operands])) (hop x (by simp [Op.operands])) h
  have hrun:(execOp a.eval o).run cx.P w= .ok .skip w':=by simp_all [execOp]
  unfold Oper.wp
  rw [hrun]
  exact hk _ _ _ hK (done σ' γ' w' .any undef ho trivial)
 ·rename_i args argTypes hop'
  split at h
  ·rename_i x y t t' hx ht
   obtain⟨rfl,h⟩:=h
   have ha:args= #[x,y] :=by grind
   have hat:argTypes= #[t',t'] :=by grind
   subst ha hat
   rw [hop'] at hop
   obtain⟨v',w',γ',σ',av,hr,hv,hK,ho⟩:=Zo (ty:=o.type) hs.os hs.td (hop x (by simp [Op.operands,Call.operands])) (hop y (by simp [Op.operands,Call.operands])) h
   refine LI (v:=v') (w':=w') ?_ (hk _ _ _ hK (done σ' γ' w' av v' ho hv))
   simp_all [execOp,resolve,invoke,builtin]
  grind
 ·exact SF hs hok h hk
theorem WC {γ:Gh} {σ:St} {a:Act} {w:World} {o:Oper} {K:St→Prop} {next:Act→World→Prop} {Q:Exit→Act→World→Prop} (hs:Sim cx N γ σ a w) (hok:El N o=true) (h:MC cx.P o σ K)
  (hk:∀σ' a' w',K σ'→SimE cx N σ' a' w'→next a' w'):o.wp cx.P a w next Q:=by
 have hd:=FD hok
 have hop:=CM (γ:=γ) (s:=σ.g) (e:=σ.e) (a:=a) hok (fun x _=>St.e_eq σ x) (fun t _=>hs.sl t)
 unfold MC at h
 split at h
 ·rename_i g args argTypes hop'
  rw [hop'] at hop
  have h1:=hop g (by simp [Op.operands,Call.operands])
  split at h
  ·rename_i f caps he
   rw [he] at h1
   simp only [VSim] at h1
   obtain⟨cv,h2,h3⟩:=h1
   obtain⟨ho,h⟩:=h
   obtain⟨hav,ws,cs,hfv,e1⟩:=Ye ho h2 h3 (AI.of_map (e:=σ.e) (ρ:=a.eval) (l:=args.toList) fun x hx=>hop x (by grind [Op.operands,Call.operands]))
   obtain⟨bs,h⟩:=h
   obtain⟨hb,hcalls⟩:=Qm hs.os hs.td hs.bd h hav
   unfold GZ at hb
   cases hf:cx.P.funcs[f]? with
   |none=>grind
   | some fn=>
    simp only [hf,Option.any_some,Bool.and_eq_true,Bool.not_eq_true',beq_eq_false_iff_ne] at hb
    have hrun:(callFunc f (fnU cv (args.toList.map a.eval)).toArray).run cx.P w= .ok (.enter f (fnU cv (args.toList.map a.eval)).toArray) w:=by
     obtain⟨c,h1⟩:=Option.isSome_iff_exists.1 hb.1
     simp_all [callFunc]
    have hr:(execOp a.eval o).run cx.P w=(callFunc f (fnU cv (args.toList.map a.eval)).toArray).run cx.P w:=by
     have e2:(args.toList.map a.eval).toArray =args.map a.eval:=by grind
     rw [e1,e2]
     grind [execOp,resolve,Deferred.ofValue,invoke]
    unfold Oper.wp
    rw [hr,hrun]
    simp only [Oper.upon]
    refine hcalls.mono ?_
    rintro e w' ⟨v,γ',σ',r,rfl,hK,hv,hext,hos,hss,htd,hbd⟩
    simp only
    have hT:(σ'.put o.dst r).T =σ'.T:=by cases o.dst <;> rfl
    have hB:(σ'.put o.dst r).B =σ'.B:=by cases o.dst <;> rfl
    have ht:(σ'.put o.dst r).t =σ'.t:=by cases o.dst <;> rfl
    have hb':(σ'.put o.dst r).b =σ'.b:=by cases o.dst <;> rfl
    have hg:∀i,σ'.g i=σ.g i:=fun i=>by unfold St.g; rw [hss]
    refine hk _ _ _ hK ⟨γ',by rw [hT,hB]; omega,fun i=>?_,fun t h=>by rw [ht]; grind,fun b h=>by rw [hb']; grind,by rw [Ht]; exact hs.df,by rw [Kc]; exact hs.n⟩
    rw [St.g_put,hg]; exact Kb hext hs.n hs.sl hd hv i
  grind
 grind
theorem OwnR.of_append {V w} {cs} {sz}:∀ {xs ys} {o} {fp},OwnR V w cs sz o (xs++ys) fp→∃f1 f2,OwnR V w cs sz o xs f1∧OwnR V w cs sz (o+xs.length*sz) ys f2∧fp=f1++f2
 | [],ys,o,fp,h=>⟨[],fp,by rfl,by grind,rfl⟩
 |x::xs,ys,o,fp,h=>by
  simp only [List.cons_append,OwnR] at h
  obtain⟨f1,f2,h1,h2,h3,rfl⟩:=h
  obtain⟨g1,g2,k1,k2,rfl⟩:=OwnR.of_append h3
  refine⟨f1++g1,g2,?_,?_,by rw [List.append_assoc]⟩
  ·simp only [OwnR]; exact⟨f1,g1,h1,h2,k1,rfl⟩
  ·rw [List.length_cons,Nat.add_mul,Nat.one_mul,show o+(xs.length*sz+sz)=o+sz+xs.length*sz from by omega]; exact k2
theorem OwnR.cut {V w} {cs} {sz o i n} {rows} {fp} (h:OwnR V w cs sz o rows fp) (hi:i≤rows.length):∃f a b,OwnR V w cs sz (o+i*sz) ((rows.drop i).take n) f∧fp=a++f++b:=by
 rw [← List.take_append_drop i rows] at h
 obtain⟨f1,f2,-,h2,rfl⟩:=OwnR.of_append h
 rw [List.length_take,Nat.min_eq_left hi,← List.take_append_drop n (rows.drop i)] at h2
 grind [OwnR.of_append]
theorem Xj {γ:Gh} {σ:St} {a:Act} {w:World} {pos:Nat} {o:Oper} {K:St→Prop} {next:Act→World→Prop} {Q:Exit→Act→World→Prop} (hs:Sim cx N γ σ a w) (hok:El N o=true) (h:SliK cx.P pos o σ K)
  (hk:∀σ' a' w',K σ'→SimE cx N σ' a' w'→next a' w'):o.wp cx.P a w next Q:=by
 have hd:=FD hok
 have hop:=CM (γ:=γ) (s:=σ.g) (e:=σ.e) (a:=a) hok (fun x _=>St.e_eq σ x) (fun t _=>hs.sl t)
 unfold SliK at h
 split at h
 ·rename_i t x l h' hop'
  rw [hop'] at hop
  split at h
  ·rename_i n he
   obtain⟨tk,hT,el,hu,⟨hsz,hrl⟩,i,hi,j,hj,r,hr,hlook,hK⟩:=h
   have hx:=hop x (by simp [Op.operands])
   rw [he] at hx
   simp only [VSim] at hx
   obtain⟨⟨htl,-⟩,hx⟩:=hx
   have hbl:(l.map a.eval=none∧i=0)∨∃k,l.map a.eval=some (.int k i):=G3 (w0:=γ.vw) (γ:=γ) (a:=l.map σ.e) (v:=l.map a.eval) (fun y hy=>by
    cases l with
    |none=>cases hy
    |some l=>grind [Op.operands]) (fun hy=>by simp_all) hi
   have hbh:(h'.map a.eval=none∧j=tk.rows.length)∨∃k,h'.map a.eval=some (.int k j):=G3 (w0:=γ.vw) (γ:=γ) (a:=h'.map σ.e) (v:=h'.map a.eval) (fun y hy=>by
    cases h' with
    |none=>cases hy
    |some l=>grind [Op.operands]) (fun hy=>by simp_all) hj
   unfold cutL at hr
   by_cases h0:0≤i∧i≤j∧j≤tk.rows.length
   case neg=>rw [if_neg h0] at hr; cases hr
   rw [if_pos h0] at hr
   cases hr
   have hown:=(hs.os.tok n tk htl hT).own
   have hsz':=EI (P:=cx.P) (w:=w) hsz
   have hlen:((tk.rows.drop i.toNat).take (j - i).toNat).length =j.toNat - i.toNat:=by rw [List.length_take,List.length_drop]; omega
   have key:∃v' f,(execOp a.eval o).run cx.P w= .ok (.value v') w∧Own (tk.vw γ.vw) w (.sl ((tk.rows.drop i.toNat).take (j - i).toNat)) v' f∧f.Nodup∧∀g ∈ f,g ∈ γ.tf n:=by
    have run:∀ (ad:Option Addr) (c:Nat),γ.tv n= .slice ad tk.rows.length c→tk.rows.length≤c→(execOp a.eval o).run cx.P w= .ok (.value (.slice (if c=i.toNat then ad else ad.map (·.add (i.toNat*tsz cx.P el))) (j.toNat - i.toNat) (c - i.toNat))) w:=fun ad c hv hc=>by
     have hb:=LL (P:=cx.P) (w:=w) (b:=true) hbl hbh hc h0
     rw [← hx] at hv
     simp only [execOp,hop',hv,Sem.run_bind]
     simp [Instr.sliceAt,Instr.slice,run_underlying (IK hu),hb,hsz']
    have hnd:=hs.os.tnd n tk htl hT
    simp only [Own] at hown
    by_cases he0:j.toNat - i.toNat=0
    ·have hnil:(tk.rows.drop i.toNat).take (j - i).toNat =[] :=List.eq_nil_of_length_eq_zero (by rw [hlen]; omega)
     have:∃ad c,γ.tv n= .slice ad tk.rows.length c∧tk.rows.length≤c∧c≤maxLen:=by
      grind
     obtain⟨ad,c,h1,h2,h3⟩:=this
     refine⟨_,[],run ad c h1 h2,?_,List.nodup_nil,by simp⟩
     grind [Own]
    ·rcases hown with ⟨h1,-,-⟩|⟨sz,g,o1,c,e,cs,fps,h1,h2,h3,hb,h4,hR,hfp⟩
     ·rw [h1] at h0; grind
     ·have h5:0<tk.rows.length:=by omega
      have hsz2:sz=tsz cx.P el:=by
       obtain⟨_,_,_,_,h6,-⟩:=hR.split 0 h5
       grind
      subst hsz2
      have hci:i.toNat≤c:=by omega
      obtain⟨f,fa,fb,k1,k2⟩:=OwnR.cut (i:=i.toNat) (n:=(j - i).toNat) hR (by omega)
      have hmul:i.toNat*tsz cx.P el+(c - i.toNat)*tsz cx.P el=c*tsz cx.P el:=by rw [← Nat.add_mul]; grind
      refine⟨_,g::f,run _ c h1 h2,?_,?_,fun g' hg'=>?_⟩
      ·simp only [Own]
       refine .inr ⟨tsz cx.P el,g,o1+i.toNat*tsz cx.P el,c - i.toNat,e,cs,f,?_,by rw [hlen]; omega,by omega,hb,by omega,k1,rfl⟩
       rw [if_neg (by omega),hlen]
       simp [Addr.add]
      ·rw [hfp,k2] at hnd
       grind
      grind
   obtain⟨v',f,hrun,hown',hnd',hin⟩:=key
   have hntl:¬γ.tl (pos*16):=fun htl=>by
    have h1:=hs.td _ htl
    rw [hlook] at h1; cases h1
   have hne:pos*16≠n:=fun e=>by rw [e] at hntl; grind
   have hs1:=hs.os.kill n
   have hTn:tset σ.T n none (pos*16)=none:=by
    grind [tset,St.T]
   have hfree:=hs.os.freed htl hT
   have htok:A4 γ.vw w ⟨(tk.rows.drop i.toNat).take (j - i).toNat,none,0,tk.z⟩ v' f:=hown'
   have hfin:=hs1.putTok (tk:=⟨(tk.rows.drop i.toNat).take (j - i).toNat,none,0,tk.z⟩) hTn (fun h=>absurd h hntl) htok hnd' (fun g hg=>hfree g (hin g hg)) (fun h=>absurd h hntl) (fun h=>absurd h hntl)
   have hext:Gh.Ext γ (γ.tok w (pos*16) v' f 0):=Gh.tok_ext fun h=>absurd h hntl
   refine LI (v:=v') (w':=w) hrun (hk _ _ _ hK ⟨γ.tok w (pos*16) v' f 0,?_,fun x=>?_,fun z hz=>?_,fun z hz=>?_,by rw [Ht]; exact hs.df,by rw [Kc]; exact hs.n⟩)
   ·refine hfin.tables (fun z tz' _ hz=>?_) fun b vs _ hb=>?_
    ·have e1:(St.put ⟨σ.s,(pos*16,some ⟨(tk.rows.drop i.toNat).take (j - i).toNat,none,0,tk.z⟩)::(n,none)::σ.t,σ.b⟩ o.dst (.own (pos*16))).T z=(look ((pos*16,some ⟨(tk.rows.drop i.toNat).take (j - i).toNat,none,0,tk.z⟩)::(n,none)::σ.t) z).join :=by cases o.dst <;> rfl
     rw [e1] at hz
     simp only [AJ] at hz
     split at hz
     ·grind
     ·rename_i e
      rw [if_neg e]
      unfold tset
      split at hz
      ·cases hz
      ·rename_i e2; rw [if_neg e2]; exact hz
    ·have e1:(St.put ⟨σ.s,(pos*16,some ⟨(tk.rows.drop i.toNat).take (j - i).toNat,none,0,tk.z⟩)::(n,none)::σ.t,σ.b⟩ o.dst (.own (pos*16))).B b=σ.B b:=by cases o.dst <;> rfl
     rw [e1] at hb; exact hb
   ·rw [St.g_put]
    have hrep:=htok.rep hs1.vw.k
    simp only [Rep] at hrep
    obtain⟨a',c',hv',-⟩:=hrep
    refine Kb hext hs.n hs.sl hd (av:=.own (pos*16)) ?_ x
    simp only [VSim]
    have e1:(γ.tok w (pos*16) v' f 0).tv (pos*16)=v':=by show (if pos*16=pos*16 then _ else _)=_; rw [if_pos rfl]
    rw [e1]
    exact⟨⟨.inr rfl,a',_,c',hv'⟩,rfl⟩
   ·have e1:(St.put ⟨σ.s,(pos*16,some ⟨(tk.rows.drop i.toNat).take (j - i).toNat,none,0,tk.z⟩)::(n,none)::σ.t,σ.b⟩ o.dst (.own (pos*16))).t =(pos*16,some ⟨(tk.rows.drop i.toNat).take (j - i).toNat,none,0,tk.z⟩)::(n,none)::σ.t:=by cases o.dst <;> rfl
    rw [e1]
    simp only [AJ]
    split
    ·rfl
    ·split
     ·rfl
     ·rename_i e2 _
      rcases hz with hz|hz
      ·exact hs.td z hz
      omega
   ·have e1:(St.put ⟨σ.s,(pos*16,some ⟨(tk.rows.drop i.toNat).take (j - i).toNat,none,0,tk.z⟩)::(n,none)::σ.t,σ.b⟩ o.dst (.own (pos*16))).b =σ.b:=by cases o.dst <;> rfl
    rw [e1]; exact hs.bd z hz
  grind
 grind
theorem M7 {γ:Gh} {σ:St} {a:Act} {w:World} {L:Bool} {pos:Nat} {o:Oper} {K:St→Prop} {next:Act→World→Prop} {Q:Exit→Act→World→Prop} (hs:Sim cx N γ σ a w) (hok:El N o=true) (h:Ro cx.P L pos o σ K)
  (hk:∀σ' a' w',K σ'→SimE cx N σ' a' w'→next a' w'):o.wp cx.P a w next Q:=by
 rcases h with ⟨-,h⟩|⟨-,h⟩|⟨-,-,h⟩
 ·grind [bu]
 ·grind [WC,Xj]
 ·exact SF hs hok h hk
theorem SG {γ} {σ} {a} {w} (hs:Sim cx N γ σ a w) {ops} {j s} {b} (hj:Iv ops j=some s) (hb:σ.g s= .bool b):yielded ops a.tmps j=some b:=by
 have h1:=hs.sl s
 rw [hb] at h1
 simp only [VSim] at h1
 unfold Iv at hj
 unfold yielded
 rw [hj]
 simp only [Option.bind_some]
 rw [Array.getD_eq_getD_getElem?] at h1
 grind [undef]
theorem SH {γ} {σ} {a} {w} (hs:Sim cx N γ σ a w) {ops} {j s} (hj:Iv ops j=some s) (hb:σ.g s= .tup []):yielded ops a.tmps j=none:=by
 have h1:=hs.sl s
 rw [hb] at h1
 simp only [VSim,AI] at h1
 obtain⟨us,h1,rfl⟩:=h1
 unfold Iv at hj
 unfold yielded
 rw [hj]
 simp only [Option.bind_some]
 rw [Array.getD_eq_getD_getElem?] at h1
 grind
theorem SI {w0} {γ}:VSim w0 γ (.tup []) undef:=by simp only [VSim,AI]; exact⟨[],rfl,rfl⟩
theorem Sim.putU {γ:Gh} {σ:St} {a:Act} {w:World} (hs:Sim cx N γ σ a w) {dst:Option Tmp} (hd:∀d,dst=some d→d<N):Sim cx N γ (σ.put dst (.tup [])) (a.put dst undef) w:=by
 refine⟨?_,fun i=>?_,?_,?_,by rw [Ht]; exact hs.df,by rw [Kc]; exact hs.n⟩
 ·have hT:(σ.put dst (.tup [])).T =σ.T:=by cases dst <;> rfl
  have hB:(σ.put dst (.tup [])).B =σ.B:=by cases dst <;> rfl
  rw [hT,hB]; exact hs.os
 ·rw [St.g_put]
  exact Kb (Gh.Ext.refl γ) hs.n hs.sl hd (av:=.tup []) SI i
 ·have ht:(σ.put dst (.tup [])).t =σ.t:=by cases dst <;> rfl
  rw [ht]; exact hs.td
 ·have ht:(σ.put dst (.tup [])).b =σ.b:=by cases dst <;> rfl
  rw [ht]; exact hs.bd
end
end Go.Proofs.YtnfgeocnolheoaaGreat.Ab
namespace Go.Proofs.YtnfgeocnolheoaaGreat.Ab
set_option linter.unusedVariables false
set_option maxHeartbeats 1000000
set_option linter.unusedSimpArgs false
open Go.RowKit
section
variable {cx:Cx} {N:Nat}
theorem Kd {ops} {base cut} {Q}:∀ {l} {i} {σ} {K} {a} {w},(∀o ∈ l,El N o=true)→aops cx.P ops base cut i l σ K→SimE cx N σ a w→
  (∀σ' a' w',K σ'→SimE cx N σ' a' w'→Q .normal a' w')→wpList cx.P ops Q l a w
 | [],i,σ,K,a,w,_,h,hs,hk=>hk σ a w h hs
 | o ::l,i,σ,K,a,w,hok,h,⟨γ,hs⟩,hk=>by
  have hoo:=hok o (by simp)
  unfold wpList
  unfold aops at h
  split at h
  ·rename_i hg
   rw [if_pos (by simp [Region.wanted,hg])]
   exact .inl (M7 hs hoo h fun σ' a' w' hK hs'=>Kd (fun o ho=>hok o (by simp [ho])) hK hs' hk)
  ·rename_i j want hg
   obtain⟨s,hj,h⟩:=h
   rcases h with ⟨b,hb,h1,h2⟩|⟨hb,h2⟩
   case inr=>
    have hy:=SH hs hj hb
    rw [if_neg (by grind [Region.wanted])]
    exact Kd (fun o ho=>hok o (by grind)) h2 ⟨γ,hs.putU (FD hoo)⟩ hk
   case inl=>
    have hy:=SG hs hj hb
    have hput:∀c,b=c→Sim cx N γ (σ.put (some s) (.bool c)) a w:=fun c e=>by
     subst e
     have hg':∀i,(σ.put (some s) (.bool b)).g i=σ.g i:=fun i=>by
      rw [St.g_put]; grind
     exact⟨hs.os,fun i=>by rw [hg']; exact hs.sl i,hs.td,hs.bd,hs.df,hs.n⟩
    by_cases hbw:b=want
    ·rw [if_pos (by grind [Region.wanted])]
     exact .inl (M7 (hput want hbw) hoo (h1 hbw) fun σ' a' w' hK hs'=>Kd (fun o ho=>hok o (by simp [ho])) hK hs' hk)
    ·have hbn:b= !want:=by cases b <;> cases want <;> simp_all
     rw [if_neg (by grind [Region.wanted])]
     exact Kd (fun o ho=>hok o (by grind)) (h2 hbn) ⟨γ,(hput (!want) hbn).putU (FD hoo)⟩ hk
theorem IM {α:Type}:∀ {l:List (Nat × α)} {i:Nat} {x:α},look l i=some x→(i,x) ∈ l
 | [],i,x,h=>by grind [look]
 |(j,y)::l,i,x,h=>by
  rw [AJ] at h
  split at h
  ·rename_i e; cases h; subst e; exact List.mem_cons_self
  ·exact List.mem_cons_of_mem _ (IM h)
theorem SJ {l:List (Nat × Nat)} (hn:(l.map (·.2)).Nodup) {i j n m:Nat} (hi:look l i=some n) (hj:look l j=some m) (hne:i≠j):n≠m:=by
 induction l with
 |nil=>grind [look]
 | cons p l ih=>
  obtain⟨a,b⟩:=p
  simp only [List.map_cons,List.nodup_cons] at hn
  rw [AJ] at hi hj
  split at hi
  ·rename_i e1
   cases hi
   split at hj
   ·omega
   ·intro e; subst e
    exact hn.1 (List.mem_map.2 ⟨_,IM hj,rfl⟩)
  ·split at hj
   ·cases hj
    intro e; subst e
    exact hn.1 (List.mem_map.2 ⟨_,IM hi,rfl⟩)
   grind
def Gh.ren (γ:Gh) (gn ga:Nat→Nat) (rt rb:List (Nat × Nat)):Gh where
 gl t g:=if t<1000 then γ.gl t g else g=gn t
 hv t g:=if t<1000 then γ.hv t g else γ.hv ((look rt t).getD t) (ga ((look rt t).getD t))
 tl t:=∃n,look rt t=some n∧γ.tl n
 tv t:=γ.tv ((look rt t).getD t)
 tf t:=γ.tf ((look rt t).getD t)
 bl b:=∃n,look rb b=some n∧γ.bl n
 bb b:=γ.bb ((look rb b).getD b)
 bo b:=γ.bo ((look rb b).getD b)
 vw:=γ.vw
theorem iB {rt rb} (a:AV):(ren rt rb a).mp? =a.mp?:=by cases a <;> rfl
theorem Zw {rt rb} {vs}:isMp (rens rt rb vs)=isMp vs:=by
 cases vs with
 |nil=>rfl
 |cons a l=>cases l with
  |nil=>exact iB a
  |cons b l=>rfl
theorem SK {vs} {j} {a x} (h:vs[j]? =some a) (ha:a.mp?=false) (hx:x.mp?=false):isMp (vs.set j x)=isMp vs:=by
 cases vs with
 |nil=>rfl
 | cons b l=>cases l with
  |nil=>cases j with
   |zero=>simp only [List.getElem?_cons_zero,Option.some.injEq] at h; subst h; show x.mp?=b.mp?; rw [ha,hx]
   |succ j=>rfl
  |cons c l=>cases j with
   |zero=>rfl
   |succ j=>cases j <;> rfl
theorem UD {vs} {j} {x} (hm:isMp vs=false) (hx:x.mp?=false):isMp (vs.set j x)=isMp vs:=by
 cases vs with
 |nil=>rfl
 | cons b l=>cases l with
  |nil=>cases j with
   |zero=>show x.mp?=_; rw [hm,hx]
   |succ j=>rfl
  |cons c l=>cases j with
   |zero=>rfl
   |succ j=>cases j <;> rfl
mutual
theorem WD {w0} {γ} {gn ga} {rt rb}:∀ {a} {v},Fn rt rb a=true→VSim w0 γ (ren rt rb a) v→VSim w0 (γ.ren gn ga rt rb) a v
 | .own t,v,hk,h=>by
  grind [Fn,Option.isSome_iff_exists,Ab.ren,VSim,Gh.ren]
 | .box b off,v,hk,h=>by
  grind [Fn,Option.isSome_iff_exists,Ab.ren,VSim,Gh.ren]
 | .bsl b m sz,v,hk,h=>by
  grind [Fn,Option.isSome_iff_exists,Ab.ren,VSim,Gh.ren]
 | .elt t sz i off,v,hk,h=>by
  simp only [Fn] at hk
  obtain⟨n,hn⟩:=Option.isSome_iff_exists.1 hk
  simp only [Ab.ren,hn,Option.getD_some,VSim] at h
  simp only [VSim,Gh.ren,hn,Option.getD_some]
  grind
 | .sub _ _ _,v,hk,h=>by grind [Fn]
 | .par _ _ _ _,v,hk,h=>by grind [Fn]
 | .els _ _ _ _ _ _,v,hk,h=>by grind [Fn]
 | .mpr b,v,hk,h=>by
  grind [Fn,Option.isSome_iff_exists,Ab.ren,VSim,Gh.ren]
 | .mpc _ _,v,hk,h=>by grind [Ab.ren,VSim]
 | .agg vs,v,hk,h=>by
  simp only [Fn] at hk
  simp only [Ab.ren,VSim] at h
  obtain⟨us,hv,hs⟩:=h
  simp only [VSim]
  exact⟨us,hv,JC hk hs⟩
 | .tup vs,v,hk,h=>by
  simp only [Fn] at hk
  simp only [Ab.ren,VSim] at h
  obtain⟨us,hv,hs⟩:=h
  simp only [VSim]
  exact⟨us,hv,JC hk hs⟩
 | .fn f vs,v,hk,h=>by
  simp only [Fn] at hk
  simp only [Ab.ren,VSim] at h
  obtain⟨us,hv,hs⟩:=h
  simp only [VSim]
  exact⟨us,hv,JC hk hs⟩
 | .any,v,hk,h=>trivial
 | .int _ _,v,hk,h=>by grind [Ab.ren,VSim]
 | .bool _,v,hk,h=>by grind [Ab.ren,VSim]
 | .str _,v,hk,h=>by grind [Ab.ren,VSim]
 | .ro _,v,hk,h=>by grind [Ab.ren,VSim]
 | .rop vs off,v,hk,h=>by
  simp only [Fn] at hk
  simp only [Ab.ren,VSim] at h
  obtain⟨b,o,us,hv,hs,hc⟩:=h
  simp only [VSim]
  exact⟨b,o,us,hv,JC hk hs,hc⟩
 | .nilp,v,hk,h=>by grind [Ab.ren,VSim]
 | .nils,v,hk,h=>by grind [Ab.ren,VSim]
theorem JC {w0} {γ} {gn ga} {rt rb}:∀ {as} {us},HN rt rb as=true→AI w0 γ (rens rt rb as) us→AI w0 (γ.ren gn ga rt rb) as us
 | [],us,hk,h=>by grind [rens,AI]
 |a::as,us,hk,h=>by
  simp only [HN,Bool.and_eq_true] at hk
  simp only [rens,AI] at h
  obtain⟨u,us',rfl,h1,h2⟩:=h
  simp only [AI]
  exact⟨u,us',rfl,WD hk.1 h1,JC hk.2 h2⟩
end
theorem SL {rt rb} {σ}:∀ {l},Vl rt rb σ l→∀i av,(i,av) ∈ l→Fn rt rb av=true∧σ.g i=ren rt rb av
 | [],_,i,av,h=>by cases h
 |(j,x)::l,hw,i,av,h=>by
  simp only [Vl] at hw
  rcases List.mem_cons.1 h with h|h
  ·cases h; exact⟨hw.1,hw.2.1⟩
  ·exact SL hw.2.2 i av h
theorem OA {rt} {σ}:∀ {l},Rp rt σ l→∀t tk,(t,some tk) ∈ l→∃n tk',look rt t=some n∧σ.T n=some tk'∧tk'.rows=tk.rows∧(tk.sz=none∨tk'.sz=tk.sz)∧(t<1000→n=t∧tk'.gen=tk.gen)∧okZ tk.z tk'=true
 | [],_,t,tk,h=>by cases h
 |(j,some x)::l,hw,t,tk,h=>by
  simp only [Rp] at hw
  rcases List.mem_cons.1 h with h|h
  ·cases h; obtain⟨n,a,tk',b⟩:=hw.1; exact⟨n,tk',a,b⟩
  ·exact OA hw.2 t tk h
 |(j,none)::l,hw,t,tk,h=>by
  simp only [Rp] at hw
  rcases List.mem_cons.1 h with h|h
  ·cases h
  ·exact OA hw.2 t tk h
theorem OB {rt rb} {σ}:∀ {l},Rq rt rb σ l→∀b vs,(b,some vs) ∈ l→∃n,look rb b=some n∧HN rt rb vs=true∧σ.B n=some (rens rt rb vs)
 | [],_,b,vs,h=>by cases h
 |(j,some x)::l,hw,b,vs,h=>by
  simp only [Rq] at hw
  rcases List.mem_cons.1 h with h|h
  ·cases h; exact hw.1
  ·exact OB hw.2 b vs h
 |(j,none)::l,hw,b,vs,h=>by
  simp only [Rq] at hw
  rcases List.mem_cons.1 h with h|h
  ·cases h
  ·exact OB hw.2 b vs h
theorem pinT_spec {rt}:∀ {l},bL rt l→∀ {t},(look l t).isSome =true→1000≤t∨look rt t=some t
 | [],_,t,h=>by cases h
 |(j,x)::l,hp,t,h=>by
  simp only [bL] at hp
  rw [AJ] at h
  split at h
  ·grind
  ·exact pinT_spec hp.2 h
theorem pinB_spec {rb}:∀ {l},bM rb l→∀ {t},(look l t).isSome =true→1000≤t∨look rb t=some t
 | [],_,t,h=>by cases h
 |(j,x)::l,hp,t,h=>by
  simp only [bM] at hp
  rw [AJ] at h
  split at h
  ·grind
  ·exact pinB_spec hp.2 h
theorem join_some {α:Type} {o:Option (Option α)} {x:α} (h:o.join=some x):o=some (some x):=by
 cases o with
 |none=>cases h
 |some o=>simp at h; rw [h]
theorem WE {σ σ0:St} {a:Act} {w:World} (hs:SimE cx N σ a w) (hw:gY σ σ0):SimE cx N σ0 a w:=by
 obtain⟨γ,hs⟩:=hs
 obtain⟨rt,rb,⟨hpt,hpb⟩,⟨hnt,hnb⟩,⟨hlt,hlb⟩,hS,hT,hB⟩:=hw
 let gn:Nat→Nat:=fun t=>((σ0.T t).map (·.gen)).getD 0
 let ga:Nat→Nat:=fun n=>((σ.T n).map (·.gen)).getD 0
 have kT:∀t tk,σ0.T t=some tk→∃n tk',look rt t=some n∧σ.T n=some tk'∧tk'.rows=tk.rows∧(tk.sz=none∨tk'.sz=tk.sz)∧(t<1000→n=t∧tk'.gen=tk.gen)∧okZ tk.z tk'=true:=fun t tk h=>OA hT t tk (IM (join_some h))
 have kB:∀b vs,σ0.B b=some vs→∃n,look rb b=some n∧HN rt rb vs=true∧σ.B n=some (rens rt rb vs):=fun b vs h=>OB hB b vs (IM (join_some h))
 have etv:∀t n,look rt t=some n→(γ.ren gn ga rt rb).tv t=γ.tv n∧(γ.ren gn ga rt rb).tf t=γ.tf n:=fun t n h=>by simp [Gh.ren,h]
 have ebb:∀b n,look rb b=some n→(γ.ren gn ga rt rb).bb b=γ.bb n∧(γ.ren gn ga rt rb).bo b=γ.bo n:=fun t n h=>by simp [Gh.ren,h]
 refine⟨γ.ren gn ga rt rb,⟨⟨hs.os.frm,fun t tk h1 h2=>?_,fun t tk h1 h2=>?_,fun t t' tk tk' hne h1 h1' h2 h2'=>?_,fun b vs h1 h2=>?_,fun b b' vs vs' hne h1 h1' h2 h2'=>?_,fun b t vs tk h1 h1' h2 h2'=>?_,fun t tk h1 h2=>?_,fun b vs h1 h2=>?_,fun t tk h1 h2=>?_,?_,⟨hs.os.vw.k,fun t tk h1 h2=>?_,fun b vs h1 h2=>?_,hs.os.vw.f⟩⟩,fun i=>?_,fun t h=>?_,fun b h=>?_,hs.df,hs.n⟩⟩
 ·obtain⟨n,hn,hl⟩:=h1
  obtain⟨m,tk',hm,ht,er,ea,eg,ez⟩:=kT t tk h2
  rw [hn] at hm; cases hm
  rw [(etv t n hn).1,(etv t n hn).2]; exact(hs.os.tok n tk' hl ht).as (AS.refl _) er ea ez
 ·obtain⟨n,hn,hl⟩:=h1
  obtain⟨m,tk',hm,ht,er,ea,eg,ez⟩:=kT t tk h2
  rw [hn] at hm; cases hm
  rw [(etv t n hn).2]; exact hs.os.tnd n tk' hl ht
 ·obtain⟨n,hn,hl⟩:=h1
  obtain⟨m,tp,hm,ht,-,-⟩:=kT t tk h2
  rw [hn] at hm; cases hm
  obtain⟨n',hn',hl'⟩:=h1'
  obtain⟨m',tq,hm',ht',-,-⟩:=kT t' tk' h2'
  rw [hn'] at hm'; cases hm'
  rw [(etv t n hn).2,(etv t' n' hn').2]
  exact hs.os.tds n n' tp tq (SJ hnt hn hn' hne) hl hl' ht ht'
 ·obtain⟨n,hn,hl⟩:=h1
  obtain⟨m,hm,hk,ht⟩:=kB b vs h2
  rw [hn] at hm; cases hm
  obtain⟨us,h3,h4⟩:=hs.os.box n _ hl ht
  rw [(ebb b n hn).1,(ebb b n hn).2]
  exact⟨us,JC (w0:=γ.vw) hk h3,h4.as Zw.symm⟩
 ·obtain⟨n,hn,hl⟩:=h1
  obtain⟨m,hm,hk,ht⟩:=kB b vs h2
  rw [hn] at hm; cases hm
  obtain⟨n',hn',hl'⟩:=h1'
  obtain⟨m',hm',hk',ht'⟩:=kB b' vs' h2'
  rw [hn'] at hm'; cases hm'
  rw [(ebb b n hn).1,(ebb b' n' hn').1]
  exact hs.os.bds n n' _ _ (SJ hnb hn hn' hne) hl hl' ht ht'
 ·obtain⟨n,hn,hl⟩:=h1
  obtain⟨m,hm,hk,ht⟩:=kB b vs h2
  rw [hn] at hm; cases hm
  obtain⟨n',hn',hl'⟩:=h1'
  obtain⟨m',tq,hm',ht',-,-⟩:=kT t tk h2'
  rw [hn'] at hm'; cases hm'
  rw [(ebb b n hn).1,(etv t n' hn').2]
  exact hs.os.btd n n' _ tq hl hl' ht ht'
 ·obtain⟨n,hn,hl⟩:=h1
  obtain⟨m,tk',hm,ht,er,ea,eg,ez⟩:=kT t tk h2
  rw [hn] at hm; cases hm
  rw [(etv t n hn).2]; exact hs.os.tfr n tk' hl ht
 ·obtain⟨n,hn,hl⟩:=h1
  obtain⟨m,hm,hk,ht⟩:=kB b vs h2
  rw [hn] at hm; cases hm
  rw [(ebb b n hn).1,(ebb b n hn).2]
  rcases hs.os.bfr n _ hl ht with h|⟨kp,x,hx,k1,k2,k3,k4⟩
  ·omega
  ·refine .inr ⟨?_,x,hx,k1,k2,?_,k4⟩
   ·rcases pinB_spec hpb (hs.bd n hl) with h|h
    ·omega
    grind [SJ]
   rw [k3]
   have:∀l:List AV,(rens rt rb l).length =l.length:=fun l=>by induction l with|nil=>rfl|cons y l ih=>simp [rens,ih]
   grind
 ·obtain⟨n,hn,hl⟩:=h1
  obtain⟨m,tk',hm,ht,er,ea,eg,ez⟩:=kT t tk h2
  rw [hn] at hm; cases hm
  have hh:=hs.os.hds n tk' hl ht
  have e0:gn t=tk.gen:=by grind
  have e1:ga n=tk'.gen:=by grind
  by_cases hp:t<1000
  ·obtain⟨hnt',e3⟩:=eg hp
   subst hnt'
   have g1:∀g,(γ.ren gn ga rt rb).gl n g↔γ.gl n g:=fun g=>by show (if n<1000 then _ else _)↔_; rw [if_pos hp]
   have g2:∀g,(γ.ren gn ga rt rb).hv n g=γ.hv n g:=fun g=>by show (if n<1000 then _ else _)=_; rw [if_pos hp]
   refine⟨(g1 _).2 (by rw [← e3]; exact hh.1),fun g hg=>by rw [← e3]; exact hh.2.1 g ((g1 g).1 hg),fun q r hq=>?_⟩
   rw [(etv n n hn).1,g2,← e3]
   exact hh.2.2 q r (by rw [er]; exact hq)
  ·have g1:∀g,(γ.ren gn ga rt rb).gl t g↔g=gn t:=fun g=>by show (if t<1000 then _ else _)↔_; rw [if_neg hp]
   have g2:∀g,(γ.ren gn ga rt rb).hv t g=γ.hv n (ga n):=fun g=>by show (if t<1000 then _ else _)=_; rw [if_neg hp,hn]; rfl
   refine⟨(g1 _).2 e0.symm,fun g hg=>?_,fun q r hq=>?_⟩
   ·grind
   ·rw [(etv t n hn).1,g2,e1]
    exact hh.2.2 q r (by rw [er]; exact hq)
 ·have p1:∀t,cx.g0.tl t→look rt t=some t:=fun t h=>by
   have h1:=cx.pinT t h
   rcases pinT_spec hpt (hs.td t (hs.os.beg.tl t h)) with h2|h2
   ·omega
   omega
  have p2:∀b,cx.g0.bl b→look rb b=some b:=fun b h=>by
   have h1:=cx.pinB b h
   rcases pinB_spec hpb (hs.bd b (hs.os.beg.bl b h)) with h2|h2
   ·omega
   omega
  have hb:=hs.os.beg
  refine⟨fun t h=>⟨t,p1 t h,hb.tl t h⟩,fun t h=>?_,fun b h=>⟨b,p2 b h,hb.bl b h⟩,fun b h=>?_,fun b h=>?_,fun t g h k=>?_,fun t g h k=>?_,hb.vw⟩
  ·rw [(etv t t (p1 t h)).1]; exact hb.tv t h
  ·rw [(ebb b b (p2 b h)).1]; exact hb.bb b h
  ·rw [(ebb b b (p2 b h)).2]; exact hb.bo b h
  ·show (if t<1000 then _ else _)
   rw [if_pos (cx.pinT t h)]; exact hb.gl t g h k
  ·show (if t<1000 then _ else _)=_
   rw [if_pos (cx.pinT t h)]; exact hb.hv t g h k
 ·obtain⟨n,hn,hl⟩:=h1
  obtain⟨m,tk',hm,ht,er,ea,eg,ez⟩:=kT t tk h2
  rw [hn] at hm; cases hm
  rw [(etv t n hn).2]; exact hs.os.vw.t n tk' hl ht
 ·obtain⟨n,hn,hl⟩:=h1
  obtain⟨m,hm,hk,ht⟩:=kB b vs h2
  rw [hn] at hm; cases hm
  rw [(ebb b n hn).1]; exact hs.os.vw.b n _ hl ht
 ·unfold St.g
  cases hl:look σ0.s i with
  |none=>trivial
  |some av=>
   obtain⟨h1,h2⟩:=SL hS i av (IM hl)
   have h3:=hs.sl i
   rw [h2] at h3
   exact WD (w0:=γ.vw) h1 h3
 ·obtain⟨n,hn,-⟩:=h
  rw [List.all_eq_true] at hlt
  exact hlt (t,n) (IM hn)
 ·obtain⟨n,hn,-⟩:=h
  rw [List.all_eq_true] at hlb
  exact hlb (b,n) (IM hn)
theorem JD {w0} {γ}:∀ {vs} {us} {j} {x},AI w0 γ vs us→(∀u,us[j]? =some u→VSim w0 γ x u)→AI w0 γ (vs.set j x) us
 | [],us,j,x,h,_=>by grind
 |v::vs,us,j,x,h,hx=>by
  simp only [AI] at h
  obtain⟨u,us',rfl,h1,h2⟩:=h
  cases j with
  |zero=>simp only [List.set_cons_zero,AI]; exact⟨u,us',rfl,hx u (by simp),h2⟩
  |succ j=>simp only [List.set_cons_succ,AI]; exact⟨u,us',rfl,h1,JD h2 fun u' hu=>hx u' (by simpa using hu)⟩
theorem Ke {w0:World} {γ:Gh}:∀ {vs:List AV} {us:List Value} {j:Nat} {x:AV} {u:Value},AI w0 γ vs us→vs[j]? =some x→us[j]? =some u→VSim w0 γ x u
 | [],us,j,x,u,h,h1,_=>by grind
 |v::vs,us,j,x,u,h,hx,hu=>by
  simp only [AI] at h
  obtain⟨u0,us',rfl,h1,h2⟩:=h
  cases j with
  |zero=>simp at hx hu; subst hx; subst hu; exact h1
  |succ j=>exact Ke h2 (by simpa using hx) (by simpa using hu)
theorem Sim.boxed {γ} {σ} {a} {w} (hs:Sim cx N γ σ a w) {b} {vs vs'} (hb:σ.B b=some vs) (hl:vs'.length=vs.length) (hm:isMp vs'=isMp vs) (hv:∀us,AI γ.vw γ vs us→AI γ.vw γ vs' us):Sim cx N γ ⟨σ.s,σ.t,(b,some vs')::σ.b⟩ a w:=by
 have hB:∀x,St.B ⟨σ.s,σ.t,(b,some vs')::σ.b⟩ x=if x=b then some vs' else σ.B x:=fun x=>by
  unfold St.B; simp only [AJ]; split <;> rfl
 have old:∀x ws,γ.bl x→St.B ⟨σ.s,σ.t,(b,some vs')::σ.b⟩ x=some ws→∃ws0,σ.B x=some ws0∧(ws0.length=ws.length∧isMp ws=isMp ws0)∧∀us,AI γ.vw γ ws0 us→AI γ.vw γ ws us:=fun x ws hx h=>by
  rw [hB] at h
  grind
 refine⟨⟨hs.os.frm,hs.os.tok,hs.os.tnd,hs.os.tds,fun x ws h1 h2=>?_,fun x y ws ws' hne h1 h1' h2 h2'=>?_,fun x t ws tk h1 h1' h2 h2'=>?_,hs.os.tfr,fun x ws h1 h2=>?_,hs.os.hds,hs.os.beg,⟨hs.os.vw.k,hs.os.vw.t,fun x ws h1 h2=>?_,hs.os.vw.f⟩⟩,hs.sl,hs.td,fun x hx=>?_,hs.df,hs.n⟩
 ·obtain⟨ws0,k1,⟨-,k3⟩,k2⟩:=old x ws h1 h2
  obtain⟨us,j1,j2⟩:=hs.os.box x ws0 h1 k1
  exact⟨us,k2 us j1,j2.as k3⟩
 ·obtain⟨ws0,k1,-,-⟩:=old x ws h1 h2
  obtain⟨ws0',k1',-,-⟩:=old y ws' h1' h2'
  exact hs.os.bds x y ws0 ws0' hne h1 h1' k1 k1'
 ·obtain⟨ws0,k1,-,-⟩:=old x ws h1 h2
  exact hs.os.btd x t ws0 tk h1 h1' k1 h2'
 ·obtain⟨ws0,k1,⟨k2,-⟩,-⟩:=old x ws h1 h2
  rw [← k2]
  exact hs.os.bfr x ws0 h1 k1
 ·obtain⟨ws0,k1,-,-⟩:=old x ws h1 h2
  exact hs.os.vw.b x ws0 h1 k1
 ·show (look ((b,some vs')::σ.b) x).isSome =true
  rw [AJ]; split
  ·rfl
  ·exact hs.bd x hx
theorem Sim.nilTok {γ} {σ} {a} {w} (hs:Sim cx N γ σ a w) {t} (ap:Option Nat) (z:Bool) (ht:look σ.t t=none):Sim cx N (γ.tok w t (.slice none 0 0) [] 0) ⟨σ.s,(t,some ⟨[],ap,0,z⟩)::σ.t,σ.b⟩ a w∧∀v,v= .slice none 0 0→VSim (γ.tok w t (.slice none 0 0) [] 0).vw (γ.tok w t (.slice none 0 0) [] 0) (.own t) v:=by
 have hnt:¬γ.tl t:=fun h=>by have:=hs.td t h; rw [ht] at this; grind
 have hT:σ.T t=none:=by grind [St.T]
 have hos:=hs.os.putTok (t:=t) (tk:=⟨[],ap,0,z⟩) (v:=.slice none 0 0) (fp:=[]) hT (fun h=>(hnt h).elim) (by
  grind [A4.nil]) List.nodup_nil (by simp) (fun h=>(hnt h).elim) (fun h=>(hnt h).elim)
 have he:Gh.Ext γ (γ.tok w t (.slice none 0 0) [] 0):=Gh.tok_ext fun h=>(hnt h).elim
 have hTe:(fun x=>if x=t then some ⟨[],ap,0,z⟩ else σ.T x)=St.T ⟨σ.s,(t,some ⟨[],ap,0,z⟩)::σ.t,σ.b⟩:=by
  funext x
  unfold St.T
  simp only [AJ]
  split <;> rfl
 rw [hTe] at hos
 refine⟨⟨hos,fun i=>VSim.mono he.vw he (hs.sl i),fun x hx=>?_,hs.bd,hs.df,hs.n⟩,fun v hv=>?_⟩
 ·show (look ((t,some ⟨[],ap,0,z⟩)::σ.t) x).isSome =true
  rw [AJ]; split
  ·rfl
  ·rename_i hne
   exact hs.td x (hx.resolve_right hne)
 ·simp only [VSim]
  have:(γ.tok w t (.slice none 0 0) [] 0).tv t= .slice none 0 0:=by show (if t=t then _ else _)=_; rw [if_pos rfl]
  rw [this]
  exact⟨⟨.inr rfl,none,0,0,rfl⟩,hv⟩
mutual
theorem G6 {w0} {γ} {x y}:∀ {v} {p} {u},VSim w0 γ v u→JM v p=some x→(∀u,VSim w0 γ x u→VSim w0 γ y u)→VSim w0 γ (GW v p y) u:=by
 intro v p u hv hg hxy
 cases p with
 |nil=>
  cases v <;> simp only [JM,Option.some.injEq] at hg <;> subst hg <;> simp only [GW] <;> exact hxy u hv
 | cons k p=>
  cases v with
  | agg vs=>
   simp only [JM] at hg
   cases hk:vs[k]? with
   |none=>rw [hk] at hg; cases hg
   |some a=>
    rw [hk] at hg
    simp only [Option.bind_some] at hg
    simp only [GW,hk,VSim] at hv ⊢
    obtain⟨us,rfl,hv⟩:=hv
    exact⟨us,rfl,LN hv hk hg hxy⟩
  | tup vs=>
   simp only [JM] at hg
   cases hk:vs[k]? with
   |none=>rw [hk] at hg; cases hg
   |some a=>
    rw [hk] at hg
    simp only [Option.bind_some] at hg
    simp only [GW,hk,VSim] at hv ⊢
    obtain⟨us,rfl,hv⟩:=hv
    exact⟨us,rfl,LN hv hk hg hxy⟩
  |_=>simp [JM] at hg
theorem LN {w0} {γ} {x y}:∀ {vs} {us} {k} {a} {p},AI w0 γ vs us→vs[k]? =some a→JM a p=some x→(∀u,VSim w0 γ x u→VSim w0 γ y u)→AI w0 γ (vs.set k (GW a p y)) us:=by
 intro vs us k a p hv hk hg hxy
 cases vs with
 |nil=>simp at hk
 | cons b vs=>
  simp only [AI] at hv
  obtain⟨u,us',rfl,h1,h2⟩:=hv
  cases k with
  |zero=>
   simp only [List.getElem?_cons_zero,Option.some.injEq] at hk
   subst hk
   simp only [List.set_cons_zero,AI]
   exact⟨u,us',rfl,G6 h1 hg hxy,h2⟩
  |succ k=>
   simp only [List.set_cons_succ,AI]
   exact⟨u,us',rfl,h1,LN h2 (by simpa using hk) hg hxy⟩
end
theorem Sim.litTok {z} {γ} {σ} {a} {w} (hs:Sim cx N γ σ a w) {t b n sz} {vs} {ds} (hb:σ.B b=some vs) (hd:Lq z vs=some ds) (hl:ds.length=n*sz) (hz:0<sz) (hp:1000≤b) (ht:look σ.t t=none):
  ∃γ1,Sim cx N γ1 ⟨σ.s,(t,some ⟨Cg sz n ds,some sz,0,z⟩)::σ.t,(b,none)::σ.b⟩ a w∧∀u,VSim γ1.vw γ1 (.bsl b n sz) u→VSim γ1.vw γ1 (.own t) u:=by
 have hnt:¬γ.tl t:=fun h=>by have:=hs.td t h; rw [ht] at this; grind
 have hTn:σ.T t=none:=by grind [St.T]
 have e1:St.B ⟨σ.s,(t,some ⟨Cg sz n ds,some sz,0,z⟩)::σ.t,(b,none)::σ.b⟩=fun x=>if x=b then none else σ.B x:=by
  funext x
  unfold St.B
  simp only [AJ]
  split <;> rfl
 have e2:St.T ⟨σ.s,(t,some ⟨Cg sz n ds,some sz,0,z⟩)::σ.t,(b,none)::σ.b⟩=fun x=>if x=t then some ⟨Cg sz n ds,some sz,0,z⟩ else σ.T x:=by
  funext x
  unfold St.T
  simp only [AJ]
  split <;> rfl
 have hs0:OSim cx γ σ.T (fun x=>if x=b then none else σ.B x) w:=hs.os.tables (fun _ _ _ h=>h) fun x vs _ h=>by
  grind
 have htd:∀x,γ.tl x∨x=t→(look ((t,some (⟨Cg sz n ds,some sz,0,z⟩:Tok))::σ.t) x).isSome =true:=fun x hx=>by
  rw [AJ]
  split
  ·rfl
  ·rename_i hne; exact hs.td x (hx.resolve_right hne)
 have hbd:∀x,γ.bl x→(look ((b,none)::σ.b) x).isSome =true:=fun x hx=>by
  rw [AJ]
  split
  ·rfl
  ·exact hs.bd x hx
 by_cases hbl:γ.bl b∧n≤maxLen
 ·obtain⟨hbl,hnm⟩:=hbl
  obtain⟨us,h1,h1'⟩:=hs.os.box b vs hbl hb
  obtain⟨cs,e,h2,h3⟩:=h1'.cells (V1 hd)
  have hul:=h1.length
  have hov:=Tz (w:=w) hd h1
  have hvl:=hov.length
  have hR:OwnR (zvw z γ.vw) w cs.toList sz (γ.bo b) (Cg sz n ds) [] :=OwnR.of_chunks hl (Dg.cells hov fun j hj=>by rw [Array.getElem?_toList]; grind)
  have hlen:γ.bo b+n*sz≤cs.toList.length∨n*sz=0:=by
   by_cases h0:n*sz=0
   ·omega
   ·have h4:=h3 (us.length - 1) (by omega)
    rw [List.getElem?_eq_getElem (show us.length - 1<us.length by omega)] at h4
    grind
  have hlt:=lt_of_block h2
  have hfresh:cx.we.heap.size≤γ.bb b:=by
   rcases hs.os.bfr b vs hbl hb with h|⟨h,-⟩
   ·exact h
   ·omega
  by_cases hbo:γ.bo b≤cs.toList.length
  ·have hok:A4 γ.vw w ⟨Cg sz n ds,some sz,0,z⟩ (.slice (some ⟨γ.bb b,γ.bo b,none⟩) n n) [γ.bb b] :=by
    refine .inr ⟨γ.bb b,γ.bo b,n,e,cs.toList,[],by rw [Ch],by rw [Ch]; omega,hnm,by simp_all [Blk],?_,hR,rfl⟩
    omega
   have hos:=hs0.putTok (t:=t) hTn (fun h=>(hnt h).elim) hok (List.nodup_cons.2 ⟨by simp,List.nodup_nil⟩) (fun g hg=>by
    rw [List.mem_singleton] at hg
    subst hg
    refine⟨fun x tk h5 h6=>hs.os.btd b x vs tk hbl h5 hb h6,fun x ws h5 h6=>?_,.inl hfresh,hs.os.vw.b b vs hbl hb⟩
    split at h6
    ·cases h6
    ·rename_i hne
     exact hs.os.bds x b ws vs hne h5 hbl h6 hb) (fun h=>(hnt h).elim) (fun h=>(hnt h).elim)
   have he:Gh.Ext γ (γ.tok w t (.slice (some ⟨γ.bb b,γ.bo b,none⟩) n n) [γ.bb b] 0):=Gh.tok_ext fun h=>(hnt h).elim
   refine⟨_,⟨by rw [e1,e2]; omega,fun i=>VSim.mono he.vw he (hs.sl i),fun x hx=>htd x hx,fun x hx=>hbd x hx,hs.df,hs.n⟩,fun u hu=>?_⟩
   simp only [VSim] at hu ⊢
   have htv:(γ.tok w t (.slice (some ⟨γ.bb b,γ.bo b,none⟩) n n) [γ.bb b] 0).tv t= .slice (some ⟨γ.bb b,γ.bo b,none⟩) n n:=by show (if t=t then _ else _)=_; rw [if_pos rfl]
   rw [htv]
   exact⟨⟨.inr rfl,_,_,_,rfl⟩,hu.2.2⟩
  · -- an empty slice behind the block's end
   have hn0:n*sz=0:=by
    omega
   by_cases hz0:n=0
   ·subst hz0
    have hds:ds=[] :=List.eq_nil_of_length_eq_zero (by omega)
    subst hds
    have hos:=hs0.putTok (t:=t) (tk:=⟨Cg sz 0 [],some sz,0,z⟩) (v:=.slice (some ⟨γ.bb b,γ.bo b,none⟩) 0 0) (fp:=[]) hTn (fun h=>(hnt h).elim) (A4.nil ⟨_,rfl⟩) List.nodup_nil (by simp) (fun h=>(hnt h).elim) (fun h=>(hnt h).elim)
    have he:Gh.Ext γ (γ.tok w t (.slice (some ⟨γ.bb b,γ.bo b,none⟩) 0 0) [] 0):=Gh.tok_ext fun h=>(hnt h).elim
    refine⟨_,⟨by rw [e1,e2]; omega,fun i=>VSim.mono he.vw he (hs.sl i),fun x hx=>htd x hx,fun x hx=>hbd x hx,hs.df,hs.n⟩,fun u hu=>?_⟩
    simp only [VSim] at hu ⊢
    have htv:(γ.tok w t (.slice (some ⟨γ.bb b,γ.bo b,none⟩) 0 0) [] 0).tv t= .slice (some ⟨γ.bb b,γ.bo b,none⟩) 0 0:=by show (if t=t then _ else _)=_; rw [if_pos rfl]
    rw [htv]
    exact⟨⟨.inr rfl,_,_,_,rfl⟩,hu.2.2⟩
   grind [Nat.mul_eq_zero]
 ·refine⟨γ,⟨?_,fun i=>hs.sl i,fun x hx=>htd x (.inl hx),hbd,hs.df,hs.n⟩,fun u hu=>?_⟩
  ·rw [e1,e2]
   refine hs0.tables (fun x tk hx h=>?_) fun _ _ _ h=>h
   rw [if_neg (fun (e:x=t)=>hnt (e ▸ hx))] at h
   exact h
  grind [VSim]
theorem Sim.takeTok {γ} {σ} {a} {w} (hs:Sim cx N γ σ a w) {t n g} {q} {tk} {r} (hT:σ.T t=some tk) (hg:tk.gen=g) (hq:getP q tk.rows=some r) (hq0:q≠ []) (hne:n≠t) (hn:look σ.t n=none):
  ∃γ1,Sim cx N γ1 ⟨σ.s,(n,some ⟨r,none,0,tk.z⟩)::(t,some ⟨putR q tk.rows .gone,tk.sz,g,tk.z⟩)::σ.t,σ.b⟩ a w∧∀u,VSim γ1.vw γ1 (.sub t g q) u→VSim γ1.vw γ1 (.own n) u:=by
 have hnl:¬γ.tl n:=fun h=>by have:=hs.td n h; rw [hn] at this; grind
 have hTn:σ.T n=none:=by grind [St.T]
 obtain⟨γ1,he,hos1,hc1,htl1,hbl1⟩:∃γ1,Gh.Ext γ γ1∧OSim cx γ1 (tset (tset σ.T t (some ⟨putR q tk.rows .gone,tk.sz,g,tk.z⟩)) n (some ⟨r,none,0,tk.z⟩)) σ.B w∧(γ.tl t→Carved γ1 w n t g q)∧(∀x,γ1.tl x→γ.tl x∨(x=n∧γ.tl t))∧(∀b,γ1.bl b→γ.bl b):=by
  by_cases htl:γ.tl t
  ·obtain⟨γ1,h1,h2,h3,h4,h5⟩:=hs.os.carve hTn hnl htl hT hg hq0 hq hne
   grind
  ·refine⟨γ,Gh.Ext.refl γ,hs.os.tables (fun x tk' hx h=>?_) (fun _ _ _ h=>h),fun h=>absurd h htl,fun x hx=>.inl hx,fun b hb=>hb⟩
   grind [tset]
 have e2:St.T ⟨σ.s,(n,some ⟨r,none,0,tk.z⟩)::(t,some ⟨putR q tk.rows .gone,tk.sz,g,tk.z⟩)::σ.t,σ.b⟩=tset (tset σ.T t (some ⟨putR q tk.rows .gone,tk.sz,g,tk.z⟩)) n (some ⟨r,none,0,tk.z⟩):=by
  grind [St.T,tset,AJ]
 refine⟨γ1,⟨by rw [e2]; exact hos1,fun x=>VSim.mono he.vw he (hs.sl x),fun x hx=>?_,fun x hx=>hs.bd x (hbl1 x hx),hs.df,hs.n⟩,fun u hu=>?_⟩
 ·show (look ((n,some (⟨r,none,0,tk.z⟩:Tok))::(t,some (⟨putR q tk.rows .gone,tk.sz,g,tk.z⟩:Tok))::σ.t) x).isSome =true
  rw [AJ]
  split
  ·rfl
  ·rename_i hx1
   rw [AJ]
   split
   ·rfl
   ·exact hs.td x ((htl1 x hx).elim id fun h=>absurd h.1 hx1)
 ·simp only [VSim] at hu ⊢
  have htl:γ.tl t:=(htl1 t hu.1.1).elim id fun h=>absurd h.1.symm hne
  have hc:=hc1 htl
  rw [hc.av]
  exact⟨⟨hc.tl,hu.2.1⟩,hu.2.2⟩
theorem M8 {w0:World} {γ:Gh} {f:AV→Option AV} {tm:Nat→Value} (hf:∀a u x,VSim w0 γ a u→f a=some x→VSim w0 γ x u):∀ {ps:List (Nat × List Nat)} {s s':List (Nat × AV)},(∀i,VSim w0 γ ((look s i).getD .any) (tm i))→rpS f ps s=some s'→∀i,VSim w0 γ ((look s' i).getD .any) (tm i)
 | [],s,s',hs,h=>by
  grind [rpS]
 | (i,p)::ps,s,s',hs,h=>by
  rw [rpS] at h
  cases ha:JM ((look s i).getD .any) p with
  |none=>rw [ha] at h; cases h
  | some a=>
   rw [ha] at h
   cases hx:f a with
   |none=>grind
   |some x=>
    simp only [hx] at h
    refine M8 hf (fun j=>?_) h
    rw [AJ]
    grind [G6]
theorem M9 {γ:Gh} {f:AV→Option AV} {a:Act} {w:World} (hf:∀a u x,VSim γ.vw γ a u→f a=some x→VSim γ.vw γ x u):∀ {cs:List (Nat × Nat)} {σ:St} {b':List (Nat × Option (List AV))},Sim cx N γ σ a w→rpB f cs σ.b=some b'→Sim cx N γ ⟨σ.s,σ.t,b'⟩ a w
 | [],σ,b',hs,h=>by
  simp only [rpB,Option.some.injEq] at h
  subst h; exact hs
 | (b,j)::cs,σ,b',hs,h=>by
  rw [rpB] at h
  cases hv:(look σ.b b).join with
  |none=>rw [hv] at h; cases h
  | some vs=>
   rw [hv] at h
   cases ha:vs[j]? with
   |none=>grind
   | some v=>
    simp only [ha] at h
    cases hx:f v with
    |none=>grind
    | some x=>
     simp only [hx] at h
     split at h
     ·rename_i hm
      have h1:=Sim.boxed hs (b:=b) (vs:=vs) (vs':=vs.set j x) hv (by simp) (UD hm.1 hm.2) fun us hu=>JD hu fun u hu'=>hf v u x (Ke hu ha hu') hx
      exact M9 (σ:=⟨σ.s,σ.t,(b,some (vs.set j x))::σ.b⟩) hf h1 h
     grind
theorem Sim.frzT {γ:Gh} {σ:St} {a:Act} {w:World} (hs:Sim cx N γ σ a w) {t:Nat} {tk:Tok} {ps:List (Nat × List Nat)} {cs:List (Nat × Nat)} {s':List (Nat × AV)} {b':List (Nat × Option (List AV))} (hT:σ.T t=some tk)
  (h1:rpS (cl (only t tk) fun _=>none) ps σ.s=some s') (h2:rpB (cl (only t tk) fun _=>none) cs σ.b=some b'):SimE cx N ⟨s',(t,none)::σ.t,b'⟩ a w:=by
 have e1:∀x,St.T ⟨σ.s,(t,none)::σ.t,σ.b⟩ x=if x=t then none else σ.T x:=fun x=>by
  unfold St.T; simp only [AJ]; split <;> rfl
 have hg:=hs.os.grow (F:=fun g=>γ.tl t∧g ∈ γ.tf t) (T':=St.T ⟨σ.s,(t,none)::σ.t,σ.b⟩) (B':=σ.B) (fun x tk' _ h=>by rw [e1] at h; grind) (fun _ _ _ h=>h)
  (fun g hF=>hs.os.vw.t t tk hF.1 hT g hF.2) (fun x tk' hx h g hg hF=>by
   rw [e1] at h
   split at h
   ·cases h
   ·rename_i hne
    exact hs.os.tds t x tk tk' (fun e=>hne e.symm) hF.1 hx hT h g hF.2 hg) (fun b vs hb hB hF=>hs.os.btd b t vs tk hb hF.1 hB hT hF.2) (fun g hF=>(hs.os.tfr t tk hF.1 hT g hF.2).imp id And.left)
 generalize hW:mix γ.vw w (fun g=>γ.tl t∧g ∈ γ.tf t)=W at hg
 have hk:AS γ.vw W:=by rw [← hW]; exact SE hs.os.vw.k fun g hF=>hs.os.vw.t t tk hF.1 hT g hF.2
 have he:=Gh.grow_ext (γ:=γ) hk
 have hsee:VwOk W (γ.grow W) (only t tk) (fun _=>none) W:=by
  refine⟨AS.refl _,fun x tk' hx h=>?_,fun _ _ _ h=>(by cases h),fun x tk' hx h=>?_⟩
  ·obtain⟨rfl,rfl⟩:=M4 h
   exact((hs.os.tok x tk hx hT).mono hk).keep fun g hg=>by rw [← hW]; exact P0 ⟨hx,hg⟩
  ·obtain⟨rfl,rfl⟩:=M4 h
   exact(hs.os.hds x tk hx hT).keep (hs.os.tok x tk hx hT).own fun g hg=>by rw [← hW]; exact P0 ⟨hx,hg⟩
 have hf:∀a u x,VSim (γ.grow W).vw (γ.grow W) a u→cl (only t tk) (fun _=>none) a=some x→VSim (γ.grow W).vw (γ.grow W) x u:=fun a u x hv hx=>
  VSim.mono (AS.refl _) (JP _) (JO hsee hv hx)
 have hs1:Sim cx N (γ.grow W) ⟨σ.s,(t,none)::σ.t,σ.b⟩ a w:=⟨hg,fun i=>VSim.mono he.vw he (hs.sl i),fun x hx=>by
  show (look ((t,none)::σ.t) x).isSome =true
  rw [AJ]; split
  ·rfl
  ·exact hs.td x hx,hs.bd,hs.df,hs.n⟩
 have hs2:=M9 hf hs1 h2
 exact⟨_,hs2.os,M8 hf hs2.sl h1,hs2.td,hs2.bd,hs2.df,hs2.n⟩
theorem Sim.frzB {γ:Gh} {σ:St} {a:Act} {w:World} (hs:Sim cx N γ σ a w) {b:Nat} {vs:List AV} {ps:List (Nat × List Nat)} {cs:List (Nat × Nat)} {s':List (Nat × AV)} {b':List (Nat × Option (List AV))} (hB:σ.B b=some vs) (hp:1000≤b)
  (h1:rpS (cl (fun _=>none) (only b vs)) ps σ.s=some s') (h2:rpB (cl (fun _=>none) (only b vs)) cs ((b,none)::σ.b)=some b'):SimE cx N ⟨s',σ.t,b'⟩ a w:=by
 have e1:∀x,St.B ⟨σ.s,σ.t,(b,none)::σ.b⟩ x=if x=b then none else σ.B x:=fun x=>by
  unfold St.B; simp only [AJ]; split <;> rfl
 have hg:=hs.os.grow (F:=fun g=>γ.bl b∧g=γ.bb b) (T':=σ.T) (B':=St.B ⟨σ.s,σ.t,(b,none)::σ.b⟩) (fun _ _ _ h=>h) (fun x ws _ h=>by rw [e1] at h; grind)
  (fun g hF=>by rw [hF.2]; exact hs.os.vw.b b vs hF.1 hB) (fun x tk' hx h g hg hF=>hs.os.btd b x vs tk' hF.1 hx hB h (hF.2 ▸ hg)) (fun x ws hx h hF=>by
   rw [e1] at h
   split at h
   ·cases h
   ·rename_i hne
    exact hs.os.bds x b ws vs hne hx hF.1 h hB hF.2) (fun g hF=>by
   rcases hs.os.bfr b vs hF.1 hB with h|⟨h,-⟩
   ·omega
   ·omega)
 generalize hW:mix γ.vw w (fun g=>γ.bl b∧g=γ.bb b)=W at hg
 have hk:AS γ.vw W:=by rw [← hW]; exact SE hs.os.vw.k fun g hF=>by rw [hF.2]; exact hs.os.vw.b b vs hF.1 hB
 have he:=Gh.grow_ext (γ:=γ) hk
 have hsee:VwOk W (γ.grow W) (fun _=>none) (only b vs) W:=by
  refine⟨AS.refl _,fun _ _ _ h=>(by cases h),fun x ws hx h=>?_,fun _ _ _ h=>(by cases h)⟩
  obtain⟨rfl,rfl⟩:=M4 h
  obtain⟨us,h3,h4⟩:=hs.os.box x vs hx hB
  exact⟨us,AI.mono hk he h3,h4.keep (by rw [← hW]; exact P0 ⟨hx,rfl⟩)⟩
 have hf:∀a u x,VSim (γ.grow W).vw (γ.grow W) a u→cl (fun _=>none) (only b vs) a=some x→VSim (γ.grow W).vw (γ.grow W) x u:=fun a u x hv hx=>
  VSim.mono (AS.refl _) (JP _) (JO hsee hv hx)
 have hs1:Sim cx N (γ.grow W) ⟨σ.s,σ.t,(b,none)::σ.b⟩ a w:=⟨hg,fun i=>VSim.mono he.vw he (hs.sl i),hs.td,fun x hx=>by
  show (look ((b,none)::σ.b) x).isSome =true
  rw [AJ]; split
  ·rfl
  ·exact hs.bd x hx,hs.df,hs.n⟩
 have hs2:=M9 hf hs1 h2
 exact⟨_,hs2.os,M8 hf hs2.sl h1,hs2.td,hs2.bd,hs2.df,hs2.n⟩
theorem Yw {w} {b}:∀ {n off},RepR w 0 b off (List.replicate n [])
 |0,off=>by grind [RepR]
 |n+1,off=>by
  simp only [List.replicate,RepR,RepC]
  exact⟨rfl,trivial,Yw⟩
theorem iC {w0 W} {γ} {T} {B} {w} {t g n} {p} {rows} (hs:VwOk w0 γ T B w) (htl:γ.tl t) (h:subR T t g p=some rows) (hn:rows.length=n):Rep W (.sl (List.replicate n [])) (γ.hv t g p):=by
 obtain⟨tk,f1,f2,f3,hT,-,-,-,-,hown,-⟩:=Ix hs htl h
 subst hn
 simp only [Rep,List.length_replicate]
 simp only [Own] at hown
 rcases hown with ⟨h1,⟨a,c,h2,h3⟩,-⟩|⟨sz,g,o,c,e,cs,fps,h1,h2,h3,-⟩
 ·grind
 ·exact⟨_,c,h1,h2,h3,.inr ⟨0,g,o,rfl,Yw⟩⟩
theorem OC {σ σ1:St} {a:Act} {w:World} (h:Nils σ σ1):SimE cx N σ a w→SimE cx N σ1 a w:=by
 induction h with
 |done σ=>exact id
 | @slot σ σ1 i t ap z hi ht hk ih=>
  rintro ⟨γ,hs⟩
  refine ih ?_
  obtain⟨h1,h2⟩:=hs.nilTok ap z ht
  have hv:=hs.sl i
  rw [hi] at hv
  simp only [VSim] at hv
  refine⟨_,⟨h1.os,fun x=>?_,h1.td,h1.bd,h1.df,h1.n⟩⟩
  have hg:St.g ⟨(i,.own t)::σ.s,(t,some ⟨[],ap,0,z⟩)::σ.t,σ.b⟩ x=if x=i then .own t else σ.g x:=by
   unfold St.g; simp only [AJ]; split <;> rfl
  rw [hg]
  split
  ·grind
  ·exact h1.sl x
 | @deep σ σ1 i t ap z p hi ht hk ih=>
  rintro ⟨γ,hs⟩
  refine ih ?_
  obtain⟨h1,h2⟩:=hs.nilTok ap z ht
  refine⟨_,⟨h1.os,fun x=>?_,h1.td,h1.bd,h1.df,h1.n⟩⟩
  have hg:St.g ⟨(i,GW (σ.g i) p (.own t))::σ.s,(t,some ⟨[],ap,0,z⟩)::σ.t,σ.b⟩ x=if x=i then GW (σ.g i) p (.own t) else σ.g x:=by
   unfold St.g; simp only [AJ]; split <;> rfl
  rw [hg]
  split
  ·rename_i e
   subst e
   exact G6 (h1.sl x) hi fun u hu=>h2 u (by grind [VSim])
  ·exact h1.sl x
 | @take σ σ1 i t n g p q tk r hi hT hg hq hq0 hne hn hk ih=>
  rintro ⟨γ,hs⟩
  refine ih ?_
  obtain⟨γ1,h1,h2⟩:=hs.takeTok hT hg hq hq0 hne hn
  refine⟨γ1,⟨h1.os,fun x=>?_,h1.td,h1.bd,h1.df,h1.n⟩⟩
  have hg':St.g ⟨(i,GW (σ.g i) p (.own n))::σ.s,(n,some ⟨r,none,0,tk.z⟩)::(t,some ⟨putR q tk.rows .gone,tk.sz,g,tk.z⟩)::σ.t,σ.b⟩ x=if x=i then GW (σ.g i) p (.own n) else σ.g x:=by
   unfold St.g; simp only [AJ]; split <;> rfl
  rw [hg']
  split
  ·rename_i e
   subst e
   exact G6 (h1.sl x) hi h2
  ·exact h1.sl x
 | @ctake σ σ1 b j t n g vs q tk r hb hj hT hg hq hq0 hne hn hk ih=>
  rintro ⟨γ,hs⟩
  refine ih ?_
  obtain⟨γ1,h1,h2⟩:=hs.takeTok hT hg hq hq0 hne hn
  exact⟨_,Sim.boxed h1 (b:=b) (vs:=vs) hb (by simp) (SK hj rfl rfl) fun us hu=>JD hu fun u h=>h2 u (Ke hu hj h)⟩
 | @lit σ σ1 i t b n sz z p vs ds hi hb hd hl hz hp ht hk ih=>
  rintro ⟨γ,hs⟩
  refine ih ?_
  obtain⟨γ1,h1,h2⟩:=hs.litTok (n:=n) (sz:=sz) hb hd hl hz hp ht
  refine⟨_,⟨h1.os,fun x=>?_,h1.td,h1.bd,h1.df,h1.n⟩⟩
  have hg:St.g ⟨(i,GW (σ.g i) p (.own t))::σ.s,(t,some ⟨Cg sz n ds,some sz,0,z⟩)::σ.t,(b,none)::σ.b⟩ x=if x=i then GW (σ.g i) p (.own t) else σ.g x:=by
   unfold St.g; simp only [AJ]; split <;> rfl
  rw [hg]
  split
  ·rename_i e
   subst e
   exact G6 (h1.sl x) hi h2
  ·exact h1.sl x
 | @cell σ σ1 b j t ap z vs hb hj ht hk ih=>
  rintro ⟨γ,hs⟩
  refine ih ?_
  obtain⟨h1,h2⟩:=hs.nilTok ap z ht
  refine⟨_,Sim.boxed h1 (b:=b) (vs:=vs) hb (by simp) (SK hj rfl rfl) fun us hu=>JD hu fun u h=>h2 u ?_⟩
  have:=Ke hu hj h
  grind [VSim]
 | @chdr σ σ1 b j t g n q vs r hb hj hr hn hk ih=>
  rintro ⟨γ,hs⟩
  refine ih ?_
  refine⟨γ,Sim.boxed hs (b:=b) (vs:=vs) hb (by simp) (SK hj rfl rfl) fun us hu=>JD hu fun u h=>?_⟩
  have h1:=Ke hu hj h
  simp only [VSim] at h1 ⊢
  obtain⟨⟨htl,hgl⟩,-,rfl⟩:=h1
  exact iC hs.os.see htl hr hn
 | @forget σ σ1 i p x hi hk ih=>
  rintro ⟨γ,hs⟩
  refine ih ?_
  refine⟨γ,⟨hs.os,fun y=>?_,hs.td,hs.bd,hs.df,hs.n⟩⟩
  have hg:St.g ⟨(i,GW (σ.g i) p .any)::σ.s,σ.t,σ.b⟩ y=if y=i then GW (σ.g i) p .any else σ.g y:=by
   unfold St.g; simp only [AJ]; split <;> rfl
  rw [hg]
  split
  ·rename_i e
   subst e
   exact G6 (hs.sl y) hi fun u _=>by grind [VSim]
  ·exact hs.sl y
 | @frzT σ σ1 t ps cs tk s' b' hT hp h1 h2 hk ih=>
  rintro ⟨γ,hs⟩
  exact ih (hs.frzT hT h1 h2)
 | @frzB σ σ1 b ps cs vs s' b' hB hp hm h1 h2 hk ih=>
  rintro ⟨γ,hs⟩
  exact ih (hs.frzB hB hp h1 h2)
 | @frzN σ σ1 ps cs s' b' h1 h2 hk ih=>
  rintro ⟨γ,hs⟩
  have hf:∀a u x,VSim γ.vw γ a u→Vm a=some x→VSim γ.vw γ x u:=fun a u x hv hx=>by
   cases a <;> simp only [Vm] at hx <;> first|cases hx|skip
   grind [VSim,Rep]
  have hs2:=M9 hf hs h2
  exact ih ⟨_,hs2.os,M8 hf hs2.sl h1,hs2.td,hs2.bd,hs2.df,hs2.n⟩
 | @drop σ σ1 b j vs hb hm hk ih=>
  rintro ⟨γ,hs⟩
  refine ih ?_
  exact⟨γ,Sim.boxed hs (b:=b) (vs:=vs) hb (by simp) (UD hm rfl) fun us hu=>JD hu fun u h=>by grind [VSim]⟩
theorem Xk {σ σ0} {a} {w} (hs:SimE cx N σ a w) (hw:eG σ σ0):SimE cx N σ0 a w:=by
 obtain⟨σ1,h1,h2⟩:=hw
 exact WE (OC h1 hs) h2
end
end Go.Proofs.YtnfgeocnolheoaaGreat.Ab
