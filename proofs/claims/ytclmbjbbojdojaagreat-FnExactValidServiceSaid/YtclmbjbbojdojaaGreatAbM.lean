/-
  The abstract walk, thirteenth part: operations one after another.
-/
import Derived.Test.YtclmbjbbojdojaaGreatAbLa
import Derived.Tactics
namespace Go.Proofs.YtclmbjbbojdojaaGreat.Ab
set_option linter.unusedVariables false
set_option maxHeartbeats 1000000
set_option linter.unusedSimpArgs false
open Go.RowKit
mutual
def KH:Value→Bool
 | .int k n=>(Lit.int k n).wf
 | .string s=>decide (s.size≤maxLen)
 | .agg cs=>MT cs.toList
 |_=>true
def MT:List Value→Bool
 | [] =>true
 |v::vs=>KH v&&MT vs
end
mutual
theorem Mx {w0} {γ}:∀ (v:Value),KH v=true→VSim w0 γ (BV v) v
 | .int k n,h=>by grind [KH,BV,C2]
 | .bool b,h=>by rfl
 | .string s,h=>by grind [KH,BV,Uo]
 | .agg cs,h=>by
  simp only [KH] at h
  simp only [BV,VSim]
  exact⟨cs.toList,by simp,LZ cs.toList h⟩
 | .slice none 0 0,h=>by rfl
 | .slice none 0 (c+1),h=>by simp only [BV]; trivial
 | .slice none (n+1) c,h=>by simp only [BV]; trivial
 | .slice (some a) n c,h=>by simp only [BV]; trivial
 | .pointer none,h=>by rfl
 | .pointer (some a),h=>by simp only [BV]; trivial
 | .float _ _,h=>by simp only [BV]; trivial
 | .complex _ _ _,h=>by simp only [BV]; trivial
 | .map _,h=>by simp only [BV]; trivial
 | .chan _,h=>by simp only [BV]; trivial
 | .func _ _ _,h=>by simp only [BV]; trivial
 | .nilFunc,h=>by simp only [BV]; trivial
 | .iface _ _,h=>by simp only [BV]; trivial
 | .nilIface,h=>by simp only [BV]; trivial
 | .tuple _,h=>by simp only [BV]; trivial
theorem LZ {w0} {γ}:∀ (vs:List Value),MT vs=true→AF w0 γ (H4 vs) vs
 | [],h=>by rfl
 |v::vs,h=>by
  simp only [MT,Bool.and_eq_true] at h
  simp only [H4,AF]
  exact⟨v,vs,rfl,Mx v h.1,LZ vs h.2⟩
end
def EQ (N:Nat) (o:Oper):Bool:=(o.op.operands.toList.all fun| .const v=>KH v|_=>true)&&(match o.dst with|some d=>decide (d<N)|none=>true)
theorem St.g_put (σ:St) (dst:Option Tmp) (v:AV) (i:Nat):(σ.put dst v).g i=if dst=some i then v else σ.g i:=by
 unfold St.g St.put
 grind [AI]
theorem Uw (a:Act) (dst:Option Tmp) (v:Value) (i:Nat) (h:∀d,dst=some d→d<a.tmps.size):(a.put dst v).tmps.getD i undef=if dst=some i then v else a.tmps.getD i undef:=by
 cases dst with
 |none=>rfl
 |some d=>
  have hd:=h d rfl
  simp only [Act.put,Option.some.injEq]
  by_cases e:d=i
  ·simp_all
  simp_all
section
variable {cx:Cx} {N:Nat} {w:World} {P:Program}
theorem E2 {o} (h:EQ N o=true):∀d,o.dst=some d→d<N:=fun d hd=>by
 grind [EQ]
theorem KI {γ γ':Gh} {s:Nat→AV} {a:Act} (he:Gh.Ext γ γ') (hn:a.tmps.size=N) (hs:∀i,VSim γ.vw γ (s i) (a.tmps.getD i undef)) {dst:Option Tmp} (hd:∀d,dst=some d→d<N) {av:AV} {v:Value} (hv:VSim γ'.vw γ' av v):
  ∀i,VSim γ'.vw γ' (if dst=some i then av else s i) ((a.put dst v).tmps.getD i undef):=fun i=>by
 rw [Uw a dst v i (by rw [hn]; exact hd)]
 split
 ·exact hv
 ·exact VSim.mono he.vw he (hs i)
theorem KJ (a:Act) (dst:Option Tmp) (v:Value):(a.put dst v).tmps.size =a.tmps.size:=by cases dst <;> simp [Act.put]
theorem Hh (a:Act) (dst:Option Tmp) (v:Value):(a.put dst v).defers =a.defers:=by cases dst <;> rfl
theorem Bn {γ:Gh} {s:Nat→AV} {e:Operand→AV} {a:Act} {o:Oper} (hok:EQ N o=true) (he:∀x ∈ o.op.operands,e x=match x with| .tmp t=>s t| .const v=>BV v| .func f=>.fn f [] | .global _=>.any)
  (hs:∀t,.tmp t ∈ o.op.operands→VSim γ.vw γ (s t) (a.tmps.getD t undef)):∀x ∈ o.op.operands,VSim γ.vw γ (e x) (a.eval x):=fun x hx=>by
 rw [he x hx]
 unfold EQ at hok
 rw [Bool.and_eq_true] at hok
 have h1:=hok.1
 rw [List.all_eq_true] at h1
 have h2:=h1 x (Array.mem_toList_iff.2 hx)
 cases x with
 |tmp t=>exact hs t hx
 |const v=>exact Mx v h2
 |global g=>trivial
 |func f=>simp only [VSim]; exact⟨[],.inl ⟨rfl,rfl⟩,by rfl⟩
theorem St.e_eq (σ:St) (x:Operand):σ.e x=match x with| .tmp t=>σ.g t| .const v=>BV v| .func f=>.fn f [] | .global _=>.any :=by cases x <;> rfl
theorem UA:∀ (l:List (Nat × Tok)) (σ:List (Nat × Option Tok)) (x:Nat),(look σ x).isSome =true∨(∃y ∈ l,y.1 =x)→(look (addT σ l) x).isSome =true
 | [],σ,x,h=>by
  rcases h with h|⟨y,hy,-⟩
  ·exact h
  grind
 | (n,tk)::l,σ,x,h=>by
  simp only [addT,AI]
  split
  ·rfl
  ·rename_i hne
   refine UA l σ x ?_
   rcases h with h|⟨y,hy,hyx⟩
   ·exact .inl h
   ·rcases List.mem_cons.1 hy with rfl|hy
    ·exact absurd hyx.symm hne
    ·exact .inr ⟨y,hy,hyx⟩
theorem UB:∀ (l:List (Nat × List AV)) (σ:List (Nat × Option (List AV))) (x:Nat),(look σ x).isSome =true∨(∃y ∈ l,y.1 =x)→(look (addB σ l) x).isSome =true
 | [],σ,x,h=>by
  rcases h with h|⟨y,hy,-⟩
  ·exact h
  grind
 | (n,tk)::l,σ,x,h=>by
  simp only [addB,AI]
  split
  ·rfl
  ·rename_i hne
   refine UB l σ x ?_
   rcases h with h|⟨y,hy,hyx⟩
   ·exact .inl h
   ·rcases List.mem_cons.1 hy with rfl|hy
    ·exact absurd hyx.symm hne
    ·exact .inr ⟨y,hy,hyx⟩
theorem OU:∀ (l:List (Nat × Tok)) (σ:List (Nat × Option Tok)) (x:Nat),(∀y ∈ l,y.1 ≠x)→look (addT σ l) x=look σ x
 | [],_,_,_=>rfl
 |(n,tk)::l,σ,x,h=>by
  simp only [addT,AI]
  rw [if_neg (fun e=>h (n,tk) (by simp) e.symm),OU l σ x fun y hy=>h y (by grind)]
theorem OV:∀ (l:List (Nat × List AV)) (σ:List (Nat × Option (List AV))) (x:Nat),(∀y ∈ l,y.1 ≠x)→look (addB σ l) x=look σ x
 | [],_,_,_=>rfl
 |(n,tk)::l,σ,x,h=>by
  simp only [addB,AI]
  rw [if_neg (fun e=>h (n,tk) (by simp) e.symm),OV l σ x fun y hy=>h y (by grind)]
theorem La:∀ (l:List (Nat × Tok)) (σ:List (Nat × Option Tok)),(l.map (·.1)).Nodup →∀y ∈ l,look (addT σ l) y.1 =some (some y.2)
 | [],_,_,y,hy=>by cases hy
 | (n,tk)::l,σ,hn,y,hy=>by
  simp only [List.map_cons,List.nodup_cons] at hn
  simp only [addT,AI]
  rcases List.mem_cons.1 hy with rfl|hy
  ·rw [if_pos rfl]
  ·rw [if_neg (fun e:y.1 =n=>hn.1 (by rw [← e]; exact List.mem_map.2 ⟨y,hy,rfl⟩))]
   exact La l σ hn.2 y hy
theorem Lb:∀ (l:List (Nat × List AV)) (σ:List (Nat × Option (List AV))),(l.map (·.1)).Nodup →∀y ∈ l,look (addB σ l) y.1 =some (some y.2)
 | [],_,_,y,hy=>by cases hy
 | (n,tk)::l,σ,hn,y,hy=>by
  simp only [List.map_cons,List.nodup_cons] at hn
  simp only [addB,AI]
  rcases List.mem_cons.1 hy with rfl|hy
  ·rw [if_pos rfl]
  ·rw [if_neg (fun e:y.1 =n=>hn.1 (by rw [← e]; exact List.mem_map.2 ⟨y,hy,rfl⟩))]
   exact Lb l σ hn.2 y hy
theorem Fj {σ}:∀ {l},Cz σ l→∀y ∈ l,look σ.t y.1 =none
 | [],_,y,hy=>by cases hy
 |(n,tk)::l,h,y,hy=>by
  simp only [Cz] at h
  rcases List.mem_cons.1 hy with rfl|hy
  ·exact h.1
  ·exact Fj h.2 y hy
theorem E0 {σ}:∀ {l},Ei σ l→∀y ∈ l,look σ.b y.1 =none
 | [],_,y,hy=>by cases hy
 |(n,tk)::l,h,y,hy=>by
  simp only [Ei] at h
  rcases List.mem_cons.1 hy with rfl|hy
  ·exact h.1
  ·exact E0 h.2 y hy
def Le {α:Type} (T T':Nat→Option α):Prop:=∀x y,T x=some y→T' x=some y
theorem MU {T T'} (h:Le T T') {t g} {p} {r} (hs:subR T t g p=some r):subR T' t g p=some r:=by
 unfold subR at hs ⊢
 cases hT:T t with
 |none=>rw [hT] at hs; cases hs
 |some tk=>rw [h t tk hT]; rw [hT] at hs; exact hs
theorem bL {T T'} (h:Le T T') {a} {d} (hd:toD T a=some d):toD T' a=some d:=by
 cases a with
 |own t=>
  simp only [toD] at hd ⊢
  cases hT:T t with
  |none=>grind
  |some tk=>rw [h t tk hT]; grind
 |_=>first|exact hd|(simp [toD] at hd)
theorem Py {T T'} (h:Le T T'):∀ {as} {ds},toDs T as=some ds→toDs T' as=some ds
 | [],ds,hd=>by grind [toDs]
 | a::as,ds,hd=>by
  simp only [toDs] at hd ⊢
  cases ha:toD T a with
  |none=>simp [ha] at hd
  | some d=>
   cases has:toDs T as with
   |none=>simp [ha,has] at hd
   |some ds'=>
    rw [bL h ha,Py h has]
    simpa [ha,has] using hd
theorem UC {T T'} (h:Le T T') {t g} {p} {r} (hx:subE T t g p=some r):subE T' t g p=some r:=by
 unfold subE at hx ⊢
 cases hT:T t with
 |none=>rw [hT] at hx; cases hx
 |some tk=>rw [h t tk hT]; rw [hT] at hx; exact hx
theorem bM {T T'} {B B'} (h:Le T T') (hb:Le B B') {a} {d} (hd:toA T B a=some d):toA T' B' a=some d:=by
 cases a with
 |own t=>
  simp only [toA] at hd ⊢
  cases hT:T t with
  |none=>grind
  |some tk=>rw [h t tk hT]; grind
 |sub t g p=>
  simp only [toA] at hd ⊢
  cases hT:subE T t g p with
  |none=>grind
  |some r=>rw [UC h hT]; grind
 | bsl b n sz=>
  simp only [toA] at hd ⊢
  cases hB:B b with
  |none=>grind
  |some vs=>
   cases hd':toDs T vs with
   |none=>grind
   |some ds=>rw [hb b vs hB]; grind [Py]
 |_=>first|exact hd|(simp [toA] at hd)
theorem UD {T T'} {B B'} (h:Le T T') (hb:Le B B'):∀ {as} {ds},toAs T B as=some ds→toAs T' B' as=some ds
 | [],ds,hd=>by grind [toAs]
 | a::as,ds,hd=>by
  simp only [toAs] at hd ⊢
  cases ha:toA T B a with
  |none=>simp [ha] at hd
  | some d=>
   cases has:toAs T B as with
   |none=>simp [ha,has] at hd
   |some ds'=>
    rw [bM h hb ha,UD h hb has]
    simpa [ha,has] using hd
mutual
theorem Yd {T T'} {B B'} (h:Le T T') (hb:Le B B'):∀ {a x},cl T B a=some x→cl T' B' a=some x
 | .int _ _,x,hx=>by grind [cl]
 | .bool _,x,hx=>by grind [cl]
 | .str _,x,hx=>by grind [cl]
 | .ro _,x,hx=>by grind [cl]
 | .nils,x,hx=>by grind [cl]
 | .nilp,x,hx=>by grind [cl]
 | .rop vs off,x,hx=>by
  simp only [cl] at hx ⊢
  cases hc:cls T B vs with
  |none=>grind
  |some xs=>rw [Lc h hb hc]; grind
 | .own t,x,hx=>by
  simp only [cl] at hx ⊢
  cases hT:T t with
  |none=>grind
  |some tk=>rw [h t tk hT]; grind
 | .box b off,x,hx=>by
  simp only [cl] at hx ⊢
  cases hB:B b with
  |none=>grind
  |some vs=>
   cases hd:toAs T B vs with
   |none=>grind
   |some ds=>rw [hb b vs hB]; grind [UD]
 | .bsl b n sz,x,hx=>by
  simp only [cl] at hx ⊢
  cases hB:B b with
  |none=>grind
  |some vs=>
   cases hd:toDs T vs with
   |none=>grind
   |some ds=>rw [hb b vs hB]; grind [Py]
 | .elt t sz i off,x,hx=>by
  simp only [cl] at hx ⊢
  cases hT:T t with
  |none=>grind
  |some tk=>rw [h t tk hT]; grind
 | .agg vs,x,hx=>by
  simp only [cl] at hx ⊢
  cases hc:cls T B vs with
  |none=>grind
  |some xs=>rw [Lc h hb hc]; grind
 | .fn f vs,x,hx=>by
  simp only [cl] at hx ⊢
  cases hc:cls T B vs with
  |none=>grind
  |some xs=>rw [Lc h hb hc]; grind
 | .par t sz i n,x,hx=>by
  simp only [cl] at hx ⊢
  cases hT:T t with
  |none=>grind
  |some tk=>rw [h t tk hT]; grind
 | .sub t g p,x,hx=>by
  simp only [cl] at hx ⊢
  cases hT:subE T t g p with
  |none=>grind
  |some r=>rw [UC h hT]; grind
 | .els t g p sz i off,x,hx=>by
  grind [cl,MU]
 | .mpr _,x,hx=>by grind [cl]
 | .mpc _ _,x,hx=>by grind [cl]
 | .tup _,x,hx=>by simp [cl] at hx
 | .any,x,hx=>by simp [cl] at hx
theorem Lc {T T'} {B B'} (h:Le T T') (hb:Le B B'):∀ {as xs},cls T B as=some xs→cls T' B' as=some xs
 | [],xs,hx=>by grind [cls]
 | a::as,xs,hx=>by
  simp only [cls] at hx ⊢
  cases ha:cl T B a with
  |none=>simp [ha] at hx
  |some y=>
   cases has:cls T B as with
   |none=>simp [ha,has] at hx
   |some ys=>rw [Yd h hb ha,Lc h hb has]; simpa [ha,has] using hx
end
theorem Xh {T T'} {B B'} (h:Le T T') (hb:Le B B') {t} {a v} (hl:I6 P T B t a v):I6 P T' B' t a v:=by
 unfold I6 at*
 split at hl
 ·obtain⟨vs,h1,h2⟩:=hl; exact⟨vs,hb _ _ h1,h2⟩
 ·exact hl
 ·obtain⟨tk,row,h1,h2⟩:=hl; exact⟨tk,row,h _ _ h1,h2⟩
 ·grind [MU]
 omega
theorem Zj {T T'} (h:Le T T') {t} {x i v} (hl:Rc P T t x i v):Rc P T' t x i v:=by
 unfold Rc at*
 split at hl
 ·exact hl
 ·obtain⟨h0,tk,row,h1,h2⟩:=hl; exact⟨h0,tk,row,h _ _ h1,h2⟩
 ·grind [MU]
 ·exact hl
 omega
theorem Zk {T T'} {B B'} (h:Le T T') (hb:Le B B') {t} {x v} (hl:Rb P T B t x v):Rb P T' B' t x v:=by
 unfold Rb at*
 split at hl
 ·exact hl
 ·exact hl
 ·exact hl
 ·exact hl
 ·obtain⟨tk,h1,h2⟩:=hl; exact⟨tk,h _ _ h1,h2⟩
 ·grind [MU]
 ·obtain⟨q,rows,h1,h2⟩:=hl; exact⟨q,rows,hb _ _ h1,h2⟩
 omega
theorem Xi {B B'} (hb:Le B B') {t} {x i v} {ok} (hl:QT P B t x i ok v):QT P B' t x i ok v:=by
 unfold QT at*
 split at hl
 ·obtain⟨q,rows,h1,h2⟩:=hl; exact⟨q,rows,hb _ _ h1,h2⟩
 omega
theorem Xj {T T'} {B B'} (h:Le T T') (hb:Le B B') {pos} {g} {args} {r} (hl:Rd P T B pos g args r):Rd P T' B' pos g args r:=by
 unfold Rd at*
 grind [Lc]
theorem Zl {T T'} (h:Le T T') {t} {x v} {l h'} (hl:ZJ P T t x l h' v):ZJ P T' t x l h' v:=by
 unfold ZJ at*
 split at hl
 ·obtain⟨tk,h1,h2⟩:=hl; exact⟨tk,h _ _ h1,h2⟩
 omega
theorem Ye {T T'} {B B'} (h:Le T T') (hb:Le B B') {pos} {o} {e} {r} (hl:Ev P pos o e T B r):Ev P pos o e T' B' r:=by
 obtain⟨dst,op,ty,ps,after,guard⟩:=o
 unfold Ev at*
 dsimp only at*
 split at hl <;> try exact hl
 ·grind [Xh]
 ·grind [Yd]
 ·grind [Zj]
 ·grind [Zl]
 ·grind [Zk]
 ·grind [Xj]
 grind [Xi]
end
section
variable {cx:Cx} {N:Nat}
mutual
theorem WC:∀ (n:Nat) (r:RV),((conv n r).2.map (·.1))=List.range' n (conv n r).2.length
 |n,.int _ _=>rfl
 |n,.bool _=>rfl
 |n,.str _=>rfl
 |n,.ow _ _=>rfl
 |n,.ro _=>rfl
 |n,.nilp =>rfl
 |n,.agg vs=>by simp only [conv]; exact Pz n vs
 |n,.tup vs=>by simp only [conv]; exact Pz n vs
theorem Pz:∀ (n:Nat) (rs:List RV),((HB n rs).2.map (·.1))=List.range' n (HB n rs).2.length
 |n,[] =>rfl
 |n,r::rs=>by
  simp only [HB,List.map_append,List.length_append,WC n r,Pz (n+(conv n r).2.length) rs]
  rw [List.range'_append_1]
end
theorem P0 {P} {pos} {o} {e} {T} {B} {r} (h:Ev P pos o e T B r):(r.t.map (·.1)).Nodup ∧(r.b.map (·.1)).Nodup :=by
 have nil:(([] :List (Nat × Tok)).map (·.1)).Nodup ∧(([] :List (Nat × List AV)).map (·.1)).Nodup :=⟨List.nodup_nil,List.nodup_nil⟩
 have one:∀ (b:Nat) (vs:List AV),(([] :List (Nat × Tok)).map (·.1)).Nodup ∧([(b,vs)].map (·.1)).Nodup :=fun b vs=>⟨List.nodup_nil,by simp⟩
 obtain⟨dst,op,ty,ps,after,guard⟩:=o
 unfold Ev at h
 dsimp only at h
 split at h
 ·grind
 ·grind
 ·grind
 ·grind
 ·grind
 ·grind
 ·grind
 ·grind
 ·grind
 ·grind
 ·grind
 ·grind
 ·grind
 ·grind
 ·grind
 ·grind
 ·grind
 ·grind
 ·grind
 ·unfold Rd at h
  split at h
  ·obtain⟨-,h⟩:=h
   rcases h with h|h
   ·grind [WC]
   ·obtain⟨_,_,_,_,_,_,h⟩:=h
    grind
  grind
 ·split at h
  ·obtain⟨_,_,h⟩:=h
   split at h
   ·obtain⟨_,z,h⟩:=h
    cases z
    ·obtain⟨_,_,rfl⟩:=h; grind
    ·obtain⟨_,_,rfl⟩:=h; grind
    ·obtain⟨_,_,rfl⟩:=h; grind
   grind
  grind
 ·split at h
  ·obtain⟨_,_,_,_,h⟩:=h
   grind
  grind
 ·grind
 ·grind
 ·split at h
  ·obtain⟨_,_,_,_,_,_,_,_,_,rfl⟩:=h; grind
  grind
 ·grind
 ·grind
 grind
theorem Sim.add {γ γ':Gh} {σ:St} {a:Act} {w w':World} {dst:Option Tmp} {r:Res} {v:Value} (hs:Sim cx N γ σ a w) (hd:∀d,dst=some d→d<N) (hf:Cz σ r.t) (hfb:Ei σ r.b)
  (he:Gh.Ext γ γ') (ht:∀t,γ'.tl t→γ.tl t∨∃x ∈ r.t,x.1 =t) (hb:∀b,γ'.bl b→γ.bl b∨∃x ∈ r.b,x.1 =b) (hos:OSim cx γ' (σ.add dst r).T (σ.add dst r).B w') (hv:VSim γ'.vw γ' r.v v):Sim cx N γ' (σ.add dst r) (a.put dst v) w':=by
 have hg:∀i,(σ.add dst r).g i=if dst=some i then r.v else σ.g i:=fun i=>by
  have:(σ.add dst r).g i=(σ.put dst r.v).g i:=rfl
  rw [this,St.g_put]
 refine⟨hos,fun i=>by rw [hg]; exact KI he hs.n hs.sl hd hv i,fun t h=>?_,fun b h=>?_,by rw [Hh]; exact hs.df,by rw [KJ]; exact hs.n⟩
 ·refine UA r.t σ.t t ?_
  rcases ht t h with h|h
  ·exact .inl (hs.td t h)
  grind
 ·refine UB r.b σ.b b ?_
  rcases hb b h with h|h
  ·exact .inl (hs.bd b h)
  grind
theorem bN {σ} {dst} {r} (hf:Cz σ r.t):Le σ.T (σ.add dst r).T :=fun x y h=>by
 show (look (addT σ.t r.t) x).join =some y
 rw [OU]
 ·exact h
 ·intro z hz e
  grind [Fj,St.T]
theorem bO {σ} {dst} {r} (hf:Ei σ r.b):Le σ.B (σ.add dst r).B :=fun x y h=>by
 show (look (addB σ.b r.b) x).join =some y
 rw [OV]
 ·exact h
 ·intro z hz e
  grind [E0,St.B]
theorem WD {γ} {T} {B} {w} (hs:OSim cx γ T B w) {t e} {ox oy} {v} {u} (he:ti cx.P t= .sl e) (hv:VSim γ.vw γ v u) (hn:OK v=true):
  ∃b,dM T v b∧(∀op,(eqGuard op t ox oy u (.slice none 0 0)).run cx.P w= .ok () w)∧(binOp .eql t u (.slice none 0 0)).run cx.P w= .ok (.bool b) w∧(binOp .neq t u (.slice none 0 0)).run cx.P w= .ok (.bool !b) w:=by
 have hu:=H5 he
 have key:∀ (a:Option Addr) (n c:Nat),u= .slice a n c→(∀op,(eqGuard op t ox oy u (.slice none 0 0)).run cx.P w= .ok () w)∧(binOp .eql t u (.slice none 0 0)).run cx.P w= .ok (.bool a.isNone) w∧(binOp .neq t u (.slice none 0 0)).run cx.P w= .ok (.bool !a.isNone) w:=by
  rintro a n c rfl
  have h1:(Op.equal t (.slice a n c) (.slice none 0 0)).run cx.P w= .ok a.isNone w:=by
   show (Op.equalIn (9999+1) t _ _).run cx.P w=_
   rw [Op.equalIn]
   cases a <;> simp [run_underlying hu]
  simp_all [eqGuard,binOp]
 cases v with
 |nils=>
  simp only [VSim] at hv
  exact⟨true,rfl,key none 0 0 hv⟩
 |bsl b n sz=>
  simp only [VSim] at hv
  exact⟨false,rfl,key _ _ _ hv.2.2⟩
 |ro rows=>
  simp only [VSim,Rep] at hv
  obtain⟨a,c,rfl,-,-,hr⟩:=hv
  refine⟨a.isNone,fun hne=>?_,key a _ c rfl⟩
  grind
 |_=>simp [OK] at hn
theorem SE {γ:Gh} {σ:St} {a:Act} {w:World} {pos:Nat} {o:Oper} {K:St→Prop} {next:Act→World→Prop} {Q:Exit→Act→World→Prop} (hs:Sim cx N γ σ a w) (hok:EQ N o=true) (h:∃r,Ev cx.P pos o σ.e σ.T σ.B r∧Cz σ r.t∧Ei σ r.b∧K (σ.add o.dst r))
  (hk:∀σ' a' w',K σ'→SimE cx N σ' a' w'→next a' w'):o.wp cx.P a w next Q:=by
 have hd:=E2 hok
 have hop:=Bn (γ:=γ) (s:=σ.g) (e:=σ.e) (a:=a) hok (fun x _=>St.e_eq σ x) (fun t _=>hs.sl t)
 obtain⟨r,hev,hft,hfb,hK⟩:=h
 have hids:=P0 hev
 have hev':=Ye (bN (dst:=o.dst) hft) (bO (dst:=o.dst) hfb) hev
 have hos:OSim cx γ (σ.add o.dst r).T (σ.add o.dst r).B w:=by
  refine hs.os.tables (fun t tk h1 h2=>?_) fun b vs h1 h2=>?_
  ·have h3:=hs.td t h1
   have h4:(look (addT σ.t r.t) t).join =some tk:=h2
   rw [OU] at h4
   ·exact h4
   ·intro z hz e
    grind [Fj]
  ·have h3:=hs.bd b h1
   have h4:(look (addB σ.b r.b) b).join =some vs:=h2
   rw [OV] at h4
   ·exact h4
   ·intro z hz e
    grind [E0]
 refine R3 hev' hop hos (fun x hx=>⟨?_,fun hl=>?_⟩) (fun x hx=>⟨?_,fun hl=>?_⟩) fun v w' γ' he ht hb ho hv=>hk _ _ _ hK ⟨γ',hs.add hd hft hfb he ht hb ho hv⟩
 ·show (look (addT σ.t r.t) x.1).join =_
  rw [La _ _ hids.1 x hx]; rfl
 ·have h1:=hs.td _ hl
  rw [Fj hft x hx] at h1; cases h1
 ·show (look (addB σ.b r.b) x.1).join =_
  rw [Lb _ _ hids.2 x hx]; rfl
 ·have h1:=hs.bd _ hl
  rw [E0 hfb x hx] at h1; cases h1
theorem WE {γ:Gh} {σ:St} {a:Act} {w:World} {pos:Nat} {o:Oper} {K:St→Prop} {next:Act→World→Prop} {Q:Exit→Act→World→Prop} (hs:Sim cx N γ σ a w) (hok:EQ N o=true) (h:aop cx.P pos o σ K)
  (hk:∀σ' a' w',K σ'→SimE cx N σ' a' w'→next a' w'):o.wp cx.P a w next Q:=by
 have hd:=E2 hok
 have hop:=Bn (γ:=γ) (s:=σ.g) (e:=σ.e) (a:=a) hok (fun x _=>St.e_eq σ x) (fun t _=>hs.sl t)
 have done:∀ (σ':St) (γ':Gh) (w':World) (av:AV) (v:Value),Out cx γ σ γ' σ' w'→VSim γ'.vw γ' av v→SimE cx N (σ'.put o.dst av) (a.put o.dst v) w':=fun σ' γ' w' av v ho hv=>by
  have hT:(σ'.put o.dst av).T =σ'.T:=by cases o.dst <;> rfl
  have hB:(σ'.put o.dst av).B =σ'.B:=by cases o.dst <;> rfl
  have ht:(σ'.put o.dst av).t =σ'.t:=by cases o.dst <;> rfl
  have hb:(σ'.put o.dst av).b =σ'.b:=by cases o.dst <;> rfl
  have hg:∀i,σ'.g i=σ.g i:=fun i=>by unfold St.g; rw [ho.s]
  refine⟨γ',by rw [hT,hB]; exact ho.os,fun i=>?_,fun t h=>?_,fun b h=>?_,by rw [Hh]; exact hs.df,by rw [KJ]; exact hs.n⟩
  ·rw [St.g_put,hg]; exact KI ho.ext hs.n hs.sl hd hv i
  ·rw [ht]
   rcases ho.td t h with h|h
   ·exact ho.tm t (hs.td t h)
   omega
  ·rw [hb]
   rcases ho.bd b h with h|h
   ·exact ho.bm b (hs.bd b h)
   omega
 unfold aop at h
 split at h
 ·rename_i t x yt hop'
  rw [hop'] at hop
  obtain⟨⟨e,he⟩,hn,h⟩:=h
  obtain⟨b,hb,hr⟩:=WD (ox:=x) (oy:=.const (.slice none 0 0)) hs.os he (hop x (by simp [Op.operands])) hn
  refine Kf (v:=.bool b) (w':=w) ?_ (hk _ _ _ (h b hb) (done σ γ w (.bool b) (.bool b) ⟨Gh.Ext.refl γ,hs.os,rfl,fun x h=>.inl h,fun x h=>.inl h,fun x h=>h,fun x h=>h⟩ (by rfl)))
  have e1:a.eval (.const (.slice none 0 0))= .slice none 0 0:=rfl
  simp_all [execOp]
 ·rename_i t x yt hop'
  rw [hop'] at hop
  obtain⟨⟨e,he⟩,hn,h⟩:=h
  obtain⟨b,hb,hr⟩:=WD (ox:=x) (oy:=.const (.slice none 0 0)) hs.os he (hop x (by simp [Op.operands])) hn
  refine Kf (v:=.bool !b) (w':=w) ?_ (hk _ _ _ (h b hb) (done σ γ w (.bool !b) (.bool !b) ⟨Gh.Ext.refl γ,hs.os,rfl,fun x h=>.inl h,fun x h=>.inl h,fun x h=>h,fun x h=>h⟩ (by rfl)))
  have e1:a.eval (.const (.slice none 0 0))= .slice none 0 0:=rfl
  simp_all [execOp]
 ·rename_i t x y hop'
  rw [hop'] at hop
  obtain⟨w',γ',σ',hr,hK,ho⟩:=V8 hs.os (hop x (by simp [Op.operands])) (hop y (by simp [Op.operands])) h
  have hrun:(execOp a.eval o).run cx.P w= .ok .skip w':=by simp_all [execOp]
  unfold Oper.wp
  rw [hrun]
  exact hk _ _ _ hK (done σ' γ' w' .any undef ho trivial)
 ·rename_i t m i x hop'
  rw [hop'] at hop
  obtain⟨w',γ',σ',hr,hK,ho⟩:=Pu hs.os (hop m (by simp [Op.operands])) (hop i (by simp [Op.operands])) (hop x (by simp [Op.operands])) h
  have hrun:(execOp a.eval o).run cx.P w= .ok .skip w':=by simp_all [execOp]
  unfold Oper.wp
  rw [hrun]
  exact hk _ _ _ hK (done σ' γ' w' .any undef ho trivial)
 ·rename_i t m i x hop'
  rw [hop'] at hop
  obtain⟨w',γ',σ',hr,hK,ho⟩:=Pu hs.os (hop m (by simp [Op.operands])) (hop i (by simp [Op.operands])) (hop x (by simp [Op.operands])) h
  have hrun:(execOp a.eval o).run cx.P w= .ok .skip w':=by simp_all [execOp]
  unfold Oper.wp
  rw [hrun]
  exact hk _ _ _ hK (done σ' γ' w' .any undef ho trivial)
 ·rename_i args argTypes hop'
  split at h
  ·rename_i x y t t' hx ht
   obtain⟨rfl,h⟩:=h
   have ha:args= #[x,y] :=by grind
   have hat:argTypes= #[t',t'] :=by grind
   subst ha hat
   rw [hop'] at hop
   obtain⟨v',w',γ',σ',av,hr,hv,hK,ho⟩:=Ze (ty:=o.type) hs.os hs.td (hop x (by simp [Op.operands,Call.operands])) (hop y (by simp [Op.operands,Call.operands])) h
   refine Kf (v:=v') (w':=w') ?_ (hk _ _ _ hK (done σ' γ' w' av v' ho hv))
   simp_all [execOp,resolve,invoke,builtin]
  grind
 ·exact SE hs hok h hk
theorem WF {γ:Gh} {σ:St} {a:Act} {w:World} {o:Oper} {K:St→Prop} {next:Act→World→Prop} {Q:Exit→Act→World→Prop} (hs:Sim cx N γ σ a w) (hok:EQ N o=true) (h:Mv cx.P o σ K)
  (hk:∀σ' a' w',K σ'→SimE cx N σ' a' w'→next a' w'):o.wp cx.P a w next Q:=by
 have hd:=E2 hok
 have hop:=Bn (γ:=γ) (s:=σ.g) (e:=σ.e) (a:=a) hok (fun x _=>St.e_eq σ x) (fun t _=>hs.sl t)
 unfold Mv at h
 split at h
 ·rename_i g args argTypes hop'
  rw [hop'] at hop
  have h1:=hop g (by simp [Op.operands,Call.operands])
  split at h
  ·rename_i f caps he
   rw [he] at h1
   simp only [VSim] at h1
   obtain⟨cv,h2,h3⟩:=h1
   obtain⟨ho,h⟩:=h
   obtain⟨hav,ws,cs,hfv,e1⟩:=YM ho h2 h3 (AF.of_map (e:=σ.e) (ρ:=a.eval) (l:=args.toList) fun x hx=>hop x (by grind [Op.operands,Call.operands]))
   obtain⟨bs,h⟩:=h
   obtain⟨hb,hcalls⟩:=Qg hs.os hs.td hs.bd h hav
   unfold GO at hb
   cases hf:cx.P.funcs[f]? with
   |none=>grind
   | some fn=>
    simp only [hf,Option.any_some,Bool.and_eq_true,Bool.not_eq_true',beq_eq_false_iff_ne] at hb
    have hrun:(callFunc f (fnU cv (args.toList.map a.eval)).toArray).run cx.P w= .ok (.enter f (fnU cv (args.toList.map a.eval)).toArray) w:=by
     obtain⟨c,h1⟩:=Option.isSome_iff_exists.1 hb.1
     simp_all [callFunc]
    have hr:(execOp a.eval o).run cx.P w=(callFunc f (fnU cv (args.toList.map a.eval)).toArray).run cx.P w:=by
     have e2:(args.toList.map a.eval).toArray =args.map a.eval:=by grind
     rw [e1,e2]
     grind [execOp,resolve,Deferred.ofValue,invoke]
    unfold Oper.wp
    rw [hr,hrun]
    simp only [Oper.upon]
    refine hcalls.mono ?_
    rintro e w' ⟨v,γ',σ',r,rfl,hK,hv,hext,hos,hss,htd,hbd⟩
    simp only
    have hT:(σ'.put o.dst r).T =σ'.T:=by cases o.dst <;> rfl
    have hB:(σ'.put o.dst r).B =σ'.B:=by cases o.dst <;> rfl
    have ht:(σ'.put o.dst r).t =σ'.t:=by cases o.dst <;> rfl
    have hb':(σ'.put o.dst r).b =σ'.b:=by cases o.dst <;> rfl
    have hg:∀i,σ'.g i=σ.g i:=fun i=>by unfold St.g; rw [hss]
    refine hk _ _ _ hK ⟨γ',by rw [hT,hB]; omega,fun i=>?_,fun t h=>by rw [ht]; grind,fun b h=>by rw [hb']; grind,by rw [Hh]; exact hs.df,by rw [KJ]; exact hs.n⟩
    rw [St.g_put,hg]; exact KI hext hs.n hs.sl hd hv i
  grind
 grind
theorem OwnR.of_append {V w} {cs} {sz}:∀ {xs ys} {o} {fp},OwnR V w cs sz o (xs++ys) fp→∃f1 f2,OwnR V w cs sz o xs f1∧OwnR V w cs sz (o+xs.length*sz) ys f2∧fp=f1++f2
 | [],ys,o,fp,h=>⟨[],fp,by rfl,by grind,rfl⟩
 |x::xs,ys,o,fp,h=>by
  simp only [List.cons_append,OwnR] at h
  obtain⟨f1,f2,h1,h2,h3,rfl⟩:=h
  obtain⟨g1,g2,k1,k2,rfl⟩:=OwnR.of_append h3
  refine⟨f1++g1,g2,?_,?_,by rw [List.append_assoc]⟩
  ·simp only [OwnR]; exact⟨f1,g1,h1,h2,k1,rfl⟩
  ·rw [List.length_cons,Nat.add_mul,Nat.one_mul,show o+(xs.length*sz+sz)=o+sz+xs.length*sz from by omega]; exact k2
theorem OwnR.cut {V w} {cs} {sz o i n} {rows} {fp} (h:OwnR V w cs sz o rows fp) (hi:i≤rows.length):∃f a b,OwnR V w cs sz (o+i*sz) ((rows.drop i).take n) f∧fp=a++f++b:=by
 rw [← List.take_append_drop i rows] at h
 obtain⟨f1,f2,-,h2,rfl⟩:=OwnR.of_append h
 rw [List.length_take,Nat.min_eq_left hi,← List.take_append_drop n (rows.drop i)] at h2
 grind [OwnR.of_append]
theorem Xk {γ:Gh} {σ:St} {a:Act} {w:World} {pos:Nat} {o:Oper} {K:St→Prop} {next:Act→World→Prop} {Q:Exit→Act→World→Prop} (hs:Sim cx N γ σ a w) (hok:EQ N o=true) (h:TC cx.P pos o σ K)
  (hk:∀σ' a' w',K σ'→SimE cx N σ' a' w'→next a' w'):o.wp cx.P a w next Q:=by
 have hd:=E2 hok
 have hop:=Bn (γ:=γ) (s:=σ.g) (e:=σ.e) (a:=a) hok (fun x _=>St.e_eq σ x) (fun t _=>hs.sl t)
 unfold TC at h
 split at h
 ·rename_i t x l h' hop'
  rw [hop'] at hop
  split at h
  ·rename_i n he
   obtain⟨tk,hT,el,hu,⟨hsz,hrl⟩,i,hi,j,hj,r,hr,hlook,hK⟩:=h
   have hx:=hop x (by simp [Op.operands])
   rw [he] at hx
   simp only [VSim] at hx
   obtain⟨⟨htl,-⟩,hx⟩:=hx
   have hbl:(l.map a.eval=none∧i=0)∨∃k,l.map a.eval=some (.int k i):=Gm (w0:=γ.vw) (γ:=γ) (a:=l.map σ.e) (v:=l.map a.eval) (fun y hy=>by
    cases l with
    |none=>cases hy
    |some l=>grind [Op.operands]) (fun hy=>by simp_all) hi
   have hbh:(h'.map a.eval=none∧j=tk.rows.length)∨∃k,h'.map a.eval=some (.int k j):=Gm (w0:=γ.vw) (γ:=γ) (a:=h'.map σ.e) (v:=h'.map a.eval) (fun y hy=>by
    cases h' with
    |none=>cases hy
    |some l=>grind [Op.operands]) (fun hy=>by simp_all) hj
   unfold ZI at hr
   by_cases h0:0≤i∧i≤j∧j≤tk.rows.length
   case neg=>rw [if_neg h0] at hr; cases hr
   rw [if_pos h0] at hr
   cases hr
   have hown:=(hs.os.tok n tk htl hT).own
   have hsz':=C1 (P:=cx.P) (w:=w) hsz
   have hlen:((tk.rows.drop i.toNat).take (j - i).toNat).length =j.toNat - i.toNat:=by rw [List.length_take,List.length_drop]; omega
   have key:∃v' f,(execOp a.eval o).run cx.P w= .ok (.value v') w∧Own (tk.vw γ.vw) w (.sl ((tk.rows.drop i.toNat).take (j - i).toNat)) v' f∧f.Nodup∧∀g ∈ f,g ∈ γ.tf n:=by
    have run:∀ (ad:Option Addr) (c:Nat),γ.tv n= .slice ad tk.rows.length c→tk.rows.length≤c→(execOp a.eval o).run cx.P w= .ok (.value (.slice (if c=i.toNat then ad else ad.map (·.add (i.toNat*tsz cx.P el))) (j.toNat - i.toNat) (c - i.toNat))) w:=fun ad c hv hc=>by
     have hb:=Ki (P:=cx.P) (w:=w) (b:=true) hbl hbh hc h0
     rw [← hx] at hv
     simp only [execOp,hop',hv,Sem.run_bind]
     simp [Instr.sliceAt,Instr.slice,run_underlying (H5 hu),hb,hsz']
    have hnd:=hs.os.tnd n tk htl hT
    simp only [Own] at hown
    by_cases he0:j.toNat - i.toNat=0
    ·have hnil:(tk.rows.drop i.toNat).take (j - i).toNat =[] :=List.eq_nil_of_length_eq_zero (by rw [hlen]; omega)
     have:∃ad c,γ.tv n= .slice ad tk.rows.length c∧tk.rows.length≤c∧c≤maxLen:=by
      grind
     obtain⟨ad,c,h1,h2,h3⟩:=this
     refine⟨_,[],run ad c h1 h2,?_,List.nodup_nil,by simp⟩
     grind [Own]
    ·rcases hown with ⟨h1,-,-⟩|⟨sz,g,o1,c,e,cs,fps,h1,h2,h3,hb,h4,hR,hfp⟩
     ·rw [h1] at h0; grind
     ·have h5:0<tk.rows.length:=by omega
      have hsz2:sz=tsz cx.P el:=by
       obtain⟨_,_,_,_,h6,-⟩:=hR.split 0 h5
       grind
      subst hsz2
      have hci:i.toNat≤c:=by omega
      obtain⟨f,fa,fb,k1,k2⟩:=OwnR.cut (i:=i.toNat) (n:=(j - i).toNat) hR (by omega)
      have hmul:i.toNat*tsz cx.P el+(c - i.toNat)*tsz cx.P el=c*tsz cx.P el:=by rw [← Nat.add_mul]; grind
      refine⟨_,g::f,run _ c h1 h2,?_,?_,fun g' hg'=>?_⟩
      ·simp only [Own]
       refine .inr ⟨tsz cx.P el,g,o1+i.toNat*tsz cx.P el,c - i.toNat,e,cs,f,?_,by rw [hlen]; omega,by omega,hb,by omega,k1,rfl⟩
       rw [if_neg (by omega),hlen]
       simp [Addr.add]
      ·rw [hfp,k2] at hnd
       grind
      grind
   obtain⟨v',f,hrun,hown',hnd',hin⟩:=key
   have hntl:¬γ.tl (pos*16):=fun htl=>by
    have h1:=hs.td _ htl
    rw [hlook] at h1; cases h1
   have hne:pos*16≠n:=fun e=>by rw [e] at hntl; grind
   have hs1:=hs.os.kill n
   have hTn:tset σ.T n none (pos*16)=none:=by
    grind [tset,St.T]
   have hfree:=hs.os.freed htl hT
   have htok:Ag γ.vw w ⟨(tk.rows.drop i.toNat).take (j - i).toNat,none,0,tk.z⟩ v' f:=hown'
   have hfin:=hs1.putTok (tk:=⟨(tk.rows.drop i.toNat).take (j - i).toNat,none,0,tk.z⟩) hTn (fun h=>absurd h hntl) htok hnd' (fun g hg=>hfree g (hin g hg)) (fun h=>absurd h hntl) (fun h=>absurd h hntl)
   have hext:Gh.Ext γ (γ.tok w (pos*16) v' f 0):=Gh.tok_ext fun h=>absurd h hntl
   refine Kf (v:=v') (w':=w) hrun (hk _ _ _ hK ⟨γ.tok w (pos*16) v' f 0,?_,fun x=>?_,fun z hz=>?_,fun z hz=>?_,by rw [Hh]; exact hs.df,by rw [KJ]; exact hs.n⟩)
   ·refine hfin.tables (fun z tz' _ hz=>?_) fun b vs _ hb=>?_
    ·have e1:(St.put ⟨σ.s,(pos*16,some ⟨(tk.rows.drop i.toNat).take (j - i).toNat,none,0,tk.z⟩)::(n,none)::σ.t,σ.b⟩ o.dst (.own (pos*16))).T z=(look ((pos*16,some ⟨(tk.rows.drop i.toNat).take (j - i).toNat,none,0,tk.z⟩)::(n,none)::σ.t) z).join :=by cases o.dst <;> rfl
     rw [e1] at hz
     simp only [AI] at hz
     split at hz
     ·grind
     ·rename_i e
      rw [if_neg e]
      unfold tset
      split at hz
      ·cases hz
      ·rename_i e2; rw [if_neg e2]; exact hz
    ·have e1:(St.put ⟨σ.s,(pos*16,some ⟨(tk.rows.drop i.toNat).take (j - i).toNat,none,0,tk.z⟩)::(n,none)::σ.t,σ.b⟩ o.dst (.own (pos*16))).B b=σ.B b:=by cases o.dst <;> rfl
     rw [e1] at hb; exact hb
   ·rw [St.g_put]
    have hrep:=htok.rep hs1.vw.k
    simp only [Rep] at hrep
    obtain⟨a',c',hv',-⟩:=hrep
    refine KI hext hs.n hs.sl hd (av:=.own (pos*16)) ?_ x
    simp only [VSim]
    have e1:(γ.tok w (pos*16) v' f 0).tv (pos*16)=v':=by show (if pos*16=pos*16 then _ else _)=_; rw [if_pos rfl]
    rw [e1]
    exact⟨⟨.inr rfl,a',_,c',hv'⟩,rfl⟩
   ·have e1:(St.put ⟨σ.s,(pos*16,some ⟨(tk.rows.drop i.toNat).take (j - i).toNat,none,0,tk.z⟩)::(n,none)::σ.t,σ.b⟩ o.dst (.own (pos*16))).t =(pos*16,some ⟨(tk.rows.drop i.toNat).take (j - i).toNat,none,0,tk.z⟩)::(n,none)::σ.t:=by cases o.dst <;> rfl
    rw [e1]
    simp only [AI]
    split
    ·rfl
    ·split
     ·rfl
     ·rename_i e2 _
      rcases hz with hz|hz
      ·exact hs.td z hz
      omega
   ·have e1:(St.put ⟨σ.s,(pos*16,some ⟨(tk.rows.drop i.toNat).take (j - i).toNat,none,0,tk.z⟩)::(n,none)::σ.t,σ.b⟩ o.dst (.own (pos*16))).b =σ.b:=by cases o.dst <;> rfl
    rw [e1]; exact hs.bd z hz
  grind
 grind
theorem SF {γ} {σ} {a} {w} (hs:Sim cx N γ σ a w) {ops} {j s} {b} (hj:Ie ops j=some s) (hb:σ.g s= .bool b):yielded ops a.tmps j=some b:=by
 have h1:=hs.sl s
 rw [hb] at h1
 simp only [VSim] at h1
 unfold Ie at hj
 unfold yielded
 rw [hj]
 simp only [Option.bind_some]
 rw [Array.getD_eq_getD_getElem?] at h1
 grind [undef]
theorem SG {γ} {σ} {a} {w} (hs:Sim cx N γ σ a w) {ops} {j s} (hj:Ie ops j=some s) (hb:σ.g s= .tup []):yielded ops a.tmps j=none:=by
 have h1:=hs.sl s
 rw [hb] at h1
 simp only [VSim,AF] at h1
 obtain⟨us,h1,rfl⟩:=h1
 unfold Ie at hj
 unfold yielded
 rw [hj]
 simp only [Option.bind_some]
 rw [Array.getD_eq_getD_getElem?] at h1
 grind
theorem SH {w0} {γ}:VSim w0 γ (.tup []) undef:=by simp only [VSim,AF]; exact⟨[],rfl,rfl⟩
theorem Sim.putU {γ:Gh} {σ:St} {a:Act} {w:World} (hs:Sim cx N γ σ a w) {dst:Option Tmp} (hd:∀d,dst=some d→d<N):Sim cx N γ (σ.put dst (.tup [])) (a.put dst undef) w:=by
 refine⟨?_,fun i=>?_,?_,?_,by rw [Hh]; exact hs.df,by rw [KJ]; exact hs.n⟩
 ·have hT:(σ.put dst (.tup [])).T =σ.T:=by cases dst <;> rfl
  have hB:(σ.put dst (.tup [])).B =σ.B:=by cases dst <;> rfl
  rw [hT,hB]; exact hs.os
 ·rw [St.g_put]
  exact KI (Gh.Ext.refl γ) hs.n hs.sl hd (av:=.tup []) SH i
 ·have ht:(σ.put dst (.tup [])).t =σ.t:=by cases dst <;> rfl
  rw [ht]; exact hs.td
 ·have ht:(σ.put dst (.tup [])).b =σ.b:=by cases dst <;> rfl
  rw [ht]; exact hs.bd
end
end Go.Proofs.YtclmbjbbojdojaaGreat.Ab
