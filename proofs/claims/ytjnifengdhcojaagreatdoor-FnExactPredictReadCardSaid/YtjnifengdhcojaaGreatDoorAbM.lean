/- The abstract walk, thirteenth part. -/
import Derived.Test.YtjnifengdhcojaaGreatDoorAbLa
import Derived.Tactics
namespace Go.Proofs.YtjnifengdhcojaaGreatDoor.Ab
set_option linter.unusedVariables false
set_option maxHeartbeats 1000000
set_option linter.unusedSimpArgs false
open Go.RowKit
mutual
def KV:Value→Bool
 | .int k n=>(Lit.int k n).wf
 | .string s=>decide (s.size≤maxLen)
 | .agg cs=>NI cs.toList
 |_=>true
def NI:List Value→Bool
 | [] =>true
 |v::vs=>KV v&&NI vs
end
mutual
theorem No {w0} {γ}:∀ (v:Value),KV v=true→VSim w0 γ (A8 v) v
 | .int k n,h=>by grind [KV,A8,Cr]
 | .bool b,h=>by rfl
 | .string s,h=>by grind [KV,A8,XV]
 | .agg cs,h=>by
  simp only [KV] at h
  simp only [A8,VSim]
  exact⟨cs.toList,by simp,MU cs.toList h⟩
 | .slice none 0 0,h=>by rfl
 | .slice none 0 (c+1),h=>by simp only [A8]; trivial
 | .slice none (n+1) c,h=>by simp only [A8]; trivial
 | .slice (some a) n c,h=>by simp only [A8]; trivial
 | .pointer none,h=>by rfl
 | .pointer (some a),h=>by simp only [A8]; trivial
 | .float _ _,h=>by simp only [A8]; trivial
 | .complex _ _ _,h=>by simp only [A8]; trivial
 | .map _,h=>by simp only [A8]; trivial
 | .chan _,h=>by simp only [A8]; trivial
 | .func _ _ _,h=>by simp only [A8]; trivial
 | .nilFunc,h=>by simp only [A8]; trivial
 | .iface _ _,h=>by simp only [A8]; trivial
 | .nilIface,h=>by simp only [A8]; trivial
 | .tuple _,h=>by simp only [A8]; trivial
theorem MU {w0} {γ}:∀ (vs:List Value),NI vs=true→AH w0 γ (IB vs) vs
 | [],h=>by rfl
 |v::vs,h=>by
  simp only [NI,Bool.and_eq_true] at h
  simp only [IB,AH]
  exact⟨v,vs,rfl,No v h.1,MU vs h.2⟩
end
def ED (N:Nat) (o:Oper):Bool:=(o.op.operands.toList.all fun| .const v=>KV v|_=>true)&&(match o.dst with|some d=>decide (d<N)|none=>true)
theorem St.g_put (σ:St) (dst:Option Tmp) (v:AV) (i:Nat):(σ.put dst v).g i=if dst=some i then v else σ.g i:=by
 unfold St.g St.put
 grind [AI]
theorem Xe (a:Act) (dst:Option Tmp) (v:Value) (i:Nat) (h:∀d,dst=some d→d<a.tmps.size):(a.put dst v).tmps.getD i undef=if dst=some i then v else a.tmps.getD i undef:=by
 cases dst with
 |none=>rfl
 |some d=>
  have hd:=h d rfl
  simp only [Act.put,Option.some.injEq]
  by_cases e:d=i
  ·simp_all
  simp_all
section
variable {cx:Cx} {N:Nat} {w:World} {P:Program}
theorem Et {o} (h:ED N o=true):∀d,o.dst=some d→d<N:=fun d hd=>by
 grind [ED]
theorem KW {γ γ':Gh} {s:Nat→AV} {a:Act} (he:Gh.Ext γ γ') (hn:a.tmps.size=N) (hs:∀i,VSim γ.vw γ (s i) (a.tmps.getD i undef)) {dst:Option Tmp} (hd:∀d,dst=some d→d<N) {av:AV} {v:Value} (hv:VSim γ'.vw γ' av v):
  ∀i,VSim γ'.vw γ' (if dst=some i then av else s i) ((a.put dst v).tmps.getD i undef):=fun i=>by
 rw [Xe a dst v i (by rw [hn]; exact hd)]
 split
 ·exact hv
 ·exact VSim.mono he.vw he (hs i)
theorem KX (a:Act) (dst:Option Tmp) (v:Value):(a.put dst v).tmps.size =a.tmps.size:=by cases dst <;> simp [Act.put]
theorem Hk (a:Act) (dst:Option Tmp) (v:Value):(a.put dst v).defers =a.defers:=by cases dst <;> rfl
theorem BT {γ:Gh} {s:Nat→AV} {e:Operand→AV} {a:Act} {o:Oper} (hok:ED N o=true) (he:∀x ∈ o.op.operands,e x=match x with| .tmp t=>s t| .const v=>A8 v| .func f=>.fn f [] | .global _=>.any)
  (hs:∀t,.tmp t ∈ o.op.operands→VSim γ.vw γ (s t) (a.tmps.getD t undef)):∀x ∈ o.op.operands,VSim γ.vw γ (e x) (a.eval x):=fun x hx=>by
 rw [he x hx]
 unfold ED at hok
 rw [Bool.and_eq_true] at hok
 have h1:=hok.1
 rw [List.all_eq_true] at h1
 have h2:=h1 x (Array.mem_toList_iff.2 hx)
 cases x with
 |tmp t=>exact hs t hx
 |const v=>exact No v h2
 |global g=>trivial
 |func f=>simp only [VSim]; exact⟨[],.inl ⟨rfl,rfl⟩,by rfl⟩
theorem St.e_eq (σ:St) (x:Operand):σ.e x=match x with| .tmp t=>σ.g t| .const v=>A8 v| .func f=>.fn f [] | .global _=>.any :=by cases x <;> rfl
theorem Wo:∀ (l:List (Nat × Tok)) (σ:List (Nat × Option Tok)) (x:Nat),(look σ x).isSome =true∨(∃y ∈ l,y.1 =x)→(look (addT σ l) x).isSome =true
 | [],σ,x,h=>by
  rcases h with h|⟨y,hy,-⟩
  ·exact h
  grind
 | (n,tk)::l,σ,x,h=>by
  simp only [addT,AI]
  split
  ·rfl
  ·rename_i j
   refine Wo l σ x ?_
   rcases h with h|⟨y,hy,hyx⟩
   ·exact .inl h
   ·rcases List.mem_cons.1 hy with rfl|hy
    ·exact absurd hyx.symm j
    ·exact .inr ⟨y,hy,hyx⟩
theorem Wp:∀ (l:List (Nat × List AV)) (σ:List (Nat × Option (List AV))) (x:Nat),(look σ x).isSome =true∨(∃y ∈ l,y.1 =x)→(look (addB σ l) x).isSome =true
 | [],σ,x,h=>by
  rcases h with h|⟨y,hy,-⟩
  ·exact h
  grind
 | (n,tk)::l,σ,x,h=>by
  simp only [addB,AI]
  split
  ·rfl
  ·rename_i j
   refine Wp l σ x ?_
   rcases h with h|⟨y,hy,hyx⟩
   ·exact .inl h
   ·rcases List.mem_cons.1 hy with rfl|hy
    ·exact absurd hyx.symm j
    ·exact .inr ⟨y,hy,hyx⟩
theorem PT:∀ (l:List (Nat × Tok)) (σ:List (Nat × Option Tok)) (x:Nat),(∀y ∈ l,y.1 ≠x)→look (addT σ l) x=look σ x
 | [],_,_,_=>rfl
 |(n,tk)::l,σ,x,h=>by
  simp only [addT,AI]
  rw [if_neg (fun e=>h (n,tk) (by simp) e.symm),PT l σ x fun y hy=>h y (by grind)]
theorem PU:∀ (l:List (Nat × List AV)) (σ:List (Nat × Option (List AV))) (x:Nat),(∀y ∈ l,y.1 ≠x)→look (addB σ l) x=look σ x
 | [],_,_,_=>rfl
 |(n,tk)::l,σ,x,h=>by
  simp only [addB,AI]
  rw [if_neg (fun e=>h (n,tk) (by simp) e.symm),PU l σ x fun y hy=>h y (by grind)]
theorem MV:∀ (l:List (Nat × Tok)) (σ:List (Nat × Option Tok)),(l.map (·.1)).Nodup →∀y ∈ l,look (addT σ l) y.1 =some (some y.2)
 | [],_,_,y,hy=>by cases hy
 | (n,tk)::l,σ,hn,y,hy=>by
  simp only [List.map_cons,List.nodup_cons] at hn
  simp only [addT,AI]
  rcases List.mem_cons.1 hy with rfl|hy
  ·rw [if_pos rfl]
  ·rw [if_neg (fun e:y.1 =n=>hn.1 (by rw [← e]; exact List.mem_map.2 ⟨y,hy,rfl⟩))]
   exact MV l σ hn.2 y hy
theorem MW:∀ (l:List (Nat × List AV)) (σ:List (Nat × Option (List AV))),(l.map (·.1)).Nodup →∀y ∈ l,look (addB σ l) y.1 =some (some y.2)
 | [],_,_,y,hy=>by cases hy
 | (n,tk)::l,σ,hn,y,hy=>by
  simp only [List.map_cons,List.nodup_cons] at hn
  simp only [addB,AI]
  rcases List.mem_cons.1 hy with rfl|hy
  ·rw [if_pos rfl]
  ·rw [if_neg (fun e:y.1 =n=>hn.1 (by rw [← e]; exact List.mem_map.2 ⟨y,hy,rfl⟩))]
   exact MW l σ hn.2 y hy
theorem Fi {σ}:∀ {l},CY σ l→∀y ∈ l,look σ.t y.1 =none
 | [],_,y,hy=>by cases hy
 |(n,tk)::l,h,y,hy=>by
  simp only [CY] at h
  rcases List.mem_cons.1 hy with rfl|hy
  ·exact h.1
  ·exact Fi h.2 y hy
theorem El {σ}:∀ {l},EA σ l→∀y ∈ l,look σ.b y.1 =none
 | [],_,y,hy=>by cases hy
 |(n,tk)::l,h,y,hy=>by
  simp only [EA] at h
  rcases List.mem_cons.1 hy with rfl|hy
  ·exact h.1
  ·exact El h.2 y hy
def Le {α:Type} (T T':Nat→Option α):Prop:=∀x y,T x=some y→T' x=some y
theorem NJ {T T'} (h:Le T T') {t g} {p} {r} (hs:subR T t g p=some r):subR T' t g p=some r:=by
 unfold subR at hs ⊢
 cases hT:T t with
 |none=>rw [hT] at hs; cases hs
 |some tk=>rw [h t tk hT]; rw [hT] at hs; exact hs
theorem iC {T T'} (h:Le T T') {a} {d} (hd:toD T a=some d):toD T' a=some d:=by
 cases a with
 |own t=>
  simp only [toD] at hd ⊢
  cases hT:T t with
  |none=>grind
  |some tk=>rw [h t tk hT]; grind
 |_=>first|exact hd|(simp [toD] at hd)
theorem Q2 {T T'} (h:Le T T'):∀ {as} {ds},toDs T as=some ds→toDs T' as=some ds
 | [],ds,hd=>by grind [toDs]
 | a::as,ds,hd=>by
  simp only [toDs] at hd ⊢
  cases ha:toD T a with
  |none=>simp [ha] at hd
  | some d=>
   cases has:toDs T as with
   |none=>simp [ha,has] at hd
   |some ds'=>
    rw [iC h ha,Q2 h has]
    simpa [ha,has] using hd
theorem Wq {T T'} (h:Le T T') {t g} {p} {r} (hx:subE T t g p=some r):subE T' t g p=some r:=by
 unfold subE at hx ⊢
 cases hT:T t with
 |none=>rw [hT] at hx; cases hx
 |some tk=>rw [h t tk hT]; rw [hT] at hx; exact hx
theorem iD {T T'} {B B'} (h:Le T T') (hb:Le B B') {a} {d} (hd:toA T B a=some d):toA T' B' a=some d:=by
 cases a with
 |own t=>
  simp only [toA] at hd ⊢
  cases hT:T t with
  |none=>grind
  |some tk=>rw [h t tk hT]; grind
 |sub t g p=>
  simp only [toA] at hd ⊢
  cases hT:subE T t g p with
  |none=>grind
  |some r=>rw [Wq h hT]; grind
 | bsl b n sz=>
  simp only [toA] at hd ⊢
  cases hB:B b with
  |none=>grind
  |some vs=>
   cases hd':toDs T vs with
   |none=>grind
   |some ds=>rw [hb b vs hB]; grind [Q2]
 |_=>first|exact hd|(simp [toA] at hd)
theorem Wr {T T'} {B B'} (h:Le T T') (hb:Le B B'):∀ {as} {ds},toAs T B as=some ds→toAs T' B' as=some ds
 | [],ds,hd=>by grind [toAs]
 | a::as,ds,hd=>by
  simp only [toAs] at hd ⊢
  cases ha:toA T B a with
  |none=>simp [ha] at hd
  | some d=>
   cases has:toAs T B as with
   |none=>simp [ha,has] at hd
   |some ds'=>
    rw [iD h hb ha,Wr h hb has]
    simpa [ha,has] using hd
mutual
theorem dN {T T'} {B B'} (h:Le T T') (hb:Le B B'):∀ {a x},cl T B a=some x→cl T' B' a=some x
 | .int _ _,x,hx=>by grind [cl]
 | .bool _,x,hx=>by grind [cl]
 | .str _,x,hx=>by grind [cl]
 | .ro _,x,hx=>by grind [cl]
 | .nils,x,hx=>by grind [cl]
 | .nilp,x,hx=>by grind [cl]
 | .rop vs off,x,hx=>by
  simp only [cl] at hx ⊢
  cases hc:cls T B vs with
  |none=>grind
  |some xs=>rw [MX h hb hc]; grind
 | .own t,x,hx=>by
  simp only [cl] at hx ⊢
  cases hT:T t with
  |none=>grind
  |some tk=>rw [h t tk hT]; grind
 | .box b off,x,hx=>by
  simp only [cl] at hx ⊢
  cases hB:B b with
  |none=>grind
  |some vs=>
   cases hd:toAs T B vs with
   |none=>grind
   |some ds=>rw [hb b vs hB]; grind [Wr]
 | .bsl b n sz,x,hx=>by
  simp only [cl] at hx ⊢
  cases hB:B b with
  |none=>grind
  |some vs=>
   cases hd:toDs T vs with
   |none=>grind
   |some ds=>rw [hb b vs hB]; grind [Q2]
 | .elt t sz i off,x,hx=>by
  simp only [cl] at hx ⊢
  cases hT:T t with
  |none=>grind
  |some tk=>rw [h t tk hT]; grind
 | .agg vs,x,hx=>by
  simp only [cl] at hx ⊢
  cases hc:cls T B vs with
  |none=>grind
  |some xs=>rw [MX h hb hc]; grind
 | .fn f vs,x,hx=>by
  simp only [cl] at hx ⊢
  cases hc:cls T B vs with
  |none=>grind
  |some xs=>rw [MX h hb hc]; grind
 | .par t sz i n,x,hx=>by
  simp only [cl] at hx ⊢
  cases hT:T t with
  |none=>grind
  |some tk=>rw [h t tk hT]; grind
 | .sub t g p,x,hx=>by
  simp only [cl] at hx ⊢
  cases hT:subE T t g p with
  |none=>grind
  |some r=>rw [Wq h hT]; grind
 | .els t g p sz i off,x,hx=>by
  grind [cl,NJ]
 | .mpr _,x,hx=>by grind [cl]
 | .mpc _ _,x,hx=>by grind [cl]
 | .tup _,x,hx=>by simp [cl] at hx
 | .any,x,hx=>by simp [cl] at hx
theorem MX {T T'} {B B'} (h:Le T T') (hb:Le B B'):∀ {as xs},cls T B as=some xs→cls T' B' as=some xs
 | [],xs,hx=>by grind [cls]
 | a::as,xs,hx=>by
  simp only [cls] at hx ⊢
  cases ha:cl T B a with
  |none=>simp [ha] at hx
  |some y=>
   cases has:cls T B as with
   |none=>simp [ha,has] at hx
   |some ys=>rw [dN h hb ha,MX h hb has]; simpa [ha,has] using hx
end
theorem bK {T T'} {B B'} (h:Le T T') (hb:Le B B') {t} {a v} (hl:Jw P T B t a v):Jw P T' B' t a v:=by
 unfold Jw at*
 split at hl
 ·obtain⟨vs,h1,h2⟩:=hl; exact⟨vs,hb _ _ h1,h2⟩
 ·exact hl
 ·obtain⟨tk,j,h1,h2⟩:=hl; exact⟨tk,j,h _ _ h1,h2⟩
 ·grind [NJ]
 omega
theorem ew {T T'} (h:Le T T') {t} {x i v} (hl:Tj P T t x i v):Tj P T' t x i v:=by
 unfold Tj at*
 split at hl
 ·exact hl
 ·obtain⟨h0,tk,j,h1,h2⟩:=hl; exact⟨h0,tk,j,h _ _ h1,h2⟩
 ·grind [NJ]
 ·exact hl
 omega
theorem e9 {T T'} {B B'} (h:Le T T') (hb:Le B B') {t} {x v} (hl:Vi P T B t x v):Vi P T' B' t x v:=by
 unfold Vi at*
 split at hl
 ·exact hl
 ·exact hl
 ·exact hl
 ·exact hl
 ·obtain⟨tk,h1,h2⟩:=hl; exact⟨tk,h _ _ h1,h2⟩
 ·grind [NJ]
 ·obtain⟨q,j,h1,h2⟩:=hl; exact⟨q,j,hb _ _ h1,h2⟩
 omega
theorem bL {B B'} (hb:Le B B') {t} {x i v} {ok} (hl:Yr P B t x i ok v):Yr P B' t x i ok v:=by
 unfold Yr at*
 split at hl
 ·obtain⟨q,j,h1,h2⟩:=hl; exact⟨q,j,hb _ _ h1,h2⟩
 omega
theorem bM {T T'} {B B'} (h:Le T T') (hb:Le B B') {pos} {g} {args} {r} (hl:Tk P T B pos g args r):Tk P T' B' pos g args r:=by
 unfold Tk at*
 grind [MX]
theorem fA {T T'} (h:Le T T') {t} {x v} {l h'} (hl:XR P T t x l h' v):XR P T' t x l h' v:=by
 unfold XR at*
 split at hl
 ·obtain⟨tk,h1,h2⟩:=hl; exact⟨tk,h _ _ h1,h2⟩
 omega
theorem dO {T T'} {B B'} (h:Le T T') (hb:Le B B') {pos} {o} {e} {r} (hl:Ev P pos o e T B r):Ev P pos o e T' B' r:=by
 obtain⟨dst,op,ty,p,after,j⟩:=o
 unfold Ev at*
 dsimp only at*
 split at hl <;> try exact hl
 ·grind [bK]
 ·grind [dN]
 ·grind [ew]
 ·grind [fA]
 ·grind [e9]
 ·grind [bM]
 grind [bL]
end
section
variable {cx:Cx} {N:Nat}
mutual
theorem ZM:∀ (n:Nat) (r:RV),((conv n r).2.map (·.1))=List.range' n (conv n r).2.length
 |n,.int _ _=>rfl
 |n,.bool _=>rfl
 |n,.str _=>rfl
 |n,.ow _ _=>rfl
 |n,.ro _=>rfl
 |n,.nilp =>rfl
 |n,.agg vs=>by simp only [conv]; exact Q3 n vs
 |n,.tup vs=>by simp only [conv]; exact Q3 n vs
theorem Q3:∀ (n:Nat) (rs:List RV),((G0 n rs).2.map (·.1))=List.range' n (G0 n rs).2.length
 |n,[] =>rfl
 |n,r::rs=>by
  simp only [G0,List.map_append,List.length_append,ZM n r,Q3 (n+(conv n r).2.length) rs]
  rw [List.range'_append_1]
end
theorem Q4 {P} {pos} {o} {e} {T} {B} {r} (h:Ev P pos o e T B r):(r.t.map (·.1)).Nodup ∧(r.b.map (·.1)).Nodup :=by
 have nil:(([] :List (Nat × Tok)).map (·.1)).Nodup ∧(([] :List (Nat × List AV)).map (·.1)).Nodup :=⟨List.nodup_nil,List.nodup_nil⟩
 have one:∀ (b:Nat) (vs:List AV),(([] :List (Nat × Tok)).map (·.1)).Nodup ∧([(b,vs)].map (·.1)).Nodup :=fun b vs=>⟨List.nodup_nil,by simp⟩
 obtain⟨dst,op,ty,p,after,j⟩:=o
 unfold Ev at h
 dsimp only at h
 split at h
 ·grind
 ·grind
 ·grind
 ·grind
 ·grind
 ·grind
 ·grind
 ·grind
 ·grind
 ·grind
 ·grind
 ·grind
 ·grind
 ·grind
 ·grind
 ·grind
 ·grind
 ·grind
 ·grind
 ·unfold Tk at h
  split at h
  ·obtain⟨-,h⟩:=h
   rcases h with h|h
   ·grind [ZM]
   ·obtain⟨_,_,_,_,_,_,h⟩:=h
    grind
  grind
 ·split at h
  ·obtain⟨_,_,h⟩:=h
   split at h
   ·obtain⟨_,z,h⟩:=h
    cases z
    ·obtain⟨_,_,rfl⟩:=h; grind
    ·obtain⟨_,_,rfl⟩:=h; grind
    ·obtain⟨_,_,rfl⟩:=h; grind
   grind
  grind
 ·split at h
  ·obtain⟨_,_,_,_,h⟩:=h
   grind
  grind
 ·grind
 ·grind
 ·split at h
  ·obtain⟨_,_,_,_,_,_,_,_,_,rfl⟩:=h; grind
  grind
 ·grind
 ·grind
 grind
theorem Sim.add {γ γ':Gh} {σ:St} {a:Act} {w w':World} {dst:Option Tmp} {r:Res} {v:Value} (hs:Sim cx N γ σ a w) (hd:∀d,dst=some d→d<N) (hf:CY σ r.t) (hfb:EA σ r.b)
  (he:Gh.Ext γ γ') (ht:∀t,γ'.tl t→γ.tl t∨∃x ∈ r.t,x.1 =t) (hb:∀b,γ'.bl b→γ.bl b∨∃x ∈ r.b,x.1 =b) (hos:OSim cx γ' (σ.add dst r).T (σ.add dst r).B w') (hv:VSim γ'.vw γ' r.v v):Sim cx N γ' (σ.add dst r) (a.put dst v) w':=by
 have hg:∀i,(σ.add dst r).g i=if dst=some i then r.v else σ.g i:=fun i=>by
  have:(σ.add dst r).g i=(σ.put dst r.v).g i:=rfl
  rw [this,St.g_put]
 refine⟨hos,fun i=>by rw [hg]; exact KW he hs.n hs.sl hd hv i,fun t h=>?_,fun b h=>?_,by rw [Hk]; exact hs.df,by rw [KX]; exact hs.n⟩
 ·refine Wo r.t σ.t t ?_
  rcases ht t h with h|h
  ·exact .inl (hs.td t h)
  grind
 ·refine Wp r.b σ.b b ?_
  rcases hb b h with h|h
  ·exact .inl (hs.bd b h)
  grind
theorem iE {σ} {dst} {r} (hf:CY σ r.t):Le σ.T (σ.add dst r).T :=fun x y h=>by
 show (look (addT σ.t r.t) x).join =some y
 rw [PT]
 ·exact h
 ·intro z hz e
  grind [Fi,St.T]
theorem iF {σ} {dst} {r} (hf:EA σ r.b):Le σ.B (σ.add dst r).B :=fun x y h=>by
 show (look (addB σ.b r.b) x).join =some y
 rw [PU]
 ·exact h
 ·intro z hz e
  grind [El,St.B]
theorem ZN {γ} {T} {B} {w} (hs:OSim cx γ T B w) {t e} {ox oy} {v} {u} (he:ti cx.P t= .sl e) (hv:VSim γ.vw γ v u) (hn:PG v=true):
  ∃b,kO T v b∧(∀op,(eqGuard op t ox oy u (.slice none 0 0)).run cx.P w= .ok () w)∧(binOp .eql t u (.slice none 0 0)).run cx.P w= .ok (.bool b) w∧(binOp .neq t u (.slice none 0 0)).run cx.P w= .ok (.bool !b) w:=by
 have p:=IE he
 have key:∀ (a:Option Addr) (n c:Nat),u= .slice a n c→(∀op,(eqGuard op t ox oy u (.slice none 0 0)).run cx.P w= .ok () w)∧(binOp .eql t u (.slice none 0 0)).run cx.P w= .ok (.bool a.isNone) w∧(binOp .neq t u (.slice none 0 0)).run cx.P w= .ok (.bool !a.isNone) w:=by
  rintro a n c rfl
  have h1:(Op.equal t (.slice a n c) (.slice none 0 0)).run cx.P w= .ok a.isNone w:=by
   show (Op.equalIn (9999+1) t _ _).run cx.P w=_
   rw [Op.equalIn]
   cases a <;> simp [run_underlying p]
  simp_all [eqGuard,binOp]
 cases v with
 |nils=>
  simp only [VSim] at hv
  exact⟨true,rfl,key none 0 0 hv⟩
 |bsl b n sz=>
  simp only [VSim] at hv
  exact⟨false,rfl,key _ _ _ hv.2.2⟩
 |ro rows=>
  simp only [VSim,Rep] at hv
  obtain⟨a,c,rfl,-,-,q⟩:=hv
  refine⟨a.isNone,fun j=>?_,key a _ c rfl⟩
  grind
 |_=>simp [PG] at hn
theorem UN {γ:Gh} {σ:St} {a:Act} {w:World} {pos:Nat} {o:Oper} {K:St→Prop} {next:Act→World→Prop} {Q:Exit→Act→World→Prop} (hs:Sim cx N γ σ a w) (hok:ED N o=true) (h:∃r,Ev cx.P pos o σ.e σ.T σ.B r∧CY σ r.t∧EA σ r.b∧K (σ.add o.dst r))
  (hk:∀σ' a' w',K σ'→SimE cx N σ' a' w'→next a' w'):o.wp cx.P a w next Q:=by
 have hd:=Et hok
 have G:=BT (γ:=γ) (s:=σ.g) (e:=σ.e) (a:=a) hok (fun x _=>St.e_eq σ x) (fun t _=>hs.sl t)
 obtain⟨r,C,p,q,W⟩:=h
 have j:=Q4 C
 have F:=dO (iE (dst:=o.dst) p) (iF (dst:=o.dst) q) C
 have I:OSim cx γ (σ.add o.dst r).T (σ.add o.dst r).B w:=by
  refine hs.os.tables (fun t tk h1 h2=>?_) fun b vs h1 h2=>?_
  ·have h3:=hs.td t h1
   have u:(look (addT σ.t r.t) t).join =some tk:=h2
   rw [PT] at u
   ·exact u
   ·intro z hz e
    grind [Fi]
  ·have h3:=hs.bd b h1
   have u:(look (addB σ.b r.b) b).join =some vs:=h2
   rw [PU] at u
   ·exact u
   ·intro z hz e
    grind [El]
 refine UD F G I (fun x hx=>⟨?_,fun J=>?_⟩) (fun x hx=>⟨?_,fun J=>?_⟩) fun v w' γ' U O hb ho hv=>hk _ _ _ W ⟨γ',hs.add hd p q U O hb ho hv⟩
 ·show (look (addT σ.t r.t) x.1).join =_
  rw [MV _ _ j.1 x hx]; rfl
 ·have h1:=hs.td _ J
  rw [Fi p x hx] at h1; cases h1
 ·show (look (addB σ.b r.b) x.1).join =_
  rw [MW _ _ j.2 x hx]; rfl
 ·have h1:=hs.bd _ J
  rw [El q x hx] at h1; cases h1
theorem ZO {γ:Gh} {σ:St} {a:Act} {w:World} {pos:Nat} {o:Oper} {K:St→Prop} {next:Act→World→Prop} {Q:Exit→Act→World→Prop} (hs:Sim cx N γ σ a w) (hok:ED N o=true) (h:aop cx.P pos o σ K)
  (hk:∀σ' a' w',K σ'→SimE cx N σ' a' w'→next a' w'):o.wp cx.P a w next Q:=by
 have hd:=Et hok
 have j:=BT (γ:=γ) (s:=σ.g) (e:=σ.e) (a:=a) hok (fun x _=>St.e_eq σ x) (fun t _=>hs.sl t)
 have done:∀ (σ':St) (γ':Gh) (w':World) (av:AV) (v:Value),Out cx γ σ γ' σ' w'→VSim γ'.vw γ' av v→SimE cx N (σ'.put o.dst av) (a.put o.dst v) w':=fun σ' γ' w' av v ho hv=>by
  have hT:(σ'.put o.dst av).T =σ'.T:=by cases o.dst <;> rfl
  have hB:(σ'.put o.dst av).B =σ'.B:=by cases o.dst <;> rfl
  have U:(σ'.put o.dst av).t =σ'.t:=by cases o.dst <;> rfl
  have hb:(σ'.put o.dst av).b =σ'.b:=by cases o.dst <;> rfl
  have hg:∀i,σ'.g i=σ.g i:=fun i=>by unfold St.g; rw [ho.s]
  refine⟨γ',by rw [hT,hB]; exact ho.os,fun i=>?_,fun t h=>?_,fun b h=>?_,by rw [Hk]; exact hs.df,by rw [KX]; exact hs.n⟩
  ·rw [St.g_put,hg]; exact KW ho.ext hs.n hs.sl hd hv i
  ·rw [U]
   rcases ho.td t h with h|h
   ·exact ho.tm t (hs.td t h)
   omega
  ·rw [hb]
   rcases ho.bd b h with h|h
   ·exact ho.bm b (hs.bd b h)
   omega
 unfold aop at h
 split at h
 ·rename_i t x Y p
  rw [p] at j
  obtain⟨⟨e,J⟩,I,h⟩:=h
  obtain⟨b,hb,F⟩:=ZN (ox:=x) (oy:=.const (.slice none 0 0)) hs.os J (j x (by simp [Op.operands])) I
  refine LB (v:=.bool b) (w':=w) ?_ (hk _ _ _ (h b hb) (done σ γ w (.bool b) (.bool b) ⟨Gh.Ext.refl γ,hs.os,rfl,fun x h=>.inl h,fun x h=>.inl h,fun x h=>h,fun x h=>h⟩ (by rfl)))
  have e1:a.eval (.const (.slice none 0 0))= .slice none 0 0:=rfl
  simp_all [execOp]
 ·rename_i t x Y p
  rw [p] at j
  obtain⟨⟨e,J⟩,I,h⟩:=h
  obtain⟨b,hb,F⟩:=ZN (ox:=x) (oy:=.const (.slice none 0 0)) hs.os J (j x (by simp [Op.operands])) I
  refine LB (v:=.bool !b) (w':=w) ?_ (hk _ _ _ (h b hb) (done σ γ w (.bool !b) (.bool !b) ⟨Gh.Ext.refl γ,hs.os,rfl,fun x h=>.inl h,fun x h=>.inl h,fun x h=>h,fun x h=>h⟩ (by rfl)))
  have e1:a.eval (.const (.slice none 0 0))= .slice none 0 0:=rfl
  simp_all [execOp]
 ·rename_i t x y p
  rw [p] at j
  obtain⟨w',γ',σ',F,C,ho⟩:=ZF hs.os (j x (by simp [Op.operands])) (j y (by simp [Op.operands])) h
  have q:(execOp a.eval o).run cx.P w= .ok .skip w':=by simp_all [execOp]
  unfold Oper.wp
  rw [q]
  exact hk _ _ _ C (done σ' γ' w' .any undef ho trivial)
 ·rename_i t m i x p
  rw [p] at j
  obtain⟨w',γ',σ',F,C,ho⟩:=Wf hs.os (j m (by simp [Op.operands])) (j i (by simp [Op.operands])) (j x (by simp [Op.operands])) h
  have q:(execOp a.eval o).run cx.P w= .ok .skip w':=by simp_all [execOp]
  unfold Oper.wp
  rw [q]
  exact hk _ _ _ C (done σ' γ' w' .any undef ho trivial)
 ·rename_i t m i x p
  rw [p] at j
  obtain⟨w',γ',σ',F,C,ho⟩:=Wf hs.os (j m (by simp [Op.operands])) (j i (by simp [Op.operands])) (j x (by simp [Op.operands])) h
  have q:(execOp a.eval o).run cx.P w= .ok .skip w':=by simp_all [execOp]
  unfold Oper.wp
  rw [q]
  exact hk _ _ _ C (done σ' γ' w' .any undef ho trivial)
 ·rename_i G u p
  split at h
  ·rename_i x y t t' hx U
   obtain⟨rfl,h⟩:=h
   have ha:G= #[x,y] :=by grind
   have O:u= #[t',t'] :=by grind
   subst ha O
   rw [p] at j
   obtain⟨W,w',γ',σ',av,F,hv,C,ho⟩:=ek (ty:=o.type) hs.os hs.td (j x (by simp [Op.operands,Call.operands])) (j y (by simp [Op.operands,Call.operands])) h
   refine LB (v:=W) (w':=w') ?_ (hk _ _ _ C (done σ' γ' w' av W ho hv))
   simp_all [execOp,resolve,invoke,builtin]
  grind
 ·exact UN hs hok h hk
theorem ZP {γ:Gh} {σ:St} {a:Act} {w:World} {o:Oper} {K:St→Prop} {next:Act→World→Prop} {Q:Exit→Act→World→Prop} (hs:Sim cx N γ σ a w) (hok:ED N o=true) (h:MM cx.P o σ K)
  (hk:∀σ' a' w',K σ'→SimE cx N σ' a' w'→next a' w'):o.wp cx.P a w next Q:=by
 have hd:=Et hok
 have q:=BT (γ:=γ) (s:=σ.g) (e:=σ.e) (a:=a) hok (fun x _=>St.e_eq σ x) (fun t _=>hs.sl t)
 unfold MM at h
 split at h
 ·rename_i g j u F
  rw [F] at q
  have h1:=q g (by simp [Op.operands,Call.operands])
  split at h
  ·rename_i f U he
   rw [he] at h1
   simp only [VSim] at h1
   obtain⟨cv,h2,h3⟩:=h1
   obtain⟨ho,h⟩:=h
   obtain⟨O,ws,cs,hfv,e1⟩:=cu ho h2 h3 (AH.of_map (e:=σ.e) (ρ:=a.eval) (l:=j.toList) fun x hx=>q x (by grind [Op.operands,Call.operands]))
   obtain⟨bs,h⟩:=h
   obtain⟨hb,p⟩:=SB hs.os hs.td hs.bd h O
   unfold GK at hb
   cases hf:cx.P.funcs[f]? with
   |none=>grind
   | some fn=>
    simp only [hf,Option.any_some,Bool.and_eq_true,Bool.not_eq_true',beq_eq_false_iff_ne] at hb
    have C:(callFunc f (fnU cv (j.toList.map a.eval)).toArray).run cx.P w= .ok (.enter f (fnU cv (j.toList.map a.eval)).toArray) w:=by
     obtain⟨c,h1⟩:=Option.isSome_iff_exists.1 hb.1
     simp_all [callFunc]
    have hr:(execOp a.eval o).run cx.P w=(callFunc f (fnU cv (j.toList.map a.eval)).toArray).run cx.P w:=by
     have e2:(j.toList.map a.eval).toArray =j.map a.eval:=by grind
     rw [e1,e2]
     grind [execOp,resolve,Deferred.ofValue,invoke]
    unfold Oper.wp
    rw [hr,C]
    simp only [Oper.upon]
    refine p.mono ?_
    rintro e w' ⟨v,γ',σ',r,rfl,hK,hv,G,hos,J,W,Y⟩
    simp only
    have hT:(σ'.put o.dst r).T =σ'.T:=by cases o.dst <;> rfl
    have hB:(σ'.put o.dst r).B =σ'.B:=by cases o.dst <;> rfl
    have ht:(σ'.put o.dst r).t =σ'.t:=by cases o.dst <;> rfl
    have I:(σ'.put o.dst r).b =σ'.b:=by cases o.dst <;> rfl
    have hg:∀i,σ'.g i=σ.g i:=fun i=>by unfold St.g; rw [J]
    refine hk _ _ _ hK ⟨γ',by rw [hT,hB]; omega,fun i=>?_,fun t h=>by rw [ht]; grind,fun b h=>by rw [I]; grind,by rw [Hk]; exact hs.df,by rw [KX]; exact hs.n⟩
    rw [St.g_put,hg]; exact KW G hs.n hs.sl hd hv i
  grind
 grind
theorem OwnR.of_append {V w} {cs} {sz}:∀ {xs ys} {o} {fp},OwnR V w cs sz o (xs++ys) fp→∃j p,OwnR V w cs sz o xs j∧OwnR V w cs sz (o+xs.length*sz) ys p∧fp=j++p
 | [],ys,o,fp,h=>⟨[],fp,by rfl,by grind,rfl⟩
 |x::xs,ys,o,fp,h=>by
  simp only [List.cons_append,OwnR] at h
  obtain⟨j,p,h1,h2,h3,rfl⟩:=h
  obtain⟨q,u,k1,k2,rfl⟩:=OwnR.of_append h3
  refine⟨j++q,u,?_,?_,by rw [List.append_assoc]⟩
  ·simp only [OwnR]; exact⟨j,q,h1,h2,k1,rfl⟩
  ·rw [List.length_cons,Nat.add_mul,Nat.one_mul,show o+(xs.length*sz+sz)=o+sz+xs.length*sz from by omega]; exact k2
theorem OwnR.cut {V w} {cs} {sz o i n} {rows} {fp} (h:OwnR V w cs sz o rows fp) (hi:i≤rows.length):∃f a b,OwnR V w cs sz (o+i*sz) ((rows.drop i).take n) f∧fp=a++f++b:=by
 rw [← List.take_append_drop i rows] at h
 obtain⟨p,j,-,h2,rfl⟩:=OwnR.of_append h
 rw [List.length_take,Nat.min_eq_left hi,← List.take_append_drop n (rows.drop i)] at h2
 grind [OwnR.of_append]
theorem bN {γ:Gh} {σ:St} {a:Act} {w:World} {pos:Nat} {o:Oper} {K:St→Prop} {next:Act→World→Prop} {Q:Exit→Act→World→Prop} (hs:Sim cx N γ σ a w) (hok:ED N o=true) (h:SliK cx.P pos o σ K)
  (hk:∀σ' a' w',K σ'→SimE cx N σ' a' w'→next a' w'):o.wp cx.P a w next Q:=by
 have hd:=Et hok
 have hop:=BT (γ:=γ) (s:=σ.g) (e:=σ.e) (a:=a) hok (fun x _=>St.e_eq σ x) (fun t _=>hs.sl t)
 unfold SliK at h
 split at h
 ·rename_i t x l h' J
  rw [J] at hop
  split at h
  ·rename_i n he
   obtain⟨tk,hT,W,hu,⟨hsz,hrl⟩,i,hi,j,hj,r,hr,hlook,hK⟩:=h
   have hx:=hop x (by simp [Op.operands])
   rw [he] at hx
   simp only [VSim] at hx
   obtain⟨⟨q,-⟩,hx⟩:=hx
   have hbl:(l.map a.eval=none∧i=0)∨∃k,l.map a.eval=some (.int k i):=Gf (w0:=γ.vw) (γ:=γ) (a:=l.map σ.e) (v:=l.map a.eval) (fun y hy=>by
    cases l with
    |none=>cases hy
    |some l=>grind [Op.operands]) (fun hy=>by simp_all) hi
   have hbh:(h'.map a.eval=none∧j=tk.rows.length)∨∃k,h'.map a.eval=some (.int k j):=Gf (w0:=γ.vw) (γ:=γ) (a:=h'.map σ.e) (v:=h'.map a.eval) (fun y hy=>by
    cases h' with
    |none=>cases hy
    |some l=>grind [Op.operands]) (fun hy=>by simp_all) hj
   unfold cutL at hr
   by_cases h0:0≤i∧i≤j∧j≤tk.rows.length
   case neg=>rw [if_neg h0] at hr; cases hr
   rw [if_pos h0] at hr
   cases hr
   have O:=(hs.os.tok n tk q hT).own
   have hsz':=CZ (P:=cx.P) (w:=w) hsz
   have u:((tk.rows.drop i.toNat).take (j - i).toNat).length =j.toNat - i.toNat:=by rw [List.length_take,List.length_drop]; omega
   have key:∃F f,(execOp a.eval o).run cx.P w= .ok (.value F) w∧Own (tk.vw γ.vw) w (.sl ((tk.rows.drop i.toNat).take (j - i).toNat)) F f∧f.Nodup∧∀g ∈ f,g ∈ γ.tf n:=by
    have run:∀ (I:Option Addr) (c:Nat),γ.tv n= .slice I tk.rows.length c→tk.rows.length≤c→(execOp a.eval o).run cx.P w= .ok (.value (.slice (if c=i.toNat then I else I.map (·.add (i.toNat*tsz cx.P W))) (j.toNat - i.toNat) (c - i.toNat))) w:=fun I c hv hc=>by
     have hb:=LG (P:=cx.P) (w:=w) (b:=true) hbl hbh hc h0
     rw [← hx] at hv
     simp only [execOp,J,hv,Sem.run_bind]
     simp [Instr.sliceAt,Instr.slice,run_underlying (IE hu),hb,hsz']
    have hnd:=hs.os.tnd n tk q hT
    simp only [Own] at O
    by_cases he0:j.toNat - i.toNat=0
    ·have hnil:(tk.rows.drop i.toNat).take (j - i).toNat =[] :=List.eq_nil_of_length_eq_zero (by rw [u]; omega)
     have:∃I c,γ.tv n= .slice I tk.rows.length c∧tk.rows.length≤c∧c≤maxLen:=by
      grind
     obtain⟨I,c,h1,h2,h3⟩:=this
     refine⟨_,[],run I c h1 h2,?_,List.nodup_nil,by simp⟩
     grind [Own]
    ·rcases O with ⟨h1,-,-⟩|⟨sz,g,o1,c,e,cs,fps,h1,h2,h3,hb,h4,hR,hfp⟩
     ·rw [h1] at h0; grind
     ·have h5:0<tk.rows.length:=by omega
      have hsz2:sz=tsz cx.P W:=by
       obtain⟨_,_,_,_,h6,-⟩:=hR.split 0 h5
       grind
      subst hsz2
      have hci:i.toNat≤c:=by omega
      obtain⟨f,fa,fb,k1,k2⟩:=OwnR.cut (i:=i.toNat) (n:=(j - i).toNat) hR (by omega)
      have hmul:i.toNat*tsz cx.P W+(c - i.toNat)*tsz cx.P W=c*tsz cx.P W:=by rw [← Nat.add_mul]; grind
      refine⟨_,g::f,run _ c h1 h2,?_,?_,fun g' hg'=>?_⟩
      ·simp only [Own]
       refine .inr ⟨tsz cx.P W,g,o1+i.toNat*tsz cx.P W,c - i.toNat,e,cs,f,?_,by rw [u]; omega,by omega,hb,by omega,k1,rfl⟩
       rw [if_neg (by omega),u]
       simp [Addr.add]
      ·rw [hfp,k2] at hnd
       grind
      grind
   obtain⟨F,f,hrun,Y,hnd',hin⟩:=key
   have p:¬γ.tl (pos*16):=fun q=>by
    have h1:=hs.td _ q
    rw [hlook] at h1; cases h1
   have hne:pos*16≠n:=fun e=>by rw [e] at p; grind
   have hs1:=hs.os.kill n
   have hTn:tset σ.T n none (pos*16)=none:=by
    grind [tset,St.T]
   have hfree:=hs.os.freed q hT
   have G:Aa γ.vw w ⟨(tk.rows.drop i.toNat).take (j - i).toNat,none,0,tk.z⟩ F f:=Y
   have hfin:=hs1.putTok (tk:=⟨(tk.rows.drop i.toNat).take (j - i).toNat,none,0,tk.z⟩) hTn (fun h=>absurd h p) G hnd' (fun g hg=>hfree g (hin g hg)) (fun h=>absurd h p) (fun h=>absurd h p)
   have hext:Gh.Ext γ (γ.tok w (pos*16) F f 0):=Gh.tok_ext fun h=>absurd h p
   refine LB (v:=F) (w':=w) hrun (hk _ _ _ hK ⟨γ.tok w (pos*16) F f 0,?_,fun x=>?_,fun z hz=>?_,fun z hz=>?_,by rw [Hk]; exact hs.df,by rw [KX]; exact hs.n⟩)
   ·refine hfin.tables (fun z tz' _ hz=>?_) fun b vs _ hb=>?_
    ·have C:(St.put ⟨σ.s,(pos*16,some ⟨(tk.rows.drop i.toNat).take (j - i).toNat,none,0,tk.z⟩)::(n,none)::σ.t,σ.b⟩ o.dst (.own (pos*16))).T z=(look ((pos*16,some ⟨(tk.rows.drop i.toNat).take (j - i).toNat,none,0,tk.z⟩)::(n,none)::σ.t) z).join :=by cases o.dst <;> rfl
     rw [C] at hz
     simp only [AI] at hz
     split at hz
     ·grind
     ·rename_i e
      rw [if_neg e]
      unfold tset
      split at hz
      ·cases hz
      ·rename_i e2; rw [if_neg e2]; exact hz
    ·have C:(St.put ⟨σ.s,(pos*16,some ⟨(tk.rows.drop i.toNat).take (j - i).toNat,none,0,tk.z⟩)::(n,none)::σ.t,σ.b⟩ o.dst (.own (pos*16))).B b=σ.B b:=by cases o.dst <;> rfl
     rw [C] at hb; exact hb
   ·rw [St.g_put]
    have U:=G.rep hs1.vw.k
    simp only [Rep] at U
    obtain⟨a',c',hv',-⟩:=U
    refine KW hext hs.n hs.sl hd (av:=.own (pos*16)) ?_ x
    simp only [VSim]
    have C:(γ.tok w (pos*16) F f 0).tv (pos*16)=F:=by show (if pos*16=pos*16 then _ else _)=_; rw [if_pos rfl]
    rw [C]
    exact⟨⟨.inr rfl,a',_,c',hv'⟩,rfl⟩
   ·have C:(St.put ⟨σ.s,(pos*16,some ⟨(tk.rows.drop i.toNat).take (j - i).toNat,none,0,tk.z⟩)::(n,none)::σ.t,σ.b⟩ o.dst (.own (pos*16))).t =(pos*16,some ⟨(tk.rows.drop i.toNat).take (j - i).toNat,none,0,tk.z⟩)::(n,none)::σ.t:=by cases o.dst <;> rfl
    rw [C]
    simp only [AI]
    split
    ·rfl
    ·split
     ·rfl
     ·rename_i e2 _
      rcases hz with hz|hz
      ·exact hs.td z hz
      omega
   ·have C:(St.put ⟨σ.s,(pos*16,some ⟨(tk.rows.drop i.toNat).take (j - i).toNat,none,0,tk.z⟩)::(n,none)::σ.t,σ.b⟩ o.dst (.own (pos*16))).b =σ.b:=by cases o.dst <;> rfl
    rw [C]; exact hs.bd z hz
  grind
 grind
theorem UO {γ} {σ} {a} {w} (hs:Sim cx N γ σ a w) {ops} {j s} {b} (hj:Ij ops j=some s) (hb:σ.g s= .bool b):yielded ops a.tmps j=some b:=by
 have h1:=hs.sl s
 rw [hb] at h1
 simp only [VSim] at h1
 unfold Ij at hj
 unfold yielded
 rw [hj]
 simp only [Option.bind_some]
 rw [Array.getD_eq_getD_getElem?] at h1
 grind [undef]
theorem UP {γ} {σ} {a} {w} (hs:Sim cx N γ σ a w) {ops} {j s} (hj:Ij ops j=some s) (hb:σ.g s= .tup []):yielded ops a.tmps j=none:=by
 have h1:=hs.sl s
 rw [hb] at h1
 simp only [VSim,AH] at h1
 obtain⟨us,h1,rfl⟩:=h1
 unfold Ij at hj
 unfold yielded
 rw [hj]
 simp only [Option.bind_some]
 rw [Array.getD_eq_getD_getElem?] at h1
 grind
theorem UQ {w0} {γ}:VSim w0 γ (.tup []) undef:=by simp only [VSim,AH]; exact⟨[],rfl,rfl⟩
theorem Sim.putU {γ:Gh} {σ:St} {a:Act} {w:World} (hs:Sim cx N γ σ a w) {dst:Option Tmp} (hd:∀d,dst=some d→d<N):Sim cx N γ (σ.put dst (.tup [])) (a.put dst undef) w:=by
 refine⟨?_,fun i=>?_,?_,?_,by rw [Hk]; exact hs.df,by rw [KX]; exact hs.n⟩
 ·have q:(σ.put dst (.tup [])).T =σ.T:=by cases dst <;> rfl
  have p:(σ.put dst (.tup [])).B =σ.B:=by cases dst <;> rfl
  rw [q,p]; exact hs.os
 ·rw [St.g_put]
  exact KW (Gh.Ext.refl γ) hs.n hs.sl hd (av:=.tup []) UQ i
 ·have j:(σ.put dst (.tup [])).t =σ.t:=by cases dst <;> rfl
  rw [j]; exact hs.td
 ·have j:(σ.put dst (.tup [])).b =σ.b:=by cases dst <;> rfl
  rw [j]; exact hs.bd
end
end Go.Proofs.YtjnifengdhcojaaGreatDoor.Ab
