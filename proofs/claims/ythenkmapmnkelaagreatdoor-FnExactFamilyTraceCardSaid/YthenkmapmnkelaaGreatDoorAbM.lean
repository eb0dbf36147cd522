/- The abstract walk, thirteenth part. -/
import Derived.Test.YthenkmapmnkelaaGreatDoorAbLa
import Derived.Tactics
namespace Go.Proofs.YthenkmapmnkelaaGreatDoor.Ab
set_option linter.unusedVariables false
set_option maxHeartbeats 1000000
set_option linter.unusedSimpArgs false
open Go.RowKit
mutual
def KZ:Value→Bool
 | .int k n=>(Lit.int k n).wf
 | .string s=>decide (s.size≤maxLen)
 | .agg cs=>NW cs.toList
 |_=>true
def NW:List Value→Bool
 | [] =>true
 |v::vs=>KZ v&&NW vs
end
mutual
theorem N4 {w0} {γ}:∀ (v:Value),KZ v=true→VSim w0 γ (BW v) v
 | .int k n,h=>by grind [KZ,BW,DQ]
 | .bool b,h=>by rfl
 | .string s,h=>by grind [KZ,BW,We]
 | .agg cs,h=>by
  simp only [KZ] at h
  simp only [BW,VSim]
  exact⟨cs.toList,by simp,MX cs.toList h⟩
 | .slice none 0 0,h=>by rfl
 | .slice none 0 (c+1),h=>by simp only [BW]; trivial
 | .slice none (n+1) c,h=>by simp only [BW]; trivial
 | .slice (some a) n c,h=>by simp only [BW]; trivial
 | .pointer none,h=>by rfl
 | .pointer (some a),h=>by simp only [BW]; trivial
 | .float _ _,h=>by simp only [BW]; trivial
 | .complex _ _ _,h=>by simp only [BW]; trivial
 | .map _,h=>by simp only [BW]; trivial
 | .chan _,h=>by simp only [BW]; trivial
 | .func _ _ _,h=>by simp only [BW]; trivial
 | .nilFunc,h=>by simp only [BW]; trivial
 | .iface _ _,h=>by simp only [BW]; trivial
 | .nilIface,h=>by simp only [BW]; trivial
 | .tuple _,h=>by simp only [BW]; trivial
theorem MX {w0} {γ}:∀ (vs:List Value),NW vs=true→AH w0 γ (H7 vs) vs
 | [],h=>by rfl
 |v::vs,h=>by
  simp only [NW,Bool.and_eq_true] at h
  simp only [H7,AH]
  exact⟨v,vs,rfl,N4 v h.1,MX vs h.2⟩
end
def EX (N:Nat) (o:Oper):Bool:=(o.op.operands.toList.all fun| .const v=>KZ v|_=>true)&&(match o.dst with|some d=>decide (d<N)|none=>true)
theorem St.g_put (σ:St) (dst:Option Tmp) (v:AV) (i:Nat):(σ.put dst v).g i=if dst=some i then v else σ.g i:=by
 unfold St.g St.put
 grind [AJ]
theorem Wo (a:Act) (dst:Option Tmp) (v:Value) (i:Nat) (h:∀d,dst=some d→d<a.tmps.size):(a.put dst v).tmps.getD i undef=if dst=some i then v else a.tmps.getD i undef:=by
 cases dst with
 |none=>rfl
 |some d=>
  have hd:=h d rfl
  simp only [Act.put,Option.some.injEq]
  by_cases e:d=i
  ·simp_all
  simp_all
section
variable {cx:Cx} {N:Nat} {w:World} {P:Program}
theorem FB {o} (h:EX N o=true):∀d,o.dst=some d→d<N:=fun d hd=>by
 grind [EX]
theorem Ka {γ γ':Gh} {s:Nat→AV} {a:Act} (he:Gh.Ext γ γ') (hn:a.tmps.size=N) (hs:∀i,VSim γ.vw γ (s i) (a.tmps.getD i undef)) {dst:Option Tmp} (hd:∀d,dst=some d→d<N) {av:AV} {v:Value} (hv:VSim γ'.vw γ' av v):
  ∀i,VSim γ'.vw γ' (if dst=some i then av else s i) ((a.put dst v).tmps.getD i undef):=fun i=>by
 rw [Wo a dst v i (by rw [hn]; exact hd)]
 split
 ·exact hv
 ·exact VSim.mono he.vw he (hs i)
theorem Kb (a:Act) (dst:Option Tmp) (v:Value):(a.put dst v).tmps.size =a.tmps.size:=by cases dst <;> simp [Act.put]
theorem Ho (a:Act) (dst:Option Tmp) (v:Value):(a.put dst v).defers =a.defers:=by cases dst <;> rfl
theorem Bq {γ:Gh} {s:Nat→AV} {e:Operand→AV} {a:Act} {o:Oper} (hok:EX N o=true) (he:∀x ∈ o.op.operands,e x=match x with| .tmp t=>s t| .const v=>BW v| .func f=>.fn f [] | .global _=>.any)
  (hs:∀t,.tmp t ∈ o.op.operands→VSim γ.vw γ (s t) (a.tmps.getD t undef)):∀x ∈ o.op.operands,VSim γ.vw γ (e x) (a.eval x):=fun x hx=>by
 rw [he x hx]
 unfold EX at hok
 rw [Bool.and_eq_true] at hok
 have h1:=hok.1
 rw [List.all_eq_true] at h1
 have h2:=h1 x (Array.mem_toList_iff.2 hx)
 cases x with
 |tmp t=>exact hs t hx
 |const v=>exact N4 v h2
 |global g=>trivial
 |func f=>simp only [VSim]; exact⟨[],.inl ⟨rfl,rfl⟩,by rfl⟩
theorem St.e_eq (σ:St) (x:Operand):σ.e x=match x with| .tmp t=>σ.g t| .const v=>BW v| .func f=>.fn f [] | .global _=>.any :=by cases x <;> rfl
theorem Vv:∀ (l:List (Nat × Tok)) (σ:List (Nat × Option Tok)) (x:Nat),(look σ x).isSome =true∨(∃y ∈ l,y.1 =x)→(look (addT σ l) x).isSome =true
 | [],σ,x,h=>by
  rcases h with h|⟨y,hy,-⟩
  ·exact h
  grind
 | (n,tk)::l,σ,x,h=>by
  simp only [addT,AJ]
  split
  ·rfl
  ·rename_i j
   refine Vv l σ x ?_
   rcases h with h|⟨y,hy,hyx⟩
   ·exact .inl h
   ·rcases List.mem_cons.1 hy with rfl|hy
    ·exact absurd hyx.symm j
    ·exact .inr ⟨y,hy,hyx⟩
theorem Vw:∀ (l:List (Nat × List AV)) (σ:List (Nat × Option (List AV))) (x:Nat),(look σ x).isSome =true∨(∃y ∈ l,y.1 =x)→(look (addB σ l) x).isSome =true
 | [],σ,x,h=>by
  rcases h with h|⟨y,hy,-⟩
  ·exact h
  grind
 | (n,tk)::l,σ,x,h=>by
  simp only [addB,AJ]
  split
  ·rfl
  ·rename_i j
   refine Vw l σ x ?_
   rcases h with h|⟨y,hy,hyx⟩
   ·exact .inl h
   ·rcases List.mem_cons.1 hy with rfl|hy
    ·exact absurd hyx.symm j
    ·exact .inr ⟨y,hy,hyx⟩
theorem PW:∀ (l:List (Nat × Tok)) (σ:List (Nat × Option Tok)) (x:Nat),(∀y ∈ l,y.1 ≠x)→look (addT σ l) x=look σ x
 | [],_,_,_=>rfl
 |(n,tk)::l,σ,x,h=>by
  simp only [addT,AJ]
  rw [if_neg (fun e=>h (n,tk) (by simp) e.symm),PW l σ x fun y hy=>h y (by grind)]
theorem PX:∀ (l:List (Nat × List AV)) (σ:List (Nat × Option (List AV))) (x:Nat),(∀y ∈ l,y.1 ≠x)→look (addB σ l) x=look σ x
 | [],_,_,_=>rfl
 |(n,tk)::l,σ,x,h=>by
  simp only [addB,AJ]
  rw [if_neg (fun e=>h (n,tk) (by simp) e.symm),PX l σ x fun y hy=>h y (by grind)]
theorem MY:∀ (l:List (Nat × Tok)) (σ:List (Nat × Option Tok)),(l.map (·.1)).Nodup →∀y ∈ l,look (addT σ l) y.1 =some (some y.2)
 | [],_,_,y,hy=>by cases hy
 | (n,tk)::l,σ,hn,y,hy=>by
  simp only [List.map_cons,List.nodup_cons] at hn
  simp only [addT,AJ]
  rcases List.mem_cons.1 hy with rfl|hy
  ·rw [if_pos rfl]
  ·rw [if_neg (fun e:y.1 =n=>hn.1 (by rw [← e]; exact List.mem_map.2 ⟨y,hy,rfl⟩))]
   exact MY l σ hn.2 y hy
theorem MZ:∀ (l:List (Nat × List AV)) (σ:List (Nat × Option (List AV))),(l.map (·.1)).Nodup →∀y ∈ l,look (addB σ l) y.1 =some (some y.2)
 | [],_,_,y,hy=>by cases hy
 | (n,tk)::l,σ,hn,y,hy=>by
  simp only [List.map_cons,List.nodup_cons] at hn
  simp only [addB,AJ]
  rcases List.mem_cons.1 hy with rfl|hy
  ·rw [if_pos rfl]
  ·rw [if_neg (fun e:y.1 =n=>hn.1 (by rw [← e]; exact List.mem_map.2 ⟨y,hy,rfl⟩))]
   exact MZ l σ hn.2 y hy
theorem Fx {σ}:∀ {l},Cq σ l→∀y ∈ l,look σ.t y.1 =none
 | [],_,y,hy=>by cases hy
 |(n,tk)::l,h,y,hy=>by
  simp only [Cq] at h
  rcases List.mem_cons.1 hy with rfl|hy
  ·exact h.1
  ·exact Fx h.2 y hy
theorem E5 {σ}:∀ {l},EV σ l→∀y ∈ l,look σ.b y.1 =none
 | [],_,y,hy=>by cases hy
 |(n,tk)::l,h,y,hy=>by
  simp only [EV] at h
  rcases List.mem_cons.1 hy with rfl|hy
  ·exact h.1
  ·exact E5 h.2 y hy
def Le {α:Type} (T T':Nat→Option α):Prop:=∀x y,T x=some y→T' x=some y
theorem NX {T T'} (h:Le T T') {t g} {p} {r} (hs:subR T t g p=some r):subR T' t g p=some r:=by
 unfold subR at hs ⊢
 cases hT:T t with
 |none=>rw [hT] at hs; cases hs
 |some tk=>rw [h t tk hT]; rw [hT] at hs; exact hs
theorem gC {T T'} (h:Le T T') {a} {d} (hd:toD T a=some d):toD T' a=some d:=by
 cases a with
 |own t=>
  simp only [toD] at hd ⊢
  cases hT:T t with
  |none=>grind
  |some tk=>rw [h t tk hT]; grind
 |_=>first|exact hd|(simp [toD] at hd)
theorem Qr {T T'} (h:Le T T'):∀ {as} {ds},toDs T as=some ds→toDs T' as=some ds
 | [],ds,hd=>by grind [toDs]
 | a::as,ds,hd=>by
  simp only [toDs] at hd ⊢
  cases ha:toD T a with
  |none=>simp [ha] at hd
  | some d=>
   cases has:toDs T as with
   |none=>simp [ha,has] at hd
   |some ds'=>
    rw [gC h ha,Qr h has]
    simpa [ha,has] using hd
theorem Vx {T T'} (h:Le T T') {t g} {p} {r} (hx:subE T t g p=some r):subE T' t g p=some r:=by
 unfold subE at hx ⊢
 cases hT:T t with
 |none=>rw [hT] at hx; cases hx
 |some tk=>rw [h t tk hT]; rw [hT] at hx; exact hx
theorem gD {T T'} {B B'} (h:Le T T') (hb:Le B B') {a} {d} (hd:toA T B a=some d):toA T' B' a=some d:=by
 cases a with
 |own t=>
  simp only [toA] at hd ⊢
  cases hT:T t with
  |none=>grind
  |some tk=>rw [h t tk hT]; grind
 |sub t g p=>
  simp only [toA] at hd ⊢
  cases hT:subE T t g p with
  |none=>grind
  |some r=>rw [Vx h hT]; grind
 | bsl b n sz=>
  simp only [toA] at hd ⊢
  cases hB:B b with
  |none=>grind
  |some vs=>
   cases hd':toDs T vs with
   |none=>grind
   |some ds=>rw [hb b vs hB]; grind [Qr]
 |_=>first|exact hd|(simp [toA] at hd)
theorem Vy {T T'} {B B'} (h:Le T T') (hb:Le B B'):∀ {as} {ds},toAs T B as=some ds→toAs T' B' as=some ds
 | [],ds,hd=>by grind [toAs]
 | a::as,ds,hd=>by
  simp only [toAs] at hd ⊢
  cases ha:toA T B a with
  |none=>simp [ha] at hd
  | some d=>
   cases has:toAs T B as with
   |none=>simp [ha,has] at hd
   |some ds'=>
    rw [gD h hb ha,Vy h hb has]
    simpa [ha,has] using hd
mutual
theorem bp {T T'} {B B'} (h:Le T T') (hb:Le B B'):∀ {a x},cl T B a=some x→cl T' B' a=some x
 | .int _ _,x,hx=>by grind [cl]
 | .bool _,x,hx=>by grind [cl]
 | .str _,x,hx=>by grind [cl]
 | .ro _,x,hx=>by grind [cl]
 | .nils,x,hx=>by grind [cl]
 | .nilp,x,hx=>by grind [cl]
 | .rop vs off,x,hx=>by
  simp only [cl] at hx ⊢
  cases hc:cls T B vs with
  |none=>grind
  |some xs=>rw [Ma h hb hc]; grind
 | .own t,x,hx=>by
  simp only [cl] at hx ⊢
  cases hT:T t with
  |none=>grind
  |some tk=>rw [h t tk hT]; grind
 | .box b off,x,hx=>by
  simp only [cl] at hx ⊢
  cases hB:B b with
  |none=>grind
  |some vs=>
   cases hd:toAs T B vs with
   |none=>grind
   |some ds=>rw [hb b vs hB]; grind [Vy]
 | .bsl b n sz,x,hx=>by
  simp only [cl] at hx ⊢
  cases hB:B b with
  |none=>grind
  |some vs=>
   cases hd:toDs T vs with
   |none=>grind
   |some ds=>rw [hb b vs hB]; grind [Qr]
 | .elt t sz i off,x,hx=>by
  simp only [cl] at hx ⊢
  cases hT:T t with
  |none=>grind
  |some tk=>rw [h t tk hT]; grind
 | .agg vs,x,hx=>by
  simp only [cl] at hx ⊢
  cases hc:cls T B vs with
  |none=>grind
  |some xs=>rw [Ma h hb hc]; grind
 | .fn f vs,x,hx=>by
  simp only [cl] at hx ⊢
  cases hc:cls T B vs with
  |none=>grind
  |some xs=>rw [Ma h hb hc]; grind
 | .par t sz i n,x,hx=>by
  simp only [cl] at hx ⊢
  cases hT:T t with
  |none=>grind
  |some tk=>rw [h t tk hT]; grind
 | .sub t g p,x,hx=>by
  simp only [cl] at hx ⊢
  cases hT:subE T t g p with
  |none=>grind
  |some r=>rw [Vx h hT]; grind
 | .els t g p sz i off,x,hx=>by
  grind [cl,NX]
 | .mpr _,x,hx=>by grind [cl]
 | .mpc _ _,x,hx=>by grind [cl]
 | .tup _,x,hx=>by simp [cl] at hx
 | .any,x,hx=>by simp [cl] at hx
theorem Ma {T T'} {B B'} (h:Le T T') (hb:Le B B'):∀ {as xs},cls T B as=some xs→cls T' B' as=some xs
 | [],xs,hx=>by grind [cls]
 | a::as,xs,hx=>by
  simp only [cls] at hx ⊢
  cases ha:cl T B a with
  |none=>simp [ha] at hx
  |some y=>
   cases has:cls T B as with
   |none=>simp [ha,has] at hx
   |some ys=>rw [bp h hb ha,Ma h hb has]; simpa [ha,has] using hx
end
theorem Z3 {T T'} {B B'} (h:Le T T') (hb:Le B B') {t} {a v} (hl:Ju P T B t a v):Ju P T' B' t a v:=by
 unfold Ju at*
 split at hl
 ·obtain⟨vs,h1,h2⟩:=hl; exact⟨vs,hb _ _ h1,h2⟩
 ·exact hl
 ·obtain⟨tk,j,h1,h2⟩:=hl; exact⟨tk,j,h _ _ h1,h2⟩
 ·grind [NX]
 omega
theorem dZ {T T'} (h:Le T T') {t} {x i v} (hl:SC P T t x i v):SC P T' t x i v:=by
 unfold SC at*
 split at hl
 ·exact hl
 ·obtain⟨p,tk,j,h1,h2⟩:=hl; exact⟨p,tk,j,h _ _ h1,h2⟩
 ·grind [NX]
 ·exact hl
 omega
theorem db {T T'} {B B'} (h:Le T T') (hb:Le B B') {t} {x v} (hl:SB P T B t x v):SB P T' B' t x v:=by
 unfold SB at*
 split at hl
 ·exact hl
 ·exact hl
 ·exact hl
 ·exact hl
 ·obtain⟨tk,h1,h2⟩:=hl; exact⟨tk,h _ _ h1,h2⟩
 ·grind [NX]
 ·obtain⟨q,j,h1,h2⟩:=hl; exact⟨q,j,hb _ _ h1,h2⟩
 omega
theorem Z4 {B B'} (hb:Le B B') {t} {x i v} {ok} (hl:Ra P B t x i ok v):Ra P B' t x i ok v:=by
 unfold Ra at*
 split at hl
 ·obtain⟨q,j,h1,h2⟩:=hl; exact⟨q,j,hb _ _ h1,h2⟩
 omega
theorem Z5 {T T'} {B B'} (h:Le T T') (hb:Le B B') {pos} {g} {args} {r} (hl:S9 P T B pos g args r):S9 P T' B' pos g args r:=by
 unfold S9 at*
 grind [Ma]
theorem dc {T T'} (h:Le T T') {t} {x v} {l h'} (hl:Wa P T t x l h' v):Wa P T' t x l h' v:=by
 unfold Wa at*
 split at hl
 ·obtain⟨tk,h1,h2⟩:=hl; exact⟨tk,h _ _ h1,h2⟩
 omega
theorem bq {T T'} {B B'} (h:Le T T') (hb:Le B B') {pos} {o} {e} {r} (hl:Ev P pos o e T B r):Ev P pos o e T' B' r:=by
 obtain⟨dst,op,ty,p,after,j⟩:=o
 unfold Ev at*
 dsimp only at*
 split at hl <;> try exact hl
 ·grind [Z3]
 ·grind [bp]
 ·grind [dZ]
 ·grind [dc]
 ·grind [db]
 ·grind [Z5]
 grind [Z4]
end
section
variable {cx:Cx} {N:Nat}
mutual
theorem YO:∀ (n:Nat) (r:RV),((conv n r).2.map (·.1))=List.range' n (conv n r).2.length
 |n,.int _ _=>rfl
 |n,.bool _=>rfl
 |n,.str _=>rfl
 |n,.ow _ _=>rfl
 |n,.ro _=>rfl
 |n,.nilp =>rfl
 |n,.agg vs=>by simp only [conv]; exact Qs n vs
 |n,.tup vs=>by simp only [conv]; exact Qs n vs
theorem Qs:∀ (n:Nat) (rs:List RV),((G4 n rs).2.map (·.1))=List.range' n (G4 n rs).2.length
 |n,[] =>rfl
 |n,r::rs=>by
  simp only [G4,List.map_append,List.length_append,YO n r,Qs (n+(conv n r).2.length) rs]
  rw [List.range'_append_1]
end
theorem Qt {P} {pos} {o} {e} {T} {B} {r} (h:Ev P pos o e T B r):(r.t.map (·.1)).Nodup ∧(r.b.map (·.1)).Nodup :=by
 have nil:(([] :List (Nat × Tok)).map (·.1)).Nodup ∧(([] :List (Nat × List AV)).map (·.1)).Nodup :=⟨List.nodup_nil,List.nodup_nil⟩
 have one:∀ (b:Nat) (vs:List AV),(([] :List (Nat × Tok)).map (·.1)).Nodup ∧([(b,vs)].map (·.1)).Nodup :=fun b vs=>⟨List.nodup_nil,by simp⟩
 obtain⟨dst,op,ty,p,after,j⟩:=o
 unfold Ev at h
 dsimp only at h
 split at h
 ·grind
 ·grind
 ·grind
 ·grind
 ·grind
 ·grind
 ·grind
 ·grind
 ·grind
 ·grind
 ·grind
 ·grind
 ·grind
 ·grind
 ·grind
 ·grind
 ·grind
 ·grind
 ·grind
 ·unfold S9 at h
  split at h
  ·obtain⟨-,h⟩:=h
   rcases h with h|h
   ·grind [YO]
   ·obtain⟨_,_,_,_,_,_,h⟩:=h
    grind
  grind
 ·split at h
  ·obtain⟨_,_,h⟩:=h
   split at h
   ·obtain⟨_,z,h⟩:=h
    cases z
    ·obtain⟨_,_,rfl⟩:=h; grind
    ·obtain⟨_,_,rfl⟩:=h; grind
    ·obtain⟨_,_,rfl⟩:=h; grind
   grind
  grind
 ·split at h
  ·obtain⟨_,_,_,_,h⟩:=h
   grind
  grind
 ·grind
 ·grind
 ·split at h
  ·obtain⟨_,_,_,_,_,_,_,_,_,rfl⟩:=h; grind
  grind
 ·grind
 ·grind
 grind
theorem Sim.add {γ γ':Gh} {σ:St} {a:Act} {w w':World} {dst:Option Tmp} {r:Res} {v:Value} (hs:Sim cx N γ σ a w) (hd:∀d,dst=some d→d<N) (hf:Cq σ r.t) (hfb:EV σ r.b)
  (he:Gh.Ext γ γ') (ht:∀t,γ'.tl t→γ.tl t∨∃x ∈ r.t,x.1 =t) (hb:∀b,γ'.bl b→γ.bl b∨∃x ∈ r.b,x.1 =b) (hos:OSim cx γ' (σ.add dst r).T (σ.add dst r).B w') (hv:VSim γ'.vw γ' r.v v):Sim cx N γ' (σ.add dst r) (a.put dst v) w':=by
 have hg:∀i,(σ.add dst r).g i=if dst=some i then r.v else σ.g i:=fun i=>by
  have:(σ.add dst r).g i=(σ.put dst r.v).g i:=rfl
  rw [this,St.g_put]
 refine⟨hos,fun i=>by rw [hg]; exact Ka he hs.n hs.sl hd hv i,fun t h=>?_,fun b h=>?_,by rw [Ho]; exact hs.df,by rw [Kb]; exact hs.n⟩
 ·refine Vv r.t σ.t t ?_
  rcases ht t h with h|h
  ·exact .inl (hs.td t h)
  grind
 ·refine Vw r.b σ.b b ?_
  rcases hb b h with h|h
  ·exact .inl (hs.bd b h)
  grind
theorem gE {σ} {dst} {r} (hf:Cq σ r.t):Le σ.T (σ.add dst r).T :=fun x y h=>by
 show (look (addT σ.t r.t) x).join =some y
 rw [PW]
 ·exact h
 ·intro z hz e
  grind [Fx,St.T]
theorem gF {σ} {dst} {r} (hf:EV σ r.b):Le σ.B (σ.add dst r).B :=fun x y h=>by
 show (look (addB σ.b r.b) x).join =some y
 rw [PX]
 ·exact h
 ·intro z hz e
  grind [E5,St.B]
theorem YP {γ} {T} {B} {w} (hs:OSim cx γ T B w) {t e} {ox oy} {v} {u} (he:ti cx.P t= .sl e) (hv:VSim γ.vw γ v u) (hn:PJ v=true):
  ∃b,jQ T v b∧(∀op,(eqGuard op t ox oy u (.slice none 0 0)).run cx.P w= .ok () w)∧(binOp .eql t u (.slice none 0 0)).run cx.P w= .ok (.bool b) w∧(binOp .neq t u (.slice none 0 0)).run cx.P w= .ok (.bool !b) w:=by
 have j:=H9 he
 have key:∀ (a:Option Addr) (n c:Nat),u= .slice a n c→(∀op,(eqGuard op t ox oy u (.slice none 0 0)).run cx.P w= .ok () w)∧(binOp .eql t u (.slice none 0 0)).run cx.P w= .ok (.bool a.isNone) w∧(binOp .neq t u (.slice none 0 0)).run cx.P w= .ok (.bool !a.isNone) w:=by
  rintro a n c rfl
  have h1:(Op.equal t (.slice a n c) (.slice none 0 0)).run cx.P w= .ok a.isNone w:=by
   show (Op.equalIn (9999+1) t _ _).run cx.P w=_
   rw [Op.equalIn]
   cases a <;> simp [run_underlying j]
  simp_all [eqGuard,binOp]
 cases v with
 |nils=>
  simp only [VSim] at hv
  exact⟨true,rfl,key none 0 0 hv⟩
 |bsl b n sz=>
  simp only [VSim] at hv
  exact⟨false,rfl,key _ _ _ hv.2.2⟩
 |ro rows=>
  simp only [VSim,Rep] at hv
  obtain⟨a,c,rfl,-,-,q⟩:=hv
  refine⟨a.isNone,fun p=>?_,key a _ c rfl⟩
  grind
 |_=>simp [PJ] at hn
theorem Tl {γ:Gh} {σ:St} {a:Act} {w:World} {pos:Nat} {o:Oper} {K:St→Prop} {next:Act→World→Prop} {Q:Exit→Act→World→Prop} (hs:Sim cx N γ σ a w) (hok:EX N o=true) (h:∃r,Ev cx.P pos o σ.e σ.T σ.B r∧Cq σ r.t∧EV σ r.b∧K (σ.add o.dst r))
  (hk:∀σ' a' w',K σ'→SimE cx N σ' a' w'→next a' w'):o.wp cx.P a w next Q:=by
 have hd:=FB hok
 have I:=Bq (γ:=γ) (s:=σ.g) (e:=σ.e) (a:=a) hok (fun x _=>St.e_eq σ x) (fun t _=>hs.sl t)
 obtain⟨r,C,p,q,O⟩:=h
 have j:=Qt C
 have u:=bq (gE (dst:=o.dst) p) (gF (dst:=o.dst) q) C
 have G:OSim cx γ (σ.add o.dst r).T (σ.add o.dst r).B w:=by
  refine hs.os.tables (fun t tk h1 h2=>?_) fun b vs h1 h2=>?_
  ·have h3:=hs.td t h1
   have F:(look (addT σ.t r.t) t).join =some tk:=h2
   rw [PW] at F
   ·exact F
   ·intro z hz e
    grind [Fx]
  ·have h3:=hs.bd b h1
   have F:(look (addB σ.b r.b) b).join =some vs:=h2
   rw [PX] at F
   ·exact F
   ·intro z hz e
    grind [E5]
 refine Tb u I G (fun x hx=>⟨?_,fun J=>?_⟩) (fun x hx=>⟨?_,fun J=>?_⟩) fun v w' γ' U Y W ho hv=>hk _ _ _ O ⟨γ',hs.add hd p q U Y W ho hv⟩
 ·show (look (addT σ.t r.t) x.1).join =_
  rw [MY _ _ j.1 x hx]; rfl
 ·have h1:=hs.td _ J
  rw [Fx p x hx] at h1; cases h1
 ·show (look (addB σ.b r.b) x.1).join =_
  rw [MZ _ _ j.2 x hx]; rfl
 ·have h1:=hs.bd _ J
  rw [E5 q x hx] at h1; cases h1
theorem YQ {γ:Gh} {σ:St} {a:Act} {w:World} {pos:Nat} {o:Oper} {K:St→Prop} {next:Act→World→Prop} {Q:Exit→Act→World→Prop} (hs:Sim cx N γ σ a w) (hok:EX N o=true) (h:aop cx.P pos o σ K)
  (hk:∀σ' a' w',K σ'→SimE cx N σ' a' w'→next a' w'):o.wp cx.P a w next Q:=by
 have hd:=FB hok
 have j:=Bq (γ:=γ) (s:=σ.g) (e:=σ.e) (a:=a) hok (fun x _=>St.e_eq σ x) (fun t _=>hs.sl t)
 have done:∀ (σ':St) (γ':Gh) (w':World) (av:AV) (v:Value),Out cx γ σ γ' σ' w'→VSim γ'.vw γ' av v→SimE cx N (σ'.put o.dst av) (a.put o.dst v) w':=fun σ' γ' w' av v ho hv=>by
  have hT:(σ'.put o.dst av).T =σ'.T:=by cases o.dst <;> rfl
  have hB:(σ'.put o.dst av).B =σ'.B:=by cases o.dst <;> rfl
  have Y:(σ'.put o.dst av).t =σ'.t:=by cases o.dst <;> rfl
  have I:(σ'.put o.dst av).b =σ'.b:=by cases o.dst <;> rfl
  have hg:∀i,σ'.g i=σ.g i:=fun i=>by unfold St.g; rw [ho.s]
  refine⟨γ',by rw [hT,hB]; exact ho.os,fun i=>?_,fun t h=>?_,fun b h=>?_,by rw [Ho]; exact hs.df,by rw [Kb]; exact hs.n⟩
  ·rw [St.g_put,hg]; exact Ka ho.ext hs.n hs.sl hd hv i
  ·rw [Y]
   rcases ho.td t h with h|h
   ·exact ho.tm t (hs.td t h)
   omega
  ·rw [I]
   rcases ho.bd b h with h|h
   ·exact ho.bm b (hs.bd b h)
   omega
 unfold aop at h
 split at h
 ·rename_i t x yt p
  rw [p] at j
  obtain⟨⟨e,U⟩,J,h⟩:=h
  obtain⟨b,I,F⟩:=YP (ox:=x) (oy:=.const (.slice none 0 0)) hs.os U (j x (by simp [Op.operands])) J
  refine LO (v:=.bool b) (w':=w) ?_ (hk _ _ _ (h b I) (done σ γ w (.bool b) (.bool b) ⟨Gh.Ext.refl γ,hs.os,rfl,fun x h=>.inl h,fun x h=>.inl h,fun x h=>h,fun x h=>h⟩ (by rfl)))
  have e1:a.eval (.const (.slice none 0 0))= .slice none 0 0:=rfl
  simp_all [execOp]
 ·rename_i t x yt p
  rw [p] at j
  obtain⟨⟨e,U⟩,J,h⟩:=h
  obtain⟨b,I,F⟩:=YP (ox:=x) (oy:=.const (.slice none 0 0)) hs.os U (j x (by simp [Op.operands])) J
  refine LO (v:=.bool !b) (w':=w) ?_ (hk _ _ _ (h b I) (done σ γ w (.bool !b) (.bool !b) ⟨Gh.Ext.refl γ,hs.os,rfl,fun x h=>.inl h,fun x h=>.inl h,fun x h=>h,fun x h=>h⟩ (by rfl)))
  have e1:a.eval (.const (.slice none 0 0))= .slice none 0 0:=rfl
  simp_all [execOp]
 ·rename_i t x y p
  rw [p] at j
  obtain⟨w',γ',σ',F,C,ho⟩:=YI hs.os (j x (by simp [Op.operands])) (j y (by simp [Op.operands])) h
  have q:(execOp a.eval o).run cx.P w= .ok .skip w':=by simp_all [execOp]
  unfold Oper.wp
  rw [q]
  exact hk _ _ _ C (done σ' γ' w' .any undef ho trivial)
 ·rename_i t m i x p
  rw [p] at j
  obtain⟨w',γ',σ',F,C,ho⟩:=Vm hs.os (j m (by simp [Op.operands])) (j i (by simp [Op.operands])) (j x (by simp [Op.operands])) h
  have q:(execOp a.eval o).run cx.P w= .ok .skip w':=by simp_all [execOp]
  unfold Oper.wp
  rw [q]
  exact hk _ _ _ C (done σ' γ' w' .any undef ho trivial)
 ·rename_i t m i x p
  rw [p] at j
  obtain⟨w',γ',σ',F,C,ho⟩:=Vm hs.os (j m (by simp [Op.operands])) (j i (by simp [Op.operands])) (j x (by simp [Op.operands])) h
  have q:(execOp a.eval o).run cx.P w= .ok .skip w':=by simp_all [execOp]
  unfold Oper.wp
  rw [q]
  exact hk _ _ _ C (done σ' γ' w' .any undef ho trivial)
 ·rename_i G u p
  split at h
  ·rename_i x y t t' hx Y
   obtain⟨rfl,h⟩:=h
   have ha:G= #[x,y] :=by grind
   have O:u= #[t',t'] :=by grind
   subst ha O
   rw [p] at j
   obtain⟨W,w',γ',σ',av,F,hv,C,ho⟩:=dU (ty:=o.type) hs.os hs.td (j x (by simp [Op.operands,Call.operands])) (j y (by simp [Op.operands,Call.operands])) h
   refine LO (v:=W) (w':=w') ?_ (hk _ _ _ C (done σ' γ' w' av W ho hv))
   simp_all [execOp,resolve,invoke,builtin]
  grind
 ·exact Tl hs hok h hk
theorem YR {γ:Gh} {σ:St} {a:Act} {w:World} {o:Oper} {K:St→Prop} {next:Act→World→Prop} {Q:Exit→Act→World→Prop} (hs:Sim cx N γ σ a w) (hok:EX N o=true) (h:MP cx.P o σ K)
  (hk:∀σ' a' w',K σ'→SimE cx N σ' a' w'→next a' w'):o.wp cx.P a w next Q:=by
 have hd:=FB hok
 have q:=Bq (γ:=γ) (s:=σ.g) (e:=σ.e) (a:=a) hok (fun x _=>St.e_eq σ x) (fun t _=>hs.sl t)
 unfold MP at h
 split at h
 ·rename_i g j u G
  rw [G] at q
  have h1:=q g (by simp [Op.operands,Call.operands])
  split at h
  ·rename_i f W he
   rw [he] at h1
   simp only [VSim] at h1
   obtain⟨cv,h2,h3⟩:=h1
   obtain⟨ho,h⟩:=h
   obtain⟨I,ws,cs,Y,e1⟩:=bN ho h2 h3 (AH.of_map (e:=σ.e) (ρ:=a.eval) (l:=j.toList) fun x hx=>q x (by grind [Op.operands,Call.operands]))
   obtain⟨bs,h⟩:=h
   obtain⟨O,p⟩:=Ro hs.os hs.td hs.bd h I
   unfold GU at O
   cases hf:cx.P.funcs[f]? with
   |none=>grind
   | some fn=>
    simp only [hf,Option.any_some,Bool.and_eq_true,Bool.not_eq_true',beq_eq_false_iff_ne] at O
    have C:(callFunc f (fnU cv (j.toList.map a.eval)).toArray).run cx.P w= .ok (.enter f (fnU cv (j.toList.map a.eval)).toArray) w:=by
     obtain⟨c,h1⟩:=Option.isSome_iff_exists.1 O.1
     simp_all [callFunc]
    have hr:(execOp a.eval o).run cx.P w=(callFunc f (fnU cv (j.toList.map a.eval)).toArray).run cx.P w:=by
     have e2:(j.toList.map a.eval).toArray =j.map a.eval:=by grind
     rw [e1,e2]
     grind [execOp,resolve,Deferred.ofValue,invoke]
    unfold Oper.wp
    rw [hr,C]
    simp only [Oper.upon]
    refine p.mono ?_
    rintro e w' ⟨v,γ',σ',r,rfl,hK,hv,F,hos,J,htd,hbd⟩
    simp only
    have hT:(σ'.put o.dst r).T =σ'.T:=by cases o.dst <;> rfl
    have hB:(σ'.put o.dst r).B =σ'.B:=by cases o.dst <;> rfl
    have ht:(σ'.put o.dst r).t =σ'.t:=by cases o.dst <;> rfl
    have U:(σ'.put o.dst r).b =σ'.b:=by cases o.dst <;> rfl
    have hg:∀i,σ'.g i=σ.g i:=fun i=>by unfold St.g; rw [J]
    refine hk _ _ _ hK ⟨γ',by rw [hT,hB]; omega,fun i=>?_,fun t h=>by rw [ht]; grind,fun b h=>by rw [U]; grind,by rw [Ho]; exact hs.df,by rw [Kb]; exact hs.n⟩
    rw [St.g_put,hg]; exact Ka F hs.n hs.sl hd hv i
  grind
 grind
theorem OwnR.of_append {V w} {cs} {sz}:∀ {xs ys} {o} {fp},OwnR V w cs sz o (xs++ys) fp→∃j p,OwnR V w cs sz o xs j∧OwnR V w cs sz (o+xs.length*sz) ys p∧fp=j++p
 | [],ys,o,fp,h=>⟨[],fp,by rfl,by grind,rfl⟩
 |x::xs,ys,o,fp,h=>by
  simp only [List.cons_append,OwnR] at h
  obtain⟨j,p,h1,h2,h3,rfl⟩:=h
  obtain⟨q,u,k1,k2,rfl⟩:=OwnR.of_append h3
  refine⟨j++q,u,?_,?_,by rw [List.append_assoc]⟩
  ·simp only [OwnR]; exact⟨j,q,h1,h2,k1,rfl⟩
  ·rw [List.length_cons,Nat.add_mul,Nat.one_mul,show o+(xs.length*sz+sz)=o+sz+xs.length*sz from by omega]; exact k2
theorem OwnR.cut {V w} {cs} {sz o i n} {rows} {fp} (h:OwnR V w cs sz o rows fp) (hi:i≤rows.length):∃f a b,OwnR V w cs sz (o+i*sz) ((rows.drop i).take n) f∧fp=a++f++b:=by
 rw [← List.take_append_drop i rows] at h
 obtain⟨p,j,-,h2,rfl⟩:=OwnR.of_append h
 rw [List.length_take,Nat.min_eq_left hi,← List.take_append_drop n (rows.drop i)] at h2
 grind [OwnR.of_append]
theorem Z6 {γ:Gh} {σ:St} {a:Act} {w:World} {pos:Nat} {o:Oper} {K:St→Prop} {next:Act→World→Prop} {Q:Exit→Act→World→Prop} (hs:Sim cx N γ σ a w) (hok:EX N o=true) (h:SliK cx.P pos o σ K)
  (hk:∀σ' a' w',K σ'→SimE cx N σ' a' w'→next a' w'):o.wp cx.P a w next Q:=by
 have hd:=FB hok
 have hop:=Bq (γ:=γ) (s:=σ.g) (e:=σ.e) (a:=a) hok (fun x _=>St.e_eq σ x) (fun t _=>hs.sl t)
 unfold SliK at h
 split at h
 ·rename_i t x l h' J
  rw [J] at hop
  split at h
  ·rename_i n he
   obtain⟨tk,hT,el,hu,⟨hsz,hrl⟩,i,hi,j,hj,r,hr,Y,hK⟩:=h
   have hx:=hop x (by simp [Op.operands])
   rw [he] at hx
   simp only [VSim] at hx
   obtain⟨⟨q,-⟩,hx⟩:=hx
   have hbl:(l.map a.eval=none∧i=0)∨∃k,l.map a.eval=some (.int k i):=Gq (w0:=γ.vw) (γ:=γ) (a:=l.map σ.e) (v:=l.map a.eval) (fun y hy=>by
    cases l with
    |none=>cases hy
    |some l=>grind [Op.operands]) (fun hy=>by simp_all) hi
   have hbh:(h'.map a.eval=none∧j=tk.rows.length)∨∃k,h'.map a.eval=some (.int k j):=Gq (w0:=γ.vw) (γ:=γ) (a:=h'.map σ.e) (v:=h'.map a.eval) (fun y hy=>by
    cases h' with
    |none=>cases hy
    |some l=>grind [Op.operands]) (fun hy=>by simp_all) hj
   unfold cutL at hr
   by_cases h0:0≤i∧i≤j∧j≤tk.rows.length
   case neg=>rw [if_neg h0] at hr; cases hr
   rw [if_pos h0] at hr
   cases hr
   have O:=(hs.os.tok n tk q hT).own
   have hsz':=C7 (P:=cx.P) (w:=w) hsz
   have u:((tk.rows.drop i.toNat).take (j - i).toNat).length =j.toNat - i.toNat:=by rw [List.length_take,List.length_drop]; omega
   have key:∃C f,(execOp a.eval o).run cx.P w= .ok (.value C) w∧Own (tk.vw γ.vw) w (.sl ((tk.rows.drop i.toNat).take (j - i).toNat)) C f∧f.Nodup∧∀g ∈ f,g ∈ γ.tf n:=by
    have run:∀ (U:Option Addr) (c:Nat),γ.tv n= .slice U tk.rows.length c→tk.rows.length≤c→(execOp a.eval o).run cx.P w= .ok (.value (.slice (if c=i.toNat then U else U.map (·.add (i.toNat*tsz cx.P el))) (j.toNat - i.toNat) (c - i.toNat))) w:=fun U c hv hc=>by
     have hb:=LR (P:=cx.P) (w:=w) (b:=true) hbl hbh hc h0
     rw [← hx] at hv
     simp only [execOp,J,hv,Sem.run_bind]
     simp [Instr.sliceAt,Instr.slice,run_underlying (H9 hu),hb,hsz']
    have hnd:=hs.os.tnd n tk q hT
    simp only [Own] at O
    by_cases he0:j.toNat - i.toNat=0
    ·have hnil:(tk.rows.drop i.toNat).take (j - i).toNat =[] :=List.eq_nil_of_length_eq_zero (by rw [u]; omega)
     have:∃U c,γ.tv n= .slice U tk.rows.length c∧tk.rows.length≤c∧c≤maxLen:=by
      grind
     obtain⟨U,c,h1,h2,h3⟩:=this
     refine⟨_,[],run U c h1 h2,?_,List.nodup_nil,by simp⟩
     grind [Own]
    ·rcases O with ⟨h1,-,-⟩|⟨sz,g,o1,c,e,cs,fps,h1,h2,h3,hb,h4,hR,hfp⟩
     ·rw [h1] at h0; grind
     ·have h5:0<tk.rows.length:=by omega
      have hsz2:sz=tsz cx.P el:=by
       obtain⟨_,_,_,_,h6,-⟩:=hR.split 0 h5
       grind
      subst hsz2
      have hci:i.toNat≤c:=by omega
      obtain⟨f,fa,fb,k1,k2⟩:=OwnR.cut (i:=i.toNat) (n:=(j - i).toNat) hR (by omega)
      have hmul:i.toNat*tsz cx.P el+(c - i.toNat)*tsz cx.P el=c*tsz cx.P el:=by rw [← Nat.add_mul]; grind
      refine⟨_,g::f,run _ c h1 h2,?_,?_,fun g' hg'=>?_⟩
      ·simp only [Own]
       refine .inr ⟨tsz cx.P el,g,o1+i.toNat*tsz cx.P el,c - i.toNat,e,cs,f,?_,by rw [u]; omega,by omega,hb,by omega,k1,rfl⟩
       rw [if_neg (by omega),u]
       simp [Addr.add]
      ·rw [hfp,k2] at hnd
       grind
      grind
   obtain⟨C,f,hrun,W,hnd',hin⟩:=key
   have p:¬γ.tl (pos*16):=fun q=>by
    have h1:=hs.td _ q
    rw [Y] at h1; cases h1
   have hne:pos*16≠n:=fun e=>by rw [e] at p; grind
   have hs1:=hs.os.kill n
   have hTn:tset σ.T n none (pos*16)=none:=by
    grind [tset,St.T]
   have hfree:=hs.os.freed q hT
   have I:Ae γ.vw w ⟨(tk.rows.drop i.toNat).take (j - i).toNat,none,0,tk.z⟩ C f:=W
   have hfin:=hs1.putTok (tk:=⟨(tk.rows.drop i.toNat).take (j - i).toNat,none,0,tk.z⟩) hTn (fun h=>absurd h p) I hnd' (fun g hg=>hfree g (hin g hg)) (fun h=>absurd h p) (fun h=>absurd h p)
   have hext:Gh.Ext γ (γ.tok w (pos*16) C f 0):=Gh.tok_ext fun h=>absurd h p
   refine LO (v:=C) (w':=w) hrun (hk _ _ _ hK ⟨γ.tok w (pos*16) C f 0,?_,fun x=>?_,fun z hz=>?_,fun z hz=>?_,by rw [Ho]; exact hs.df,by rw [Kb]; exact hs.n⟩)
   ·refine hfin.tables (fun z tz' _ hz=>?_) fun b vs _ hb=>?_
    ·have F:(St.put ⟨σ.s,(pos*16,some ⟨(tk.rows.drop i.toNat).take (j - i).toNat,none,0,tk.z⟩)::(n,none)::σ.t,σ.b⟩ o.dst (.own (pos*16))).T z=(look ((pos*16,some ⟨(tk.rows.drop i.toNat).take (j - i).toNat,none,0,tk.z⟩)::(n,none)::σ.t) z).join :=by cases o.dst <;> rfl
     rw [F] at hz
     simp only [AJ] at hz
     split at hz
     ·grind
     ·rename_i e
      rw [if_neg e]
      unfold tset
      split at hz
      ·cases hz
      ·rename_i e2; rw [if_neg e2]; exact hz
    ·have F:(St.put ⟨σ.s,(pos*16,some ⟨(tk.rows.drop i.toNat).take (j - i).toNat,none,0,tk.z⟩)::(n,none)::σ.t,σ.b⟩ o.dst (.own (pos*16))).B b=σ.B b:=by cases o.dst <;> rfl
     rw [F] at hb; exact hb
   ·rw [St.g_put]
    have G:=I.rep hs1.vw.k
    simp only [Rep] at G
    obtain⟨a',c',hv',-⟩:=G
    refine Ka hext hs.n hs.sl hd (av:=.own (pos*16)) ?_ x
    simp only [VSim]
    have F:(γ.tok w (pos*16) C f 0).tv (pos*16)=C:=by show (if pos*16=pos*16 then _ else _)=_; rw [if_pos rfl]
    rw [F]
    exact⟨⟨.inr rfl,a',_,c',hv'⟩,rfl⟩
   ·have F:(St.put ⟨σ.s,(pos*16,some ⟨(tk.rows.drop i.toNat).take (j - i).toNat,none,0,tk.z⟩)::(n,none)::σ.t,σ.b⟩ o.dst (.own (pos*16))).t =(pos*16,some ⟨(tk.rows.drop i.toNat).take (j - i).toNat,none,0,tk.z⟩)::(n,none)::σ.t:=by cases o.dst <;> rfl
    rw [F]
    simp only [AJ]
    split
    ·rfl
    ·split
     ·rfl
     ·rename_i e2 _
      rcases hz with hz|hz
      ·exact hs.td z hz
      omega
   ·have F:(St.put ⟨σ.s,(pos*16,some ⟨(tk.rows.drop i.toNat).take (j - i).toNat,none,0,tk.z⟩)::(n,none)::σ.t,σ.b⟩ o.dst (.own (pos*16))).b =σ.b:=by cases o.dst <;> rfl
    rw [F]; exact hs.bd z hz
  grind
 grind
theorem Tm {γ} {σ} {a} {w} (hs:Sim cx N γ σ a w) {ops} {j s} {b} (hj:Ie ops j=some s) (hb:σ.g s= .bool b):yielded ops a.tmps j=some b:=by
 have h1:=hs.sl s
 rw [hb] at h1
 simp only [VSim] at h1
 unfold Ie at hj
 unfold yielded
 rw [hj]
 simp only [Option.bind_some]
 rw [Array.getD_eq_getD_getElem?] at h1
 grind [undef]
theorem Tn {γ} {σ} {a} {w} (hs:Sim cx N γ σ a w) {ops} {j s} (hj:Ie ops j=some s) (hb:σ.g s= .tup []):yielded ops a.tmps j=none:=by
 have h1:=hs.sl s
 rw [hb] at h1
 simp only [VSim,AH] at h1
 obtain⟨us,h1,rfl⟩:=h1
 unfold Ie at hj
 unfold yielded
 rw [hj]
 simp only [Option.bind_some]
 rw [Array.getD_eq_getD_getElem?] at h1
 grind
theorem To {w0} {γ}:VSim w0 γ (.tup []) undef:=by simp only [VSim,AH]; exact⟨[],rfl,rfl⟩
theorem Sim.putU {γ:Gh} {σ:St} {a:Act} {w:World} (hs:Sim cx N γ σ a w) {dst:Option Tmp} (hd:∀d,dst=some d→d<N):Sim cx N γ (σ.put dst (.tup [])) (a.put dst undef) w:=by
 refine⟨?_,fun i=>?_,?_,?_,by rw [Ho]; exact hs.df,by rw [Kb]; exact hs.n⟩
 ·have p:(σ.put dst (.tup [])).T =σ.T:=by cases dst <;> rfl
  have q:(σ.put dst (.tup [])).B =σ.B:=by cases dst <;> rfl
  rw [p,q]; exact hs.os
 ·rw [St.g_put]
  exact Ka (Gh.Ext.refl γ) hs.n hs.sl hd (av:=.tup []) To i
 ·have j:(σ.put dst (.tup [])).t =σ.t:=by cases dst <;> rfl
  rw [j]; exact hs.td
 ·have j:(σ.put dst (.tup [])).b =σ.b:=by cases dst <;> rfl
  rw [j]; exact hs.bd
end
end Go.Proofs.YthenkmapmnkelaaGreatDoor.Ab
