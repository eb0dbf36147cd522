/-
  The abstract walk as rules, third part: memory, calls, results, loops.
-/
import Derived.Test.YtgigfdghecdlgaaAbU
import Derived.IntWalk
namespace Go.Proofs.Ytgigfdghecdlgaa.Ab
set_option linter.unusedVariables false
open Go.RowKit
section
variable {P:Program} {σ:St} {K:St→Prop} {Q:AE→St→Prop}
def Vu (t:TI):Prop:=match t with| .str =>True|_=>False
@[go_sem] theorem Xz:Vu .str =True:=rfl
@[go_sem] theorem T4 {t} {s} {K}:HK P t (.str s) σ K=AJ (Vu (ti P t)) (K (.int .i64 s.size)):=by
 simp only [HK,He,AJ,Vu]
 generalize ti P t=q
 cases q <;> simp
@[go_sem] theorem Vv {t} {rows} {K}:HK P t (.ro rows) σ K=slX (ti P t) fun _=>K (.int .i64 rows.length):=by
 simp only [HK,He,slX]
 generalize ti P t=q
 cases q <;> simp
@[go_sem] theorem SP {t} {K}:HK P t .nils σ K=slX (ti P t) fun _=>K (.int .i64 0):=by
 simp only [HK,He,slX]
 generalize ti P t=q
 cases q <;> simp
@[go_sem] theorem T5 {t} {b n sz} {K}:HK P t (.bsl b n sz) σ K=slX (ti P t) fun _=>K (.int .i64 n):=by
 simp only [HK,He,slX]
 generalize ti P t=q
 cases q <;> simp
@[go_sem] theorem T6 {t} {t'} {K}:HK P t (.own t') σ K=slX (ti P t) fun _=>optX (σ.T t') fun tk=>K (.int .i64 tk.rows.length):=by
 simp only [HK,He,slX,optX]
 generalize ti P t=q
 cases q with
 |sl e=>exact propext ⟨fun ⟨v,⟨tk,h1,h2⟩,h3⟩=>⟨tk,h1,h2 ▸ h3⟩,fun ⟨tk,h1,h3⟩=>⟨_,⟨tk,h1,rfl⟩,h3⟩⟩
 |_=>simp
@[go_sem] theorem T7 {t} {t' g} {p} {K}:HK P t (.sub t' g p) σ K=slX (ti P t) fun _=>optX (subR σ.T t' g p) fun rows=>K (.int .i64 rows.length):=by
 simp only [HK,He,slX,optX]
 generalize ti P t=q
 cases q with
 |sl e=>exact propext ⟨fun ⟨v,⟨tk,h1,h2⟩,h3⟩=>⟨tk,h1,h2 ▸ h3⟩,fun ⟨tk,h1,h3⟩=>⟨_,⟨tk,h1,rfl⟩,h3⟩⟩
 |_=>simp
def PF (t:TI) (K:TypeId→TypeId→Prop):Prop:=match t with| .map k e=>K k e|_=>False
@[go_sem] theorem X0 {k e} {K}:PF (.map k e) K=K k e:=rfl
def Ny (o:Option (List AV)) (K:KT→List (List D)→Prop):Prop:=∃q rows,o=some [.mpc q rows] ∧K q rows
@[go_sem] theorem Ws {q} {rows} {K}:Ny (some [.mpc q rows]) K=K q rows:=by
 simp only [Ny,Option.some.injEq,List.cons.injEq,AV.mpc.injEq,and_true]
 exact propext ⟨fun ⟨q',r',⟨h1,h2⟩,h3⟩=>h1 ▸ h2 ▸ h3,fun h=>⟨q,rows,⟨rfl,rfl⟩,h⟩⟩
@[go_sem] theorem T8 {t} {b} {K}:HK P t (.mpr b) σ K=PF (ti P t) fun _ _=>Ny (σ.B b) fun _ rows=>K (.int .i64 rows.length):=by
 simp only [HK,He,PF,Ny]
 generalize ti P t=q
 cases q with
 |map k e=>exact propext ⟨fun ⟨v,⟨q,rows,h1,h2⟩,h3⟩=>⟨q,rows,h1,h2 ▸ h3⟩,fun ⟨q,rows,h1,h3⟩=>⟨_,⟨q,rows,h1,rfl⟩,h3⟩⟩
 |_=>simp
def HL {α:Type} (v:α) (K:α→Prop):Prop:=∃y,v=y∧K y
theorem EA {α:Type} {v:α} {K:α→Prop}:HL v K=K v:=by simp [HL]
def bxX (pos:Nat) (cs:Option (List AV)) (dst:Option Tmp) (v:AV) (σ:St) (K:St→Prop):Prop:=optX cs fun vs=>AJ (look σ.b pos=none) (K ((σ.put dst v).setB pos vs))
def bxZ (pos:Nat) (cs:Option (List AV)) (dst:Option Tmp) (v:AV) (σ:St) (K:St→Prop):Prop:=bxX pos cs dst v σ K
theorem Vw {pos} {cs} {dst} {v}:bxX pos cs dst v σ K=AS cs fun o=>bxZ pos o dst v σ K:=rfl
@[go_sem ↓] theorem X1 {pos} {vs} {dst} {v}:bxZ pos (some vs) dst v σ K=AJ (look σ.b pos=none) (K ((σ.put dst v).setB pos vs)):=by simp [bxZ,bxX,optX]
theorem FN {dst} {v} {pos} {vs}:σ.add dst ⟨v,[],[(pos,vs)]⟩=(σ.put dst v).setB pos vs:=by cases dst <;> rfl
attribute [go_sem] cellsOf
theorem X2 {pos} {dst} {t} {x}:opX P pos dst (.box t x) σ K=bxX pos (cellsOf (σ.e x)) dst (.box pos 0) σ K:=by
 rw [Iv (fun _=>by simp only [aop])]
 simp only [Ev,bxX]
 split
 ·rename_i vs h
  rw [h,D4]
  refine propext ⟨?_,?_⟩
  ·rintro ⟨r,rfl,-,h1,h2⟩
   exact⟨h1.1,by rw [← FN]; exact h2⟩
  ·rintro ⟨h1,h2⟩
   exact⟨_,rfl,trivial,⟨h1,trivial⟩,by rw [FN]; exact h2⟩
 ·rename_i h
  rw [h,L5]
  simp
theorem T9 {pos} {dst} {t}:opX P pos dst (.alloc t) σ K=AJ (0<(tz P t).length) (bxX pos (some ((tz P t).map zAV)) dst (.box pos 0) σ K):=by
 rw [Iv (fun _=>by simp only [aop])]
 simp only [Ev,bxX,D4,AJ]
 refine propext ⟨?_,?_⟩
 ·rintro ⟨r,⟨vs,rfl,h0,rfl⟩,-,h1,h2⟩
  exact⟨h0,h1.1,by rw [← FN]; exact h2⟩
 ·rintro ⟨h0,h1,h2⟩
  exact⟨_,⟨_,rfl,h0,rfl⟩,trivial,⟨h1,trivial⟩,by rw [FN]; exact h2⟩
attribute [go_sem] zAV
def pvs (σ:St):List (Nat × Operand)→List (Nat × AV)
 | [] =>[]
 |x::xs=>(x.1,σ.e x.2)::pvs σ xs
theorem Pz {xs}:pvs σ xs=xs.map fun x=>(x.1,σ.e x.2):=by induction xs with|nil=>rfl|cons x xs ih=>simp [pvs,ih]
attribute [go_sem] pvs Bq
def bsX (P:Program) (pos:Nat) (e:TypeId) (n:Nat) (parts:List (Nat × AV)) (dst:Option Tmp) (σ:St) (K:St→Prop):Prop:=
 AJ (parts.length=n∧n*tsz P e≤16777216∧0<tsz P e∧(tz P e).length =tsz P e) (bxX pos (Bq (tsz P e) 0 parts) dst (.bsl pos n (tsz P e)) σ K)
@[go_sem ↓] theorem UA {pos} {dst} {t} {n} {parts}:opX P pos dst (.buildSlice t n parts.toArray) σ K=slX (ti P t) fun e=>AS (pvs σ parts) fun ps=>bsX P pos e n ps dst σ K:=by
 rw [Iv (fun _=>by simp only [aop])]
 simp only [Ev,slX,AS,Pz]
 generalize ti P t=q
 split
 ·simp only [RT,bsX,bxX,AJ]
  refine propext ⟨?_,?_⟩
  ·rintro ⟨r,⟨h1,h2,h3,h4,h5⟩,-,h6,h7⟩
   split at h5
   ·rename_i vs h8
    subst h5
    rw [h8,D4]
    exact⟨⟨h1,h2,h3,h4⟩,h6.1,by rw [← FN]; exact h7⟩
   ·exact h5.elim
  ·rintro ⟨⟨h1,h2,h3,h4⟩,vs,h8,h6,h7⟩
   exact⟨⟨_,[],[(pos,vs)]⟩,⟨h1,h2,h3,h4,by rw [h8]⟩,trivial,⟨h6,trivial⟩,by rw [FN]; exact h7⟩
 ·simp
attribute [go_sem] bsX
attribute [go_sem] GO
def Nz (P:Program) (t:TI) (K:List (Nat × TypeId)→Prop):Prop:=match t with| .st fs=>K fs| .arr n el=>AJ (0<tsz P el) (K (GO (tsz P el) el n 0))|_=>False
@[go_sem] theorem UB {fs} {K}:Nz P (.st fs) K=K fs:=rfl
def bpX (P:Program) (fs:List (Nat × TypeId)) (vs:List AV) (ps:List (Nat × AV)) (K:AV→Prop):Prop:=∃ws,Fr P fs vs ps=some ws∧K (.agg ws)
@[go_sem] theorem UC {fs} {vs} {K}:bpX P fs vs [] K=K (.agg vs):=by simp [bpX,Fr]
@[go_sem] theorem SQ {fs} {vs} {f} {v} {ps} {K}:bpX P fs vs ((f,v)::ps) K=optX fs[f]? fun q=>optX (cellsOf v) fun cs=>AJ (cs.length=tsz P q.2 ∧q.1 +cs.length≤vs.length) (AS (splice vs q.1 cs) fun vs=>bpX P fs vs ps K):=by
 unfold bpX optX AJ AS
 rw [Fr]
 cases fs[f]? with
 |none=>simp
 | some q=>
  cases cellsOf v with
  |none=>simp
  | some cs=>
   by_cases hc:cs.length=tsz P q.2 ∧q.1 +cs.length≤vs.length
   ·simp only [if_pos hc,Option.some.injEq,exists_eq_left']
    exact propext ⟨fun h=>⟨hc,h⟩,fun h=>h.2⟩
   ·simp only [if_neg hc,Option.some.injEq,exists_eq_left']
    refine propext ⟨?_,?_⟩
    ·rintro ⟨_,h,_⟩; cases h
    ·intro h; exact absurd h.1 hc
theorem UD {pos} {dst} {t} {parts}:opX P pos dst (.build t parts.toArray) σ K=Nz P (ti P t) fun fs=>AJ ((fs.all fun q=>decide (0<tsz P q.2))=true∧0<(tz P t).length) (bpX P fs ((tz P t).map zAV) (pvs σ parts) fun v=>K (σ.put dst v)):=by
 rw [DU (p:=fun v=>Nz P (ti P t) fun fs=>AJ ((fs.all fun q=>decide (0<tsz P q.2))=true∧0<(tz P t).length) (bpX P fs ((tz P t).map zAV) (pvs σ parts) fun u=>v=u)) (fun _=>by simp only [aop]) (fun r=>by
  simp only [Ev,Nz,AJ,bpX,Pz]
  generalize ti P t=q
  cases q with
  |st fs=>
   refine propext ⟨?_,?_⟩
   ·rintro ⟨h1,h2,vs,h3,rfl⟩; exact⟨_,⟨⟨h1,h2⟩,vs,h3,rfl⟩,rfl⟩
   ·rintro ⟨v,⟨⟨h1,h2⟩,vs,h3,rfl⟩,rfl⟩; exact⟨h1,h2,vs,h3,rfl⟩
  |arr n el=>
   refine propext ⟨?_,?_⟩
   ·rintro ⟨h0,h1,h2,vs,h3,rfl⟩; exact⟨_,⟨h0,⟨h1,h2⟩,vs,h3,rfl⟩,rfl⟩
   ·rintro ⟨v,⟨h0,⟨h1,h2⟩,vs,h3,rfl⟩,rfl⟩; exact⟨h0,h1,h2,vs,h3,rfl⟩
  |_=>simp)]
 unfold Nz AJ bpX
 generalize ti P t=q
 cases q with
 |st fs=>
  refine propext ⟨?_,?_⟩
  ·rintro ⟨v,⟨h1,vs,h3,rfl⟩,hk⟩; exact⟨h1,vs,h3,hk⟩
  ·rintro ⟨h1,vs,h3,hk⟩; exact⟨_,⟨h1,vs,h3,rfl⟩,hk⟩
 |arr n el=>
  refine propext ⟨?_,?_⟩
  ·rintro ⟨v,⟨h0,h1,vs,h3,rfl⟩,hk⟩; exact⟨h0,h1,vs,h3,hk⟩
  ·rintro ⟨h0,h1,vs,h3,hk⟩; exact⟨_,⟨h0,h1,vs,h3,rfl⟩,hk⟩
 |_=>simp
attribute [go_sem] zD zDs
@[go_sem] theorem X3 {n}:leX n n=True:=eq_true (Int.le_refl n)
def mkX (P:Program) (pos:Nat) (e:TypeId) (n m:AV) (dst:Option Tmp) (σ:St) (K:St→Prop):Prop:=match n,m with
 | .int .i64 n,.int .i64 m=>AJ (leX n m) (AJ (0≤n∧m.toNat*P.bytesOf e≤281474976710656∧m≤4611686018427387904) (AJ (0<tsz P e∧(tz P e).length =tsz P e) (optX (zDs (tz P e)) fun z=>AJ (look σ.t (pos*16)=none) (HL (List.replicate n.toNat z) fun rows=>K ((σ.put dst (.own (pos*16))).setT (pos*16) ⟨rows,some (tsz P e),0,false⟩)))))
 |_,_=>False
@[go_sem] theorem UE {pos} {e} {n m} {dst}:mkX P pos e (.int .i64 n) (.int .i64 m) dst σ K=AJ (leX n m) (AJ (0≤n∧m.toNat*P.bytesOf e≤281474976710656∧m≤4611686018427387904) (AJ (0<tsz P e∧(tz P e).length =tsz P e) (optX (zDs (tz P e)) fun z=>AJ (look σ.t (pos*16)=none) (HL (List.replicate n.toNat z) fun rows=>K ((σ.put dst (.own (pos*16))).setT (pos*16) ⟨rows,some (tsz P e),0,false⟩))))):=rfl
theorem P0 {dst} {v} {n} {tk}:σ.add dst ⟨v,[(n,tk)],[]⟩=(σ.put dst v).setT n tk:=by cases dst <;> rfl
theorem N0 {pos:Nat} {dst:Option Tmp} {t:TypeId} {l c:Operand}:opX P pos dst (.makeSlice t l c) σ K=slX (ti P t) fun e=>mkX P pos e (σ.e l) (σ.e c) dst σ K:=by
 rw [Iv (fun _=>by simp only [aop])]
 simp only [Ev,slX,mkX]
 generalize ti P t=q
 cases q with
 | sl e=>
  generalize σ.e l=u
  generalize σ.e c=v
  split
  ·rename_i el n m h1
   cases h1
   simp only [Up,AJ,optX,EA]
   refine propext ⟨?_,?_⟩
   ·rintro ⟨r,⟨k1,k2,k3,k4,k5,k6,z,k7,rfl⟩,k8,-,k9⟩
    exact⟨k1,⟨k2,k3,k4⟩,⟨k5,k6⟩,z,k7,k8.1,by rw [← P0]; exact k9⟩
   ·rintro ⟨k1,⟨k2,k3,k4⟩,⟨k5,k6⟩,z,k7,k8,k9⟩
    exact⟨⟨_,[(pos*16,⟨_,some (tsz P e),0,false⟩)],[]⟩,⟨k1,k2,k3,k4,k5,k6,z,k7,rfl⟩,⟨k8,trivial⟩,trivial,by rw [P0]; exact k9⟩
  ·rename_i hno
   have:∀p:Prop,(∃r:Res,False∧p)=False:=fun p=>by simp
   simp only [false_and,exists_false]
   refine propext ⟨False.elim,fun h=>?_⟩
   split at h
   ·exact hno e _ _ rfl rfl rfl
   ·exact h
 |_=>simp
def L7 (P:Program) (L:Bool) (pos:Nat) (f:FuncId) (args:List AV) (as:Option (List AV)) (dst:Option Tmp) (σ:St) (K:St→Prop) (_:Wrap L):Prop:=
 ((∃bs rv,as=some bs∧AC P f bs rv∧BZ σ (conv (pos*16) rv).2 ∧K (σ.add dst ⟨(conv (pos*16) rv).1,(conv (pos*16) rv).2,[]⟩))∨
  ∃bs rv qt qb,AG P f bs [] [] rv qt qb∧cls (fun _=>none) (fun _=>none) args=some bs∧((qt=[] ∧La rv=true∧K (σ.add dst ⟨rv,[],[]⟩))∨(∃q tk,qt=[(q,tk)] ∧rv= .own q∧tk.gen=0∧look σ.t (pos*16)=none∧K (σ.add dst ⟨.own (pos*16),[(pos*16,tk)],[]⟩))∨(∃q k,rv= .box q k)∧K (σ.add dst ⟨.rop [] 0,[],[]⟩)))∨
 (L=true∧Pf P f args σ fun v σ'=>K (σ'.put dst v))
def clX (P:Program) (L:Bool) (pos:Nat) (g:AV) (args:List AV) (dst:Option Tmp) (σ:St) (K:St→Prop) (w:Wrap L):Prop:=match g with
 | .fn f caps=>L7 P L pos f (args++caps) (cls σ.T σ.B (args++caps)) dst σ K w
 |_=>False
@[go_sem] theorem Vx {L} {wL} {pos} {f} {caps args} {dst}:clX P L pos (.fn f caps) args dst σ K wL=AS (args++caps) fun vs=>AS (cls σ.T σ.B vs) fun r=>L7 P L pos f vs r dst σ K wL:=rfl
theorem Vy {L} {wL} {pos} {dst} {g} {args} {ts}:opL P L pos dst (.call ⟨.value g,args.toArray,ts⟩) σ K wL=clX P L pos (σ.e g) (evs σ args) dst σ K wL:=by
 have h1:opX P pos dst (.call ⟨.value g,args.toArray,ts⟩) σ K=match σ.e g with
   | .fn f caps=>(∃bs rv,cls σ.T σ.B (evs σ args++caps)=some bs∧AC P f bs rv∧BZ σ (conv (pos*16) rv).2 ∧K (σ.add dst ⟨(conv (pos*16) rv).1,(conv (pos*16) rv).2,[]⟩))∨
     ∃bs rv qt qb,AG P f bs [] [] rv qt qb∧cls (fun _=>none) (fun _=>none) (evs σ args++caps)=some bs∧((qt=[] ∧La rv=true∧K (σ.add dst ⟨rv,[],[]⟩))∨(∃q tk,qt=[(q,tk)] ∧rv= .own q∧tk.gen=0∧look σ.t (pos*16)=none∧K (σ.add dst ⟨.own (pos*16),[(pos*16,tk)],[]⟩))∨(∃q k,rv= .box q k)∧K (σ.add dst ⟨.rop [] 0,[],[]⟩))
   |_=>False:=by
  rw [Iv (fun _=>by simp only [aop])]
  simp only [Ev,Jr,MX]
  generalize σ.e g=v
  split
  ·refine propext ⟨?_,?_⟩
   ·rintro ⟨r,h1,h2,-,h4⟩
    rcases h1 with h1|h1
    ·split at h1
     ·rename_i as has
      obtain⟨rv,h5,rfl⟩:=h1
      exact .inl ⟨as,rv,has,h5,h2,h4⟩
     ·exact h1.elim
    ·obtain⟨as,rv,qt,qb,h5,h6,h7⟩:=h1
     rcases h7 with ⟨h7,h8,rfl⟩|⟨q,tk,h7,h8,h9,rfl⟩|⟨h7,rfl⟩
     ·exact .inr ⟨as,rv,qt,qb,h5,h6,.inl ⟨h7,h8,h4⟩⟩
     ·exact .inr ⟨as,rv,qt,qb,h5,h6,.inr (.inl ⟨q,tk,h7,h8,h9,h2.1,h4⟩)⟩
     ·exact .inr ⟨as,rv,qt,qb,h5,h6,.inr (.inr ⟨h7,h4⟩)⟩
   ·rintro (⟨bs,rv,h1,h5,h2,h4⟩|⟨bs,rv,qt,qb,h5,h6,⟨h7,h8,h4⟩|⟨q,tk,h7,h8,h9,h2,h4⟩|⟨h7,h4⟩⟩)
    ·exact⟨⟨(conv (pos*16) rv).1,(conv (pos*16) rv).2,[]⟩,.inl (by rw [h1]; exact⟨rv,h5,rfl⟩),h2,trivial,h4⟩
    ·exact⟨⟨rv,[],[]⟩,.inr ⟨bs,rv,qt,qb,h5,h6,.inl ⟨h7,h8,rfl⟩⟩,trivial,trivial,h4⟩
    ·exact⟨⟨.own (pos*16),[(pos*16,tk)],[]⟩,.inr ⟨bs,rv,qt,qb,h5,h6,.inr (.inl ⟨q,tk,h7,h8,h9,rfl⟩)⟩,⟨h2,trivial⟩,trivial,h4⟩
    ·exact⟨⟨.rop [] 0,[],[]⟩,.inr ⟨bs,rv,qt,qb,h5,h6,.inr (.inr ⟨h7,rfl⟩)⟩,trivial,trivial,h4⟩
  ·simp
 have h2:opL P L pos dst (.call ⟨.value g,args.toArray,ts⟩) σ K wL=(opX P pos dst (.call ⟨.value g,args.toArray,ts⟩) σ K∨(L=true∧GQ P ⟨dst,.call ⟨.value g,args.toArray,ts⟩,0, "",#[],none⟩ σ K)):=by
  have hA:Jw ⟨dst,.call ⟨.value g,args.toArray,ts⟩,0, "",#[],none⟩=false:=rfl
  have hS:SliK P pos ⟨dst,.call ⟨.value g,args.toArray,ts⟩,0, "",#[],none⟩ σ K=False:=rfl
  unfold opL JR opX
  rw [hA,hS]; simp
 rw [h2,h1]
 unfold clX L7 GQ
 simp only [MX]
 generalize σ.e g=v
 cases v <;> simp
attribute [go_sem] cl cls toD toDs toA toAs Dw DL Option.map_some Option.map_none
theorem UF {pos} {f} {args bs} {dst} {rv} (h:AC P f bs rv) (hf:BZ σ (conv (pos*16) rv).2) (hk:K (σ.add dst ⟨(conv (pos*16) rv).1,(conv (pos*16) rv).2,[]⟩)) {L} {wL}:L7 P L pos f args (some bs) dst σ K wL:=
 .inl (.inl ⟨bs,rv,rfl,h,hf,hk⟩)
@[go_sem] theorem Vz:BZ σ [] =True:=rfl
@[go_sem] theorem Uz {n} {tk} {l}:BZ σ ((n,tk)::l)=(look σ.t n=none∧BZ σ l):=rfl
attribute [go_sem] conv CL addT addB
@[go_sem] theorem X4 {s t b} {d} {r}:St.add ⟨s,t,b⟩ (some d) r=⟨(d,r.v)::s,addT t r.t,addB b r.b⟩:=rfl
@[go_sem] theorem X5 {s t b} {r}:St.add ⟨s,t,b⟩ none r=⟨s,addT t r.t,addB b r.b⟩:=rfl
section
variable {z:Bool}
@[go_sem] theorem UG {K}:Ae z [] σ K=K [] σ:=by rw [Ae]
@[go_sem] theorem UH {k} {n} {vs} {K}:Ae z (.int k n::vs) σ K=Ae z vs σ fun ds σ'=>K (.int k n::ds) σ':=by rw [Ae]
@[go_sem] theorem SR {b} {vs} {K}:Ae z (.bool b::vs) σ K=Ae z vs σ fun ds σ'=>K (.bool b::ds) σ':=by rw [Ae]
@[go_sem] theorem UI {s} {vs} {K}:Ae z (.str s::vs) σ K=Ae z vs σ fun ds σ'=>K (.str s::ds) σ':=by rw [Ae]
@[go_sem] theorem SS {vs} {K}:Ae z (.nils ::vs) σ K=Ae z vs σ fun ds σ'=>K (MF z::ds) σ':=by rw [Ae]
@[go_sem] theorem aR:MF false= .sl [] :=rfl
@[go_sem] theorem aS:MF true= .fz [] :=rfl
@[go_sem] theorem ST {vs} {K}:Ae z (.nilp ::vs) σ K=Ae z vs σ fun ds σ'=>K (.nilp ::ds) σ':=by rw [Ae]
@[go_sem] theorem V0 {rows} {vs} {K}:Ae z (.ro rows::vs) σ K=AJ (z=true) (Ae z vs σ fun ds σ'=>K (.fz rows::ds) σ'):=by rw [Ae]; rfl
@[go_sem] theorem UJ {ws} {off} {vs} {K}:Ae z (.rop ws off::vs) σ K=AJ (z=true) (optX (unD (.rop ws off)) fun d=>Ae z vs σ fun ds σ'=>K (d::ds) σ'):=by rw [Ae]; rfl
@[go_sem] theorem UK {b n sz} {vs} {K}:Ae z (.bsl b n sz::vs) σ K=if n=0 then Ae z vs σ fun ds σ'=>K (MF z::ds) σ' else QH z b n sz σ fun rows σ1=>Ae z vs σ1 fun ds σ'=>K (.sl rows::ds) σ':=by rw [Ae]
@[go_sem ↓] theorem ZJ {b n sz} {K}:QH z b n sz σ K=AJ (1000≤b) (AJ (0<sz) (optX (σ.B b) fun vs=>optX (GE z vs) fun ds=>AJ (ds.length=n*sz) (AS (BB sz n ds) fun rows=>K rows (σ.killB b)))):=rfl
@[go_sem] theorem X6 {s t b} {x}:St.killB ⟨s,t,b⟩ x=⟨s,t,(x,none)::b⟩:=rfl
attribute [go_sem] Fs litD GE unD unDs
@[go_sem] theorem UL {t} {vs} {K}:Ae z (.own t::vs) σ K=optX (σ.T t) fun tk=>AJ (okZ z tk=true) (Ae z vs (σ.killT t) fun ds σ'=>K (.sl tk.rows::ds) σ'):=by rw [Ae]; rfl
end
def stX (P:Program) (t:TypeId) (a:AV) (cs:Option (List AV)) (σ:St) (K:St→Prop):Prop:=
 optX cs fun cs=>AJ (cs.length=tsz P t∧0<tsz P t∧cs.all AV.one=true) (match a with
  | .box b off=>∃vs,σ.B b=some vs∧isMp vs=false∧off+cs.length≤vs.length∧K (σ.setB b (splice vs off cs))
  | .elt t' sz i off=>∃tk0,σ.T t'=some tk0∧Ae tk0.z cs σ fun ds σ'=>∃tk row,(σ'.T t'=some tk∧tk.z=tk0.z)∧tk.rows[i]? =some row∧row.length=sz∧off+ds.length≤sz∧K (σ'.setT t' ⟨tk.rows.set i (splice row off ds),tk.sz,if B0 row off ds=true then tk.gen else tk.gen+1,tk.z⟩)
  | .els t' g p sz i off=>Ae false cs σ fun ds σ'=>∃rows,subR σ'.T t' g p=some rows∧∃row,rows[i]? =some row∧(p≠ [] ∧row.length=sz∧off+ds.length≤sz∧B0 row off ds=true)∧∃tk,σ'.T t'=some tk∧K (σ'.setT t' ⟨putR p tk.rows (.sl (rows.set i (splice row off ds))),tk.sz,tk.gen,tk.z⟩)
  |_=>False)
theorem UM {pos} {dst} {t} {a x}:opX P pos dst (.store t a x) σ K=stX P t (σ.e a) (cellsOf (σ.e x)) σ fun σ'=>K (σ'.put dst .any):=by
 unfold opX
 simp only [aop,Hg,stX]
 split
 ·rename_i cs h
  rw [h,D4]
  unfold AJ
  refine propext ⟨?_,?_⟩
  ·rintro ⟨h1,h2,h3,h4⟩; exact⟨⟨h1,h2,h3⟩,h4⟩
  ·rintro ⟨⟨h1,h2,h3⟩,h4⟩; exact⟨h1,h2,h3,h4⟩
 ·rename_i h
  rw [h,L5]
@[go_sem] theorem UN {t} {b off} {cs}:stX P t (.box b off) (some cs) σ K=AJ (cs.length=tsz P t∧0<tsz P t∧cs.all AV.one=true) (optX (σ.B b) fun vs=>AJ (isMp vs=false) (AJ (off+cs.length≤vs.length) (AS (splice vs off cs) fun vs'=>K (σ.setB b vs')))):=by
 rw [stX,D4]; rfl
@[go_sem] theorem UO {t:TypeId} {t' g sz i off:Nat} {p:Pth} {cs:List AV}:stX P t (.els t' g p sz i off) (some cs) σ K=AJ (cs.length=tsz P t∧0<tsz P t∧cs.all AV.one=true) (Ae false cs σ fun ds σ'=>optX (subR σ'.T t' g p) fun rows=>optX rows[i]? fun row=>AJ (p≠ [] ∧row.length=sz∧off+ds.length≤sz∧B0 row off ds=true) (optX (σ'.T t') fun tk=>HL (putR p tk.rows (.sl (rows.set i (splice row off ds)))) fun rows'=>K (σ'.setT t' ⟨rows',tk.sz,tk.gen,tk.z⟩))):=by
 rw [stX,D4]
 simp only [AJ,optX,EA]
@[go_sem] theorem UP {t:TypeId} {t' sz i off:Nat} {cs:List AV}:stX P t (.elt t' sz i off) (some cs) σ K=AJ (cs.length=tsz P t∧0<tsz P t∧cs.all AV.one=true) (optX (σ.T t') fun tk0=>Ae tk0.z cs σ fun ds σ'=>optX (σ'.T t') fun tk=>AJ (tk.z=tk0.z) (optX tk.rows[i]? fun row=>AJ (row.length=sz∧off+ds.length≤sz) (HL (tk.rows.set i (splice row off ds)) fun rows=>K (σ'.setT t' ⟨rows,tk.sz,if B0 row off ds=true then tk.gen else tk.gen+1,tk.z⟩)))):=by
 rw [stX,D4]
 simp only [AJ,optX,EA]
 congr 1
 congr 1
 funext tk0
 congr 1
 congr 1
 funext ds σ'
 refine propext ⟨?_,?_⟩
 ·rintro ⟨tk,row,⟨h1,h0⟩,h2,h3,h4,h5⟩; exact⟨tk,h1,h0,row,h2,⟨h3,h4⟩,h5⟩
 ·rintro ⟨tk,h1,h0,row,h2,⟨h3,h4⟩,h5⟩; exact⟨tk,row,⟨h1,h0⟩,h2,h3,h4,h5⟩
section
variable {z:Bool}
@[go_sem] theorem RB {e} {sz} {K}:Js z e sz .nils σ K=K [] σ:=rfl
@[go_sem] theorem SU {e} {sz b n sz'} {K}:Js z e sz (.bsl b n sz') σ K=if n=0 then K [] σ else AJ (sz'=sz) (QH z b n sz σ K):=rfl
@[go_sem] theorem SV {e} {sz t} {K}:Js z e sz (.own t) σ K=optX (σ.T t) fun tk=>AJ (tk.sz=some sz∧okZ z tk=true) (K tk.rows (σ.killT t)):=rfl
@[go_sem] theorem RC {sz} {K}:HI z sz .nils σ K=K [] σ:=rfl
@[go_sem] theorem SW {sz b n sz'} {K}:HI z sz (.bsl b n sz') σ K=optX (σ.B b) fun vs=>AJ (sz'=sz∧vs.length=n*sz∧vs.all AV.one=true) (Ae z vs σ fun ds σ'=>AS (BB sz n ds) fun rows=>K rows σ'):=by
 simp only [HI,optX,AJ,AS]
 refine propext ⟨?_,?_⟩
 ·rintro ⟨vs,h1,h2,h3,h4,h5⟩; exact⟨vs,h1,⟨h2,h3,h4⟩,h5⟩
 ·rintro ⟨vs,h1,⟨h2,h3,h4⟩,h5⟩; exact⟨vs,h1,h2,h3,h4,h5⟩
@[go_sem] theorem UQ {sz} {rows} {K}:HI false sz (.ro rows) σ K=AJ (∀row ∈ rows,row.length=sz∧∀d ∈ row,d.flat=true) (K rows σ):=rfl
@[go_sem] theorem SX {sz:Nat} {rows:List (List D)} {K:List (List D)→St→Prop}:HI true sz (.ro rows) σ K=AJ (∀row ∈ rows,row.length=sz∧∀d ∈ row,d≠ .gone) (HL (fzR rows) fun r=>K r σ):=by
 simp only [HI,AJ,EA]
@[go_sem] theorem SY {sz t} {K}:HI z sz (.own t) σ K=optX (σ.T t) fun tk=>AJ (okZ z tk=true) (AJ (∀row ∈ tk.rows,row.length=sz) (K tk.rows (σ.killT t))):=by
 simp only [HI,optX,AJ]
 refine propext ⟨?_,?_⟩
 ·rintro ⟨tk,h1,⟨h2,h3⟩,h4⟩; exact⟨tk,h1,h3,h2,h4⟩
 ·rintro ⟨tk,h1,h3,h2,h4⟩; exact⟨tk,h1,⟨h2,h3⟩,h4⟩
end
attribute [go_sem] BB
def zX (K:Bool→Prop):Prop:=∃z,K z
def zY (K:Bool→Prop) (_:Wrap K):Prop:=∃z,K z
@[go_sem ↓] theorem bH {K}:zX K=zY K ⟨⟩:=rfl
theorem BE {K} {w} (z:Bool) (h:K z):zY K w:=⟨z,h⟩
def apX (P:Program) (pos:Nat) (e:TypeId) (x y:AV) (dst:Option Tmp) (σ:St) (K:St→Prop):Prop:=
 AJ (0<tsz P e∧(tz P e).length =tsz P e) (zX fun z=>Js z e (tsz P e) x σ fun rows σ1=>HI z (tsz P e) y σ1 fun rows2 σ2=>
   AJ ((rows.length+rows2.length)*P.bytesOf e≤140737488355328∧rows.length+rows2.length≤maxLen) (AJ (look σ2.t (pos*16)=none) (K ((σ2.setT (pos*16) ⟨rows++rows2,some (tsz P e),0,z⟩).put dst (.own (pos*16))))))
theorem SZ {pos} {dst} {x y} {t}:opX P pos dst (.call ⟨.builtin .append,List.toArray [x,y],List.toArray [t,t]⟩) σ K=slX (ti P t) fun e=>apX P pos e (σ.e x) (σ.e y) dst σ K:=by
 unfold opX
 simp only [aop,OZ,slX,true_and]
 generalize ti P t=q
 split
 ·rename_i e
  show (0<tsz P e∧(tz P e).length =tsz P e∧_)=((0<tsz P e∧(tz P e).length =tsz P e)∧_)
  rw [and_assoc]
  congr 1
  congr 1
  show (∃z,_)=(∃z,_)
  congr 1
  funext z
  congr 1
  funext rows σ1
  congr 1
  funext rows2 σ2
  show (_∧_∧_∧_)=((_∧_)∧_∧_)
  rw [and_assoc]
 ·rename_i h
  cases q with
  |sl e=>exact(h e rfl).elim
  |_=>rfl
end
@[go_sem] theorem Wt {v x}:C7 v [] x=x:=by cases v <;> rfl
attribute [go_sem ↓] Vw
attribute [go_sem ↓] T4 Vv SP T5 T6 T7 T8 UB UC SQ UE Vx UG UH SR UI SS ST V0 UJ UK UL UN UP UO RB SU SV RC SW UQ SX SY
end Go.Proofs.Ytgigfdghecdlgaa.Ab
namespace Go.Proofs.Ytgigfdghecdlgaa.Ab
set_option linter.unusedVariables false
open Go.RowKit
section
variable {P:Program} {σ:St} {K:St→Prop} {Q:AE→St→Prop}
@[go_sem] theorem V1 {n} (h1: -9223372036854775808≤n) (h2:n≤9223372036854775807):IntKind.i64.wrap n=n:=Go.IntWalk.i64_in n ⟨h1,h2⟩
@[go_sem ↓] theorem X7 {K}:HJ P σ [] K=K [] :=rfl
@[go_sem ↓] theorem X8 {t} {l} {K}:HJ P σ (.tmp t::l) K=AS (σ.g t) fun v=>HJ P σ l fun vs=>K (v::vs):=rfl
@[go_sem ↓] theorem Wu {a} {t} {l} {K}:HJ P σ (.cell a t::l) K=Gl P t (σ.g a) σ fun v=>HJ P σ l fun vs=>K (v::vs):=rfl
@[go_sem] theorem UR {k} {n m}:BD (.int k n) (.int k m) σ K=AJ (n=m) (K σ):=by simp [BD,AJ]
@[go_sem] theorem Sa {b c}:BD (.bool b) (.bool c) σ K=AJ (b=c) (K σ):=by simp [BD,AJ]
@[go_sem] theorem US {s s'}:BD (.str s) (.str s') σ K=AJ (s=s') (K σ):=by simp [BD,AJ]
@[go_sem] theorem Sb:BD .nilp .nilp σ K=K σ:=by simp [BD]
@[go_sem] theorem Sc {ap} {rows}:BD .nils (.ow ap rows) σ K=AJ (rows=[]) (K σ):=by simp [BD,AJ]
@[go_sem] theorem UT {b n sz} {ap} {rows}:BD (.bsl b n sz) (.ow ap rows) σ K=AJ (n=0) (AJ (rows=[]) (K σ)):=by simp only [BD,AJ]
@[go_sem] theorem UU {t} {ap} {rows}:BD (.own t) (.ow ap rows) σ K=optX (σ.T t) fun tk=>AJ (tk.rows=rows) (AJ (ap=none∨tk.sz=ap) (AJ (tk.z=false) (K (σ.killT t)))):=by simp only [BD,AJ,optX]
@[go_sem] theorem UV {rows rows'}:BD (.ro rows) (.ro rows') σ K=AJ (rows=rows') (K σ):=by simp only [BD,AJ]
@[go_sem] theorem ZK {rows rows'}:BD (.ro rows) (.ow none rows') σ K=AJ (rows=[]) (AJ (rows'=[]) (K σ)):=by simp [BD,AJ]
@[go_sem] theorem UW {vs} {rs}:BD (.agg vs) (.agg rs) σ K=Eo vs rs σ K:=by simp only [BD]
@[go_sem] theorem UX {vs} {rs}:BD (.tup vs) (.tup rs) σ K=Eo vs rs σ K:=by simp only [BD]
@[go_sem] theorem Sd:Eo [] [] σ K=K σ:=by simp only [Eo]
@[go_sem] theorem RD {v} {vs} {r} {rs}:Eo (v::vs) (r::rs) σ K=BD v r σ fun σ'=>Eo vs rs σ' K:=by simp only [Eo]
def RE (r:RV) (σ:St) (vs:List AV):Prop:=match vs with
 | [v] =>BD v r σ fun _=>True
 |vs=>BD (.tup vs) r σ fun _=>True
@[go_sem ↓] theorem ZL {r}:RE r σ [] =BD (.tup []) r σ fun _=>True:=rfl
@[go_sem ↓] theorem ZM {r} {v}:RE r σ [v] =BD v r σ fun _=>True:=rfl
@[go_sem ↓] theorem ZN {r} {v u} {vs}:RE r σ (v::u::vs)=BD (.tup (v::u::vs)) r σ fun _=>True:=rfl
def endX (P:Program) (l:List ResultVar) (r:RV) (q:AE) (σ:St):Prop:=match q with| .exit _=>False|_=>HJ P σ l (RE r σ)
@[go_sem ↓] theorem V2 {l} {r}:endX P l r .normal σ=HJ P σ l (RE r σ):=rfl
@[go_sem ↓] theorem ZO {l} {r}:endX P l r .ret σ=HJ P σ l (RE r σ):=rfl
theorem X9 (hm:P.follows .mixedOrders =true) {f} {fn} {c} {l} {args} {r} (hf:P.funcs[f]? =some fn) (hb:fn.body=some c) (hr:fn.results=l.toArray) (hnm:(fn.name == "runtime.NumGoroutine")=false)
  (hn:decide (args.length≤fn.ntmps)=true) (hok:C8 fn.ntmps c=true) (h:awp P c (endX P l r) (st0 args)):AC P f args r:=by
 refine Oy hm hf hb hnm (of_decide_eq_true hn) hok ?_
 have e:endQ P fn.results.toList r=endX P l r:=by
  rw [hr]
  funext q σ
  cases q <;> rfl
 rw [e]
 exact h
attribute [go_sem] st0 Kc
def Se {X:Type} (R:X→Prop) (inv:X→St) (μ:X→Nat) (x:X) (σ:St):Prop:=∃x',TF σ (inv x')∧R x'∧μ x'<μ x
def V3 {X:Type} (R:X→Prop) (inv:X→St) (μ:X→Nat) (x:X) (σ:St) (_:Wrap R) (_:Wrap inv) (_:Wrap μ) (_:Wrap x):Prop:=Se R inv μ x σ
@[go_sem ↓] theorem Wv {X:Type} {R:X→Prop} {inv:X→St} {μ:X→Nat} {x:X} {σ:St}:Se R inv μ x σ=V3 R inv μ x σ ⟨⟩ ⟨⟩ ⟨⟩ ⟨⟩:=rfl
attribute [go_sem] Fu M6 Jx Jy ren rens DC Df List.nodup_nil List.all_nil List.all_cons AV.int.injEq AV.bool.injEq AV.str.injEq AV.ro.injEq AV.rop.injEq AV.agg.injEq AV.fn.injEq AV.own.injEq AV.box.injEq AV.bsl.injEq AV.elt.injEq List.cons.injEq Tok.mk.injEq Option.isSome_some exists_eq_left' exists_eq_left
end
attribute [go_sem ↓] UR Sa US Sb Sc UT UU UV UW UX Sd RD
end Go.Proofs.Ytgigfdghecdlgaa.Ab
namespace Go.Proofs.Ytgigfdghecdlgaa.Ab
set_option linter.unusedVariables false
open Go.RowKit
section
variable {P:Program} {σ:St} {K:St→Prop} {pos:Nat} {dst:Option Tmp} {t t' s d:TypeId} {x y a b c g l:Operand} {f i:Nat} {op:BinOp}
def slY (t:TI) (K:TypeId→Prop) (_:Wrap K):Prop:=slX t K
@[go_sem ↓] theorem aT {t} {K}:slX t K=slY t K ⟨⟩:=rfl
@[go_sem] theorem aU {e} {K} {w}:slY (.sl e) K w=K e:=rfl
def U0 (t:TI) (K:IntKind→Prop) (_:Wrap K):Prop:=Nt t K
@[go_sem ↓] theorem YA {t} {K}:Nt t K=U0 t K ⟨⟩:=rfl
@[go_sem] theorem Ww {k} {K} {w}:U0 (.int k) K w=K k:=rfl
def stY (P:Program) (t:TI) (K:List (Nat × TypeId)→Prop) (_:Wrap K):Prop:=Nz P t K
@[go_sem ↓] theorem aV {t} {K}:Nz P t K=stY P t K ⟨⟩:=rfl
@[go_sem] theorem aW {fs} {K} {w}:stY P (.st fs) K w=K fs:=rfl
@[go_sem] theorem ZP {n} {el} {K} {w}:stY P (.arr n el) K w=AJ (0<tsz P el) (AS (GO (tsz P el) el n 0) K):=rfl
def YB (rows:List (List D)) (n:Int) (sz:Nat) (K:List D→Prop) (_:Wrap K):Prop:=Nw rows n sz K
@[go_sem ↓] theorem ZQ {rows} {n} {sz} {K}:Nw rows n sz K=YB rows n sz K ⟨⟩:=rfl
def YC {α:Type} (v:α) (K:α→Prop) (_:Wrap K):Prop:=HL v K
@[go_sem ↓] theorem ZR {α:Type} {v:α} {K:α→Prop}:HL v K=YC v K ⟨⟩:=rfl
theorem Ag {α:Type} {v} {K} {w} (y:α) (h:v=y) (hk:K y):YC v K w:=⟨y,h,hk⟩
def DN (n:Nat) (rs:List RV) (K:List AV→List (Nat × Tok)→Prop) (_:Wrap K):Prop:=K (CL n rs).1 (CL n rs).2
def cv1 (n:Nat) (r:RV) (K:AV→List (Nat × Tok)→Prop):Prop:=K (conv n r).1 (conv n r).2
section
variable {n:Nat} {rs us:List RV} {L:List AV→List (Nat × Tok)→Prop} {L1:AV→List (Nat × Tok)→Prop} {w:Wrap L}
@[go_sem] theorem UY:DN n [] L w=L [] [] :=rfl
@[go_sem] theorem UZ {k} {x}:DN n (.int k x::rs) L w=DN n rs (fun vs ts=>L (.int k x::vs) ts) ⟨⟩:=by simp only [DN,CL,conv,List.length_nil,Nat.add_zero,List.nil_append]
@[go_sem] theorem Sf {b}:DN n (.bool b::rs) L w=DN n rs (fun vs ts=>L (.bool b::vs) ts) ⟨⟩:=by simp only [DN,CL,conv,List.length_nil,Nat.add_zero,List.nil_append]
@[go_sem] theorem Ua {x}:DN n (.str x::rs) L w=DN n rs (fun vs ts=>L (.str x::vs) ts) ⟨⟩:=by simp only [DN,CL,conv,List.length_nil,Nat.add_zero,List.nil_append]
@[go_sem] theorem V4 {x}:DN n (.ro x::rs) L w=DN n rs (fun vs ts=>L (.any ::vs) ts) ⟨⟩:=by simp only [DN,CL,conv,List.length_nil,Nat.add_zero,List.nil_append]
@[go_sem] theorem Sg:DN n (.nilp ::rs) L w=DN n rs (fun vs ts=>L (.nilp ::vs) ts) ⟨⟩:=by simp only [DN,CL,conv,List.length_nil,Nat.add_zero,List.nil_append]
@[go_sem] theorem V5 {ap} {x}:DN n (.ow ap x::rs) L w=DN (n+1) rs (fun vs ts=>L (.own n::vs) ((n,⟨x,ap,0,false⟩)::ts)) ⟨⟩:=by simp only [DN,CL,conv,List.length_nil,List.length_cons,Nat.zero_add,List.cons_append,List.nil_append]
@[go_sem] theorem Ub:DN n (.agg us::rs) L w=DN n us (fun ws ts=>DN (n+ts.length) rs (fun vs ts'=>L (.agg ws::vs) (ts++ts')) ⟨⟩) ⟨⟩:=by simp only [DN,CL,conv]
@[go_sem] theorem Uc:DN n (.tup us::rs) L w=DN n us (fun ws ts=>DN (n+ts.length) rs (fun vs ts'=>L (.tup ws::vs) (ts++ts')) ⟨⟩) ⟨⟩:=by simp only [DN,CL,conv]
@[go_sem ↓] theorem ZS {k} {x}:cv1 n (.int k x) L1=L1 (.int k x) [] :=rfl
@[go_sem ↓] theorem YD {b}:cv1 n (.bool b) L1=L1 (.bool b) [] :=rfl
@[go_sem ↓] theorem ZT {x}:cv1 n (.str x) L1=L1 (.str x) [] :=rfl
@[go_sem ↓] theorem aX {x}:cv1 n (.ro x) L1=L1 .any [] :=rfl
@[go_sem ↓] theorem YE:cv1 n .nilp L1=L1 .nilp [] :=rfl
@[go_sem ↓] theorem aY {ap} {x}:cv1 n (.ow ap x) L1=L1 (.own n) [(n,⟨x,ap,0,false⟩)] :=rfl
@[go_sem ↓] theorem ZU:cv1 n (.agg us) L1=DN n us (fun ws ts=>L1 (.agg ws) ts) ⟨⟩:=by simp only [DN,cv1,conv]
@[go_sem ↓] theorem ZV:cv1 n (.tup us) L1=DN n us (fun ws ts=>L1 (.tup ws) ts) ⟨⟩:=by simp only [DN,cv1,conv]
end
attribute [go_sem ↓] UY UZ Sf Ua V4 Sg V5 Ub Uc
def N1 (P:Program) (L:Bool) (pos:Nat) (f:FuncId) (args:List AV) (as:Option (List AV)) (dst:Option Tmp) (σ:St) (K:St→Prop) (_:Wrap K) (w:Wrap L):Prop:=L7 P L pos f args as dst σ K w
@[go_sem ↓] theorem YF {L} {wL} {f} {args} {as}:L7 P L pos f args as dst σ K wL=N1 P L pos f args as dst σ K ⟨⟩ wL:=rfl
theorem AK {f} {args bs} {w} {rv} (h:AC P f bs rv) (hk:AS (pos*16) fun m=>cv1 m rv fun v ts=>AJ (BZ σ ts) (K (σ.add dst ⟨v,ts,[]⟩))) {L} {wL}:N1 P L pos f args (some bs) dst σ K w wL:=UF h hk.1 hk.2
theorem Sh {f} {args bs} {w} {rv} {o} (h:AG P f bs [] [] rv [] []) (e:cls (fun _=>none) (fun _=>none) args=some bs) (hp:La rv=true) (hk:K (σ.add dst ⟨rv,[],[]⟩)) {L} {wL}:N1 P L pos f args o dst σ K w wL:=.inl (.inr ⟨bs,rv,[],[],h,e,.inl ⟨rfl,hp,hk⟩⟩)
attribute [go_sem] La
def P1 (y:Way) (as:List AV) (pt:List (Nat × Tok)) (pb:List (Nat × List AV)) (qt:List (Nat × Tok)) (qb:List (Nat × List AV)):Bool:=
 decide (((y.rt++y.nt).map (·.2)).Nodup)&&decide (((y.rt++y.nt).map (·.1)).Nodup)&&decide (((y.rb.map (·.2.1))++y.nb.map (·.2)).Nodup)&&decide (((y.rb.map (·.1))++y.nb.map (·.1)).Nodup)&&
 (y.rt.all fun p=>(look pt p.1).isSome)&&(y.rb.all fun p=>(look pb p.1).isSome)&&(y.nt.all fun p=>(look pt p.1).isNone)&&(y.nb.all fun p=>(look pb p.1).isNone)&&decide ((pt.map (·.1)).Nodup)&&decide ((pb.map (·.1)).Nodup)&&
 (pb.all fun p=>(look qb p.1).isSome)&&GP y.rt y.cv&&(y.md||noZ qt)&&RU as pt pb&&(y.rt.all fun p=>decide (p.1 <1000)||(look qt p.1).isNone)
def Kj:List (Nat × Nat)→List (Nat × Option Tok)→Prop
 | [],_=>True
 |(_,n)::r,t=>look t n=none∧Kj r t
def IN:List (Nat × Nat)→List (Nat × Option (List AV))→Prop
 | [],_=>True
 |(_,n)::r,t=>look t n=none∧IN r t
def P2 (y:Way) (args as:List AV) (pt:List (Nat × Tok)) (pb:List (Nat × List AV)) (σ1:St):Prop:=
 Kj y.nt σ1.t∧IN y.nb σ1.b∧JD y.rt σ1 pt∧De y σ1 (σ1.less y) pb∧PasL y (σ1.less y) args as
theorem JN {t}:∀ {l},Kj l t→∀p ∈ l,(look t p.2).isNone =true
 | [],_,p,h=>by cases h
 |(c,n)::l,hf,p,h=>by
  simp only [Kj] at hf
  rcases List.mem_cons.1 h with rfl|h
  ·rw [hf.1]; rfl
  ·exact JN hf.2 p h
theorem IP {t}:∀ {l},IN l t→∀p ∈ l,(look t p.2).isNone =true
 | [],_,p,h=>by cases h
 |(c,n)::l,hf,p,h=>by
  simp only [IN] at hf
  rcases List.mem_cons.1 h with rfl|h
  ·rw [hf.1]; rfl
  ·exact IP hf.2 p h
theorem Si {f} {args} {σ} {as} {pt} {pb} {r} {qt} {qb} {K} (y:Way) (h:AG P f as pt pb r qt qb) (hB:P1 y as pt pb qt qb=true)
  (hc:A6 y.cv σ fun σ1=>AJ (P2 y args as pt pb σ1) (Af y.cv (σ1.after y qt qb) fun σ2=>K (bak y r) σ2)):Lb P f args σ K:=by
 refine⟨y,as,pt,pb,r,qt,qb,h,Ew (fun σ1 h=>?_) hc⟩
 unfold P1 at hB
 simp only [Bool.and_eq_true,decide_eq_true_eq,and_assoc] at hB
 obtain⟨b1,b2,b3,b4,b5,b6,b7,b8,b9,b10,b11,b12,bm,b13,b14⟩:=hB
 obtain⟨⟨h1,h2,h3,h4,h5⟩,h6⟩:=h
 refine⟨⟨b1,b2,b3,b4,b5,b6,?_,?_,b9,b10⟩,h3,h4,h5,b11,⟨b12,bm⟩,b13,b14,h6⟩
 ·rw [List.all_eq_true] at b7 ⊢
  intro p hp
  rw [b7 p hp,JN h1 p hp]; rfl
 ·rw [List.all_eq_true] at b8 ⊢
  intro p hp
  rw [b8 p hp,IP h2 p hp]; rfl
theorem V6 {L} {wL} {f} {args} {o} {w} {as} {pt} {pb} {r} {qt} {qb} (y:Way) (hL:L=true) (h:AG P f as pt pb r qt qb) (hB:P1 y as pt pb qt qb=true)
  (hc:A6 y.cv σ fun σ1=>AJ (P2 y args as pt pb σ1) (Af y.cv (σ1.after y qt qb) fun σ2=>K (σ2.put dst (bak y r)))):N1 P L pos f args o dst σ K w wL:=.inr ⟨hL,[],Si (K:=fun v σ'=>K (σ'.put dst v)) y h hB hc⟩
@[go_sem ↓] theorem ZW {args} {K}:FzK [] args σ K=K args σ:=rfl
@[go_sem ↓] theorem YG {b} {r} {args} {s} {t} {bb} {K}:FzK (b::r) args ⟨s,t,bb⟩ K=optX ((look bb b).join) fun vs=>AJ (1000≤b∧isMp vs=false) (AS (args.map (fzA b vs)) fun args'=>FzK r args' ⟨s,t,(b,none)::bb⟩ K):=rfl
section
variable {b:Nat} {vs:List AV}
@[go_sem] theorem ZX {x n sz}:fzA b vs (.bsl x n sz)=(cl (fun _=>none) (only b vs) (.bsl x n sz)).getD (.bsl x n sz):=rfl
@[go_sem] theorem ZY {x off}:fzA b vs (.box x off)=(cl (fun _=>none) (only b vs) (.box x off)).getD (.box x off):=rfl
@[go_sem] theorem ZZ {us}:fzA b vs (.agg us)=(cl (fun _=>none) (only b vs) (.agg us)).getD (.agg us):=rfl
@[go_sem] theorem Za {k} {n}:fzA b vs (.int k n)= .int k n:=rfl
@[go_sem] theorem YH {x}:fzA b vs (.bool x)= .bool x:=rfl
@[go_sem] theorem Zb {x}:fzA b vs (.str x)= .str x:=rfl
@[go_sem] theorem aZ {x}:fzA b vs (.ro x)= .ro x:=rfl
@[go_sem] theorem Zc {x}:fzA b vs (.own x)= .own x:=rfl
@[go_sem] theorem Zd {x} {off}:fzA b vs (.rop x off)= .rop x off:=rfl
@[go_sem] theorem Ze {t sz i off}:fzA b vs (.elt t sz i off)= .elt t sz i off:=rfl
@[go_sem] theorem aa {f} {x}:fzA b vs (.fn f x)= .fn f x:=rfl
@[go_sem] theorem YI:fzA b vs .nilp = .nilp :=rfl
@[go_sem] theorem YJ:fzA b vs .nils = .nils :=rfl
@[go_sem] theorem Zf {x}:fzA b vs (.mpr x)= .mpr x:=rfl
@[go_sem] theorem Zg:fzA b vs .any = .any :=rfl
end
attribute [go_sem] Option.getD_some Option.getD_none Option.join_some Option.bind_some Option.bind_none only
attribute [go_sem] ne_eq true_imp_iff implies_true false_imp_iff B0 D.flat kept P2 Kj IN JD St.less JE Jt Ju Jv Oa Ob St.after bak baks De
@[go_sem ↓] theorem Wx:A6 [] σ K=K σ:=by rw [A6]
@[go_sem ↓] theorem V7 {n} {z} {r} {s} {t} {b}:A6 ((n,.nils,z)::r) ⟨s,t,b⟩ K=AJ (look t n=none) (A6 r ⟨s,(n,some ⟨[],z,0,false⟩)::t,b⟩ K):=by rw [A6]; rfl
@[go_sem ↓] theorem Wy {n x m sz} {z} {r} {s} {t} {b}:A6 ((n,.bsl x m sz,z)::r) ⟨s,t,b⟩ K=AJ (m=0) (AJ (look t n=none) (A6 r ⟨s,(n,some ⟨[],z,0,false⟩)::t,b⟩ K)):=by rw [A6]; rfl
@[go_sem ↓] theorem Wz {n t' g sz i j:Nat} {r:List (Nat × AV × Option Nat)} {s:List (Nat × AV)} {t:List (Nat × Option Tok)} {b:List (Nat × Option (List AV))}:A6 ((n,.sub t' g [(sz,i,j)],none)::r) ⟨s,t,b⟩ K=
  AJ (look t n=none∧n≠t') (optX (look t t').join fun tk=>AJ (tk.gen=g) (optX (getP [(sz,i,j)] tk.rows) fun rows=>HL (putR [(sz,i,j)] tk.rows .gone) fun rows'=>A6 r ⟨s,(n,some ⟨rows,none,0,tk.z⟩)::(t',some ⟨rows',tk.sz,g,tk.z⟩)::t,b⟩ K)):=by
 rw [A6]
 simp only [AJ,optX,EA,List.length_cons,List.length_nil,true_and,Nat.zero_add]
 refine propext ⟨?_,?_⟩
 ·rintro ⟨h2,tk,rows,h4,h5,h6,h7,h8⟩; exact⟨⟨h2,h7⟩,tk,h4,h5,rows,h6,h8⟩
 ·rintro ⟨⟨h2,h7⟩,tk,h4,h5,rows,h6,h8⟩; exact⟨h2,tk,rows,h4,h5,h6,h7,h8⟩
@[go_sem ↓] theorem Zh:Af [] σ K=K σ:=by rw [Af]
def unX (n:Nat) (K:St→Prop) (σ:St):Prop:=K {σ with t:=(n,none)::σ.t}
@[go_sem ↓] theorem ae {n} {s} {t} {b}:unX n K ⟨s,t,b⟩=K ⟨s,(n,none)::t,b⟩:=rfl
@[go_sem ↓] theorem YK {n} {z} {r}:Af ((n,.nils,z)::r) σ K=Af r σ (unX n K):=by rw [Af]; rfl; all_goals (intros; simp_all)
@[go_sem ↓] theorem Zi {n x m sz} {z} {r}:Af ((n,.bsl x m sz,z)::r) σ K=Af r σ (unX n K):=by rw [Af]; rfl; all_goals (intros; simp_all)
def unS (n t' g:Nat) (p:Pth) (K:St→Prop) (σ:St):Prop:=match σ.T n with
 |some tn=>∃tk,σ.T t'=some tk∧JQ p tk.rows=some .gone ∧(n≠t'∧okZ tk.z tn=true)∧K {σ with t:=(n,none)::(t',some ⟨putR p tk.rows (.sl tn.rows),tk.sz,if tn.gen=0∧tk.gen=g then g else tk.gen+tn.gen+1,tk.z⟩)::σ.t}
 |none=>K σ
@[go_sem ↓] theorem Zj {n t' g} {p} {z} {r}:Af ((n,.sub t' g p,z)::r) σ K=Af r σ (unS n t' g p K):=by rw [Af]; rfl
def unO (o:Option Tok) (n t' g:Nat) (p:Pth) (K:St→Prop) (σ:St):Prop:=match o with
 |some tn=>AJ (n≠t') (optX (σ.T t') fun tk=>AJ (okZ tk.z tn=true) (AJ (JQ p tk.rows=some .gone) (HL (putR p tk.rows (.sl tn.rows)) fun rows=>K ⟨σ.s,(n,none)::(t',some ⟨rows,tk.sz,if tn.gen=0∧tk.gen=g then g else tk.gen+tn.gen+1,tk.z⟩)::σ.t,σ.b⟩)))
 |none=>K σ
@[go_sem ↓] theorem ag {n t' g:Nat} {p:Pth} {s:List (Nat × AV)} {t:List (Nat × Option Tok)} {b:List (Nat × Option (List AV))}:unS n t' g p K ⟨s,t,b⟩=unO (look t n).join n t' g p K ⟨s,t,b⟩:=by
 unfold unS unO
 have e:St.T ⟨s,t,b⟩ n=(look t n).join :=rfl
 rw [e]
 cases (look t n).join with
 |none=>rfl
 |some tn=>
  simp only [AJ,optX,EA]
  refine propext ⟨?_,?_⟩
  ·rintro ⟨tk,h1,h2,⟨h3,h0⟩,h4⟩; exact⟨h3,tk,h1,h0,h2,h4⟩
  ·rintro ⟨h3,tk,h1,h0,h2,h4⟩; exact⟨tk,h1,h2,⟨h3,h0⟩,h4⟩
@[go_sem] theorem YL {n t' g} {p} {tn}:unO (some tn) n t' g p K σ=AJ (n≠t') (optX (σ.T t') fun tk=>AJ (okZ tk.z tn=true) (AJ (JQ p tk.rows=some .gone) (HL (putR p tk.rows (.sl tn.rows)) fun rows=>K ⟨σ.s,(n,none)::(t',some ⟨rows,tk.sz,if tn.gen=0∧tk.gen=g then g else tk.gen+tn.gen+1,tk.z⟩)::σ.t,σ.b⟩))):=rfl
@[go_sem] theorem YM {n t' g} {p}:unO none n t' g p K σ=K σ:=rfl
theorem MY {α:Type} {l:List α} {i:Nat} {x y:α} (h:l[i]? =some x):(l.set i y)[i]? =some y:=List.getElem?_set_self (AN h)
theorem Sj {rows r} {sz i j} {row} (h:rows[i]? =some row) (hl:row.length=sz) (hj:row[j]? =some (.sl r)):getP [(sz,i,j)] rows=some r:=by
 simp only [getP,h,hl,if_true,hj]
theorem Sk {rows} {sz i j} {row} {d} (h:rows[i]? =some row) (hl:row.length=sz) (hj:row[j]? =some d):JQ [(sz,i,j)] rows=some d:=by
 simp only [JQ,h,hl,if_true,hj]
theorem MZ {rows} {sz i j} {row} {d d'} (h:rows[i]? =some row) (hj:row[j]? =some d'):putR [(sz,i,j)] rows d=rows.set i (row.set j d):=by
 unfold putR
 rw [Ab.put,h]
 simp only [hj,Ab.put]
section
variable {y:Way} {σ0:St}
@[go_sem] theorem YN:PasL y σ0 [] [] =True:=by simp only [PasL]
@[go_sem] theorem W0 {a b} {as bs}:PasL y σ0 (a::as) (b::bs)=(Br y σ0 a b∧PasL y σ0 as bs):=by simp only [PasL]
@[go_sem] theorem Zk {n c}:Br y σ0 (.own n) (.own c)=(look y.rt c=some n∨∃z,∃m,look y.rt c=some m∧look y.cv m=some (.own n,z)):=by
 simp only [Br]
 refine propext ⟨?_,?_⟩
 ·rintro ⟨m,h1,h2|⟨z,h2⟩⟩
  ·cases h2; exact .inl h1
  ·exact .inr ⟨z,m,h1,h2⟩
 ·rintro (h|⟨z,m,h1,h2⟩)
  ·exact⟨n,h,.inl rfl⟩
  ·exact⟨m,h1,.inr ⟨z,h2⟩⟩
def cvX (o:Option (AV × Option Nat)) (a:AV):Prop:=match o with|some x=>x.1 =a|none=>False
theorem Ma {o} {a}:(∃z,o=some (a,z))=cvX o a:=by
 unfold cvX
 cases o with
 |none=>simp
 |some x=>obtain⟨b,z⟩:=x; simp
def rtX (o:Option Nat) (K:Nat→Prop):Prop:=match o with|some n=>K n|none=>False
@[go_sem] theorem YO {n} {K}:rtX (some n) K=K n:=rfl
@[go_sem] theorem YP {x} {a}:cvX (some x) a=(x.1 =a):=rfl
theorem Jh {o} {p}:(∃n,o=some n∧p n)=rtX o p:=by
 cases o <;> simp [rtX]
@[go_sem] theorem Zl {t g c} {p}:Br y σ0 (.sub t g p) (.own c)=rtX (look y.rt c) fun n=>cvX (look y.cv n) (.sub t g p):=by
 rw [← Jh]
 simp only [Br,reduceCtorEq,false_or,Ma]
@[go_sem] theorem YQ {c}:Br y σ0 .nils (.own c)=rtX (look y.rt c) fun n=>cvX (look y.cv n) .nils :=by
 rw [← Jh]
 simp only [Br,reduceCtorEq,false_or,Ma]
@[go_sem] theorem Zm {x m sz c}:Br y σ0 (.bsl x m sz) (.own c)=rtX (look y.rt c) fun n=>cvX (look y.cv n) (.bsl x m sz):=by
 rw [← Jh]
 simp only [Br,reduceCtorEq,false_or,Ma]
@[go_sem] theorem Zn {n off b off'}:Br y σ0 (.box n off) (.box b off')=match look y.rb b with|some q=>n=q.1 ∧off=q.2 +off'|none=>False:=by
 simp only [Br,AV.box.injEq]
 cases look y.rb b <;> simp
@[go_sem] theorem Zo {n sz i off c sz' i' off'}:Br y σ0 (.elt n sz i off) (.elt c sz' i' off')=rtX (look y.rt c) fun m=>n=m∧sz=sz'∧i=i'∧off=off':=by
 rw [← Jh]
 simp only [Br,AV.elt.injEq]
@[go_sem] theorem Zp {vs us}:Br y σ0 (.agg vs) (.agg us)=PasL y σ0 vs us:=by simp only [Br]
@[go_sem] theorem ah {f f'} {vs us}:Br y σ0 (.fn f vs) (.fn f' us)=(f=f'∧PasL y σ0 vs us):=by simp only [Br]
@[go_sem] theorem Zq {n b}:Br y σ0 (.mpr n) (.mpr b)=match look y.rb b with|some q=>n=q.1 |none=>False:=by
 simp only [Br,AV.mpr.injEq]
 cases look y.rb b <;> simp
def clW (y:Way) (σ0:St) (a:AV):Option AV:=cl (if y.md=true then fun _=>none else σ0.T) (if y.md=true then fun _=>none else σ0.B) a
@[go_sem] theorem Zr {a} {k} {n}:Br y σ0 a (.int k n)=(clW y σ0 a=some (.int k n)):=by cases a <;> simp only [Br,clW]
@[go_sem] theorem YR {a} {b}:Br y σ0 a (.bool b)=(clW y σ0 a=some (.bool b)):=by cases a <;> simp only [Br,clW]
@[go_sem] theorem Zs {a} {s}:Br y σ0 a (.str s)=(clW y σ0 a=some (.str s)):=by cases a <;> simp only [Br,clW]
@[go_sem] theorem ai {a} {rows}:Br y σ0 a (.ro rows)=(clW y σ0 a=some (.ro rows)):=by cases a <;> simp only [Br,clW]
@[go_sem] theorem Zt {a} {vs} {off}:Br y σ0 a (.rop vs off)=narR (clW y σ0 a) vs off:=by cases a <;> simp only [Br,clW]
@[go_sem] theorem YS {us} {o'} {vs} {off}:narR (some (.rop us o')) vs off=((us=vs∧o'=off)∨(off=0∧Cl us o' vs.length=vs)):=rfl
@[go_sem] theorem YT {a}:Br y σ0 a .nilp =(clW y σ0 a=some .nilp):=by cases a <;> simp only [Br,clW]
@[go_sem] theorem Zu {a} {q} {rows}:Br y σ0 a (.mpc q rows)=(clW y σ0 a=some (.mpc q rows)):=by cases a <;> simp only [Br,clW]
@[go_sem] theorem Zv {a}:Br y σ0 a .any =(clW y σ0 a=some .any):=by cases a <;> simp only [Br,clW]
@[go_sem] theorem aj {cv rt rb nt nb} {a}:clW ⟨cv,rt,rb,nt,nb,true⟩ σ0 a=cl (fun _=>none) (fun _=>none) a:=by simp [clW]
@[go_sem] theorem ak {cv rt rb nt nb} {a}:clW ⟨cv,rt,rb,nt,nb,false⟩ σ0 a=cl σ0.T σ0.B a:=by simp [clW]
end
def Ud (P:Program) (t:TypeId) (v:AV) (σ:St) (K:Bool→Prop) (_:Wrap K):Prop:=MW P t v σ K
@[go_sem] theorem W1 {K} {w}:Ud P t .nils σ K w=AJ (slP (ti P t)) (K true):=L6
@[go_sem] theorem YU {b n sz} {K} {w}:Ud P t (.bsl b n sz) σ K w=AJ (slP (ti P t)) (K false):=Nq
@[go_sem ↓] theorem W2:opX P pos dst (.makeMap t none) σ K=optX (Uo P t) fun q=>AJ (look σ.b pos=none) (K ((σ.put dst (.mpr pos)).setB pos [.mpc q []])):=by
 rw [Iv (fun _=>by simp only [aop])]
 simp only [Ev,optX,AJ]
 refine propext ⟨?_,?_⟩
 ·rintro ⟨r,⟨q,h1,rfl⟩,-,h2,h3⟩
  exact⟨q,h1,h2.1,by rw [← FN]; exact h3⟩
 ·rintro ⟨q,h1,h2,h3⟩
  exact⟨_,⟨q,h1,rfl⟩,trivial,⟨h2,trivial⟩,by rw [FN]; exact h3⟩
def lkR (ok:Bool) (o:Option D) (z:AV) (K:AV→Prop):Prop:=K (if ok=true then .tup [(o.map ofD).getD z,.bool o.isSome] else (o.map ofD).getD z)
@[go_sem] theorem am {o} {z} {K}:lkR false o z K=AS ((o.map ofD).getD z) K:=by simp [lkR,AS]
@[go_sem] theorem an {o} {z} {K}:lkR true o z K=AS ((o.map ofD).getD z) fun v=>AS o.isSome fun b=>K (.tup [v,.bool b]):=by simp [lkR,AS]
def lkX (P:Program) (t:TypeId) (u v:AV) (ok:Bool) (σ:St) (K:AV→Prop):Prop:=∃r,JB P σ.B t u v ok r∧K r
@[go_sem] theorem Zw {b} {v} {ok} {K}:lkX P t (.mpr b) v ok σ K=PF (ti P t) fun kt et=>Ny (σ.B b) fun q rows=>AJ (OY P kt=some q) (optX (keyD v) fun k=>AJ (ME q k=true) (optX (tz1 P et) fun z=>AS (zAV z) fun z'=>AS (El k rows) fun o=>lkR ok o z' K)):=by
 simp only [lkX,JB,PF,Ny,AJ,optX,AS,lkR]
 generalize ti P t=w
 cases w with
 |map kt et=>
  simp only
  refine propext ⟨?_,?_⟩
  ·rintro ⟨r,⟨q,rows,h1,h2,k,h3,h4,z,h5,rfl⟩,h6⟩; exact⟨q,rows,h1,h2,k,h3,h4,z,h5,h6⟩
  ·rintro ⟨q,rows,h1,h2,k,h3,h4,z,h5,h6⟩; exact⟨_,⟨q,rows,h1,h2,k,h3,h4,z,h5,rfl⟩,h6⟩
 |_=>simp
@[go_sem ↓] theorem YV {ok}:opX P pos dst (.lookup t x y ok) σ K=AS (σ.e x) fun u=>AS (σ.e y) fun v=>lkX P t u v ok σ fun r=>K (σ.put dst r):=
 DU (p:=fun v=>JB P σ.B t (σ.e x) (σ.e y) ok v) (fun _=>by simp only [aop]) (fun r=>by simp only [Ev])
def L8 (a:AV):Option D:=match Fs [a] with|some [d] =>some d|_=>none
@[go_sem] theorem W3 {k} {n}:L8 (.int k n)=some (.int k n):=rfl
@[go_sem] theorem V8 {b}:L8 (.bool b)=some (.bool b):=rfl
@[go_sem] theorem W4 {s}:L8 (.str s)=some (.str s):=rfl
theorem Sl {a} {d}:Fs [a] =some [d] ↔L8 a=some d:=by
 unfold L8
 cases a <;> simp [Fs]
def muX (P:Program) (t:TypeId) (u v x:AV) (σ:St) (K:St→Prop):Prop:=M3 P t u v x σ K
@[go_sem] theorem Zx {b:Nat} {v x:AV}:muX P t (.mpr b) v x σ K=PF (ti P t) fun kt et=>Ny (σ.B b) fun q rows=>AJ (rows.length<68719476736) (AJ (OY P kt=some q) (optX (keyD v) fun k=>AJ (ME q k=true) (optX (L8 x) fun d=>HL (mput k d rows) fun rows'=>K (σ.setB b [.mpc q rows'])))):=by
 simp only [muX,M3,PF,Ny,AJ,optX,EA]
 generalize ti P t=w
 cases w with
 |map kt et=>
  simp only [Sl]
 |_=>rfl
@[go_sem ↓] theorem U1 {m i}:opX P pos dst (.mapUpdate t m i x) σ K=AS (σ.e m) fun u=>AS (σ.e i) fun v=>AS (σ.e x) fun z=>muX P t u v z σ fun σ'=>K (σ'.put dst .any):=by
 unfold opX
 simp only [aop,AS,muX]
attribute [go_sem] keyD
@[go_sem] theorem YW {k} {n}:ME (.int k) (.int k n)=true:=by simp [ME]
@[go_sem] theorem YX {s}:ME .str (.str s)=true:=rfl
@[go_sem ↓] theorem aq:opX P pos dst (.pick c a b) σ K=AS (σ.e c) fun u=>AS (σ.e a) fun v=>AS (σ.e b) fun w=>Ki u v w fun v=>K (σ.put dst v):=Vd
@[go_sem ↓] theorem ar:opX P pos dst (.load t a) σ K=AS (σ.e a) fun u=>Gl P t u σ fun v=>K (σ.put dst v):=Ve
@[go_sem ↓] theorem V9:opX P pos dst (.nilCheck x) σ K=AS (σ.e x) fun u=>MV u fun v=>K (σ.put dst v):=PA
@[go_sem ↓] theorem W5 {y}:opX P pos dst (.binOp op t x (.tmp y) t') σ K=AS (σ.e x) fun u=>AS (σ.g y) fun v=>As P op t u v fun v=>K (σ.put dst v):=Q1
@[go_sem ↓] theorem W6 {k} {n}:opX P pos dst (.binOp op t x (.const (.int k n)) t') σ K=AS (σ.e x) fun u=>As P op t u (.int k n) fun v=>K (σ.put dst v):=Q2
@[go_sem ↓] theorem WA {b}:opX P pos dst (.binOp op t x (.const (.bool b)) t') σ K=AS (σ.e x) fun u=>As P op t u (.bool b) fun v=>K (σ.put dst v):=PC
@[go_sem ↓] theorem W7 {b}:opX P pos dst (.binOp op t x (.const (.string b)) t') σ K=AS (σ.e x) fun u=>As P op t u (.str b) fun v=>K (σ.put dst v):=Q3
@[go_sem ↓] theorem WB:opX P pos dst (.binOp op t x (.const (.pointer none)) t') σ K=AS (σ.e x) fun u=>As P op t u .nilp fun v=>K (σ.put dst v):=PD
@[go_sem ↓] theorem YY:opX P pos dst (.binOp .eql t x (.const (.slice none 0 0)) t') σ K=AS (σ.e x) fun u=>Ud P t u σ (fun b=>K (σ.put dst (.bool b))) ⟨⟩:=SC
@[go_sem ↓] theorem YZ:opX P pos dst (.binOp .neq t x (.const (.slice none 0 0)) t') σ K=AS (σ.e x) fun u=>Ud P t u σ (fun b=>K (σ.put dst (.bool !b))) ⟨⟩:=SD
@[go_sem ↓] theorem au {op}:opX P pos dst (.unOp op t x) σ K=AS (σ.e x) fun u=>Ns op u fun v=>K (σ.put dst v):=Vn
@[go_sem ↓] theorem W8:opX P pos dst (.convert s d x) σ K=AS (σ.e x) fun u=>Gm P s d u σ fun v=>K (σ.put dst v):=Q5
@[go_sem ↓] theorem U2:opX P pos dst (.fieldAddr s x f) σ K=AS (σ.e x) fun u=>faX P s u f fun v=>K (σ.put dst v):=Nv
@[go_sem ↓] theorem Zy:opX P pos dst (.field s x f) σ K=AS (σ.e x) fun u=>fdX P s u f fun v=>K (σ.put dst v):=Tz
@[go_sem ↓] theorem U3:opX P pos dst (.indexAddr t x y) σ K=AS (σ.e x) fun u=>AS (σ.e y) fun v=>iaX P t u v σ fun v=>K (σ.put dst v):=Nx
@[go_sem ↓] theorem Zz {l h}:opX P pos dst (.slice t x l h none) σ K=AS (σ.e x) fun u=>Q8 P σ.T t u (l.map σ.e) (h.map σ.e) fun v=>K (σ.put dst v):=T1
@[go_sem ↓] theorem Z0:opX P pos dst (.index t x y) σ K=AS (σ.e x) fun u=>AS (σ.e y) fun v=>elX P t u v fun v=>K (σ.put dst v):=T0
@[go_sem ↓] theorem W9:opX P pos dst (.extract x i) σ K=AS (σ.e x) fun u=>Q9 u i fun v=>K (σ.put dst v):=RA
@[go_sem ↓] theorem bI:opX P pos dst (.call ⟨.builtin .len,List.toArray [x],List.toArray [t]⟩) σ K=AS (σ.e x) fun u=>HK P t u σ fun v=>K (σ.put dst v):=Xw
@[go_sem ↓] theorem bJ {ts}:opX P pos dst (.call ⟨.builtin .max,List.toArray [x,y],ts⟩) σ K=AS (σ.e x) fun u=>AS (σ.e y) fun v=>JS (fun n m=>if n<m then m else n) u v fun v=>K (σ.put dst v):=Xx
@[go_sem ↓] theorem bK {ts}:opX P pos dst (.call ⟨.builtin .min,List.toArray [x,y],ts⟩) σ K=AS (σ.e x) fun u=>AS (σ.e y) fun v=>JS (fun n m=>if m<n then m else n) u v fun v=>K (σ.put dst v):=Xy
@[go_sem ↓] theorem bL:opX P pos dst (.box t x) σ K=AS (cellsOf (σ.e x)) fun cs=>bxX pos cs dst (.box pos 0) σ K:=X2
@[go_sem ↓] theorem Z1:opX P pos dst (.alloc t) σ K=AJ (0<(tz P t).length) (AS ((tz P t).map zAV) fun vs=>bxX pos (some vs) dst (.box pos 0) σ K):=T9
@[go_sem ↓] theorem Z2 {parts}:opX P pos dst (.build t parts.toArray) σ K=Nz P (ti P t) fun fs=>AJ ((fs.all fun q=>decide (0<tsz P q.2))=true∧0<(tz P t).length) (AS ((tz P t).map zAV) fun vs=>AS (pvs σ parts) fun ps=>bpX P fs vs ps fun v=>K (σ.put dst v)):=UD
@[go_sem ↓] theorem U4:opX P pos dst (.makeSlice t l c) σ K=slX (ti P t) fun e=>AS (σ.e l) fun u=>AS (σ.e c) fun v=>mkX P pos e u v dst σ K:=N0
@[go_sem ↓] theorem aw {L} {wL} {args} {ts}:opL P L pos dst (.call ⟨.value g,args.toArray,ts⟩) σ K wL=AS (σ.e g) fun u=>AS (evs σ args) fun vs=>clX P L pos u vs dst σ K wL:=Vy
@[go_sem ↓] theorem Z3:opX P pos dst (.store t a x) σ K=AS (σ.e a) fun u=>AS (cellsOf (σ.e x)) fun cs=>stX P t u cs σ fun σ'=>K (σ'.put dst .any):=UM
@[go_sem ↓] theorem Ya:opX P pos dst (.call ⟨.builtin .append,List.toArray [x,y],List.toArray [t,t]⟩) σ K=slX (ti P t) fun e=>AS (σ.e x) fun u=>AS (σ.e y) fun v=>apX P pos e u v dst σ K:=SZ
def apE (P:Program) (pos:Nat) (e:TypeId) (u v:AV) (dst:Option Tmp) (σ:St) (K:St→Prop):Prop:=Pe u=true∧match v with
 | .ro rows=>(0<tsz P e∧(tz P e).length =tsz P e)∧∃z,roZ z (tsz P e) rows fun rows=>(rows.length*P.bytesOf e≤140737488355328∧rows.length≤maxLen)∧look σ.t (pos*16)=none∧K ((σ.setT (pos*16) ⟨rows,some (tsz P e),0,z⟩).put dst (.own (pos*16)))
 |_=>False
theorem Sm {z} {sz} {rows} {K K'} (h:∀r,K r→K' r) (k:roZ z sz rows K):roZ z sz rows K':=by
 cases z
 ·exact⟨k.1,h _ k.2⟩
 ·exact⟨k.1,h _ k.2⟩
def roX (z:Bool) (sz:Nat) (rows:List (List D)) (K:List (List D)→Prop):Prop:=roZ z sz rows K
@[go_sem] theorem bM {sz} {rows} {K}:roX false sz rows K=AJ (∀row ∈ rows,row.length=sz∧∀d ∈ row,d.flat=true) (K rows):=rfl
@[go_sem] theorem bN {sz:Nat} {rows:List (List D)} {K:List (List D)→Prop}:roX true sz rows K=AJ (∀row ∈ rows,row.length=sz∧∀d ∈ row,d≠ .gone) (HL (fzR rows) fun r=>K r):=by
 simp only [roX,roZ,AJ,EA]
@[go_sem] theorem ax {e:TypeId} {u:AV} {rows:List (List D)}:apE P pos e u (.ro rows) dst σ K=AJ (Pe u=true) (AJ (0<tsz P e∧(tz P e).length =tsz P e) (zX fun z=>roX z (tsz P e) rows fun rows=>AJ (rows.length*P.bytesOf e≤140737488355328∧rows.length≤maxLen) (AJ (look σ.t (pos*16)=none) (HL rows fun rows=>K ((σ.setT (pos*16) ⟨rows,some (tsz P e),0,z⟩).put dst (.own (pos*16))))))):=by simp only [EA]; rfl
@[go_sem ↓] theorem ay:opE P pos dst (.call ⟨.builtin .append,List.toArray [x,y],List.toArray [t,t]⟩) σ K=slX (ti P t) fun e=>AS (σ.e x) fun u=>AS (σ.e y) fun v=>apE P pos e u v dst σ K:=by
 unfold opE
 simp only [Ev,XH,slX,true_and,AS]
 generalize σ.e x=u
 generalize σ.e y=v
 refine propext ⟨?_,?_⟩
 ·rintro ⟨r,⟨h1,h2⟩,h3,h4,h5⟩
  split at h2
  ·rename_i el rows hel
   obtain⟨h6,z,h7⟩:=h2
   rw [hel]
   refine⟨h1,h6,z,Sm (fun rows h8=>?_) h7⟩
   obtain⟨h9,rfl⟩:=h8
   refine⟨h9,h3.1,?_⟩
   cases dst <;> exact h5
  ·exact h2.elim
 ·intro h
  generalize hti:ti P t=q at h ⊢
  cases q with
  | sl el=>
   cases v with
   | ro rows=>
    obtain⟨h1,h6,z,h7⟩:=h
    cases z with
    |false=>
     obtain⟨h8,h9,h10,h5⟩:=h7
     exact⟨_,⟨h1,h6,false,h8,h9,rfl⟩,⟨h10,trivial⟩,trivial,by cases dst <;> exact h5⟩
    |true=>
     obtain⟨h8,h9,h10,h5⟩:=h7
     exact⟨_,⟨h1,h6,true,h8,h9,rfl⟩,⟨h10,trivial⟩,trivial,by cases dst <;> exact h5⟩
   |_=>exact h.2.elim
  |_=>exact h.elim
@[go_sem ↓] theorem az {e:TypeId} {u v:AV}:apX P pos e u v dst σ K=AJ (0<tsz P e∧(tz P e).length =tsz P e) (zX fun z=>Js z e (tsz P e) u σ fun rows σ1=>HI z (tsz P e) v σ1 fun rows2 σ2=>
   AJ ((rows.length+rows2.length)*P.bytesOf e≤140737488355328∧rows.length+rows2.length≤maxLen) (AJ (look σ2.t (pos*16)=none) (HL (rows++rows2) fun rows=>K ((σ2.setT (pos*16) ⟨rows,some (tsz P e),0,z⟩).put dst (.own (pos*16)))))):=by simp only [EA]; rfl
end
attribute [go_sem] zAV
section
variable {P:Program} {σ:St} {K:St→Prop} {ops:Array Oper} {base cut i:Nat}
@[go_sem] theorem WC {x} {xs b} {w1} {w2} {w3} {w4}:FM P ops base cut i (List.append (x::xs) b) σ K w1 w2 w3 w4=FM P ops base cut i (x::List.append xs b) σ K w1 ⟨⟩ w3 w4:=rfl
@[go_sem] theorem XA {b} {w1} {w2} {w3} {w4}:FM P ops base cut i (List.append [] b) σ K w1 w2 w3 w4=FM P ops base cut i b σ K w1 ⟨⟩ w3 w4:=rfl
@[go_sem] theorem XB {a b c} {w1} {w2} {w3} {w4}:FM P ops base cut i (List.append (List.append a b) c) σ K w1 w2 w3 w4=FM P ops base cut i (List.append a (List.append b c)) σ K w1 ⟨⟩ w3 w4:=by
 unfold FM; rw [show List.append (List.append a b) c=List.append a (List.append b c) from List.append_assoc a b c]
@[go_sem ↓] theorem Sn {dst} {op} {type} {ps} {after} {g} {rest b} {K}:EQ (List.toArray (List.append (⟨some dst,op,type,ps,after,g⟩::rest) b)) 0 K=K dst:=by
 show EQ (List.toArray (_::List.append rest b)) 0 K=K dst
 exact O6
@[go_sem ↓] theorem So {o} {rest b} {j} {K}:EQ (List.toArray (List.append (o::rest) b)) (j+1) K=EQ (List.toArray (List.append rest b)) j K:=by
 show EQ (List.toArray (o::List.append rest b)) (j+1) K=_
 exact O7
@[go_sem ↓] theorem TD {b} {j} {K}:EQ (List.toArray (List.append [] b)) j K=EQ b.toArray j K:=rfl
@[go_sem ↓] theorem TE {a b c} {j} {K}:EQ (List.toArray (List.append (List.append a b) c)) j K=EQ (List.toArray (List.append a (List.append b c))) j K:=by
 rw [show List.append (List.append a b) c=List.append a (List.append b c) from List.append_assoc a b c]
@[go_sem] theorem Z4 {a b:List Oper} {p:Oper→Bool}:List.all (List.append a b) p=(List.all a p&&List.all b p):=List.all_append
end
end Go.Proofs.Ytgigfdghecdlgaa.Ab
