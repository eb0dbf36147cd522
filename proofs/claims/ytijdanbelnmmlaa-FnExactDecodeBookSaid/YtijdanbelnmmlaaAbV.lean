/-
  The abstract walk as rules, third part: memory, calls, results, loops.
-/
import Derived.Test.YtijdanbelnmmlaaAbU
import Derived.IntWalk
namespace Go.Proofs.Ytijdanbelnmmlaa.Ab
set_option linter.unusedVariables false
open Go.RowKit
section
variable {P:Program} {σ:St} {K:St→Prop} {Q:AE→St→Prop}
def Wb (t:TI):Prop:=match t with| .str =>True|_=>False
@[go_sem] theorem Ym:Wb .str =True:=rfl
@[go_sem] theorem Ua {t} {s} {K}:Hs P t (.str s) σ K=AJ (Wb (ti P t)) (K (.int .i64 s.size)):=by
 simp only [Hs,H6,AJ,Wb]
 generalize ti P t=q
 cases q <;> simp
@[go_sem] theorem Wc {t} {rows} {K}:Hs P t (.ro rows) σ K=slX (ti P t) fun _=>K (.int .i64 rows.length):=by
 simp only [Hs,H6,slX]
 generalize ti P t=q
 cases q <;> simp
@[go_sem] theorem Ss {t} {K}:Hs P t .nils σ K=slX (ti P t) fun _=>K (.int .i64 0):=by
 simp only [Hs,H6,slX]
 generalize ti P t=q
 cases q <;> simp
@[go_sem] theorem Ub {t} {b n sz} {K}:Hs P t (.bsl b n sz) σ K=slX (ti P t) fun _=>K (.int .i64 n):=by
 simp only [Hs,H6,slX]
 generalize ti P t=q
 cases q <;> simp
@[go_sem] theorem Uc {t} {t'} {K}:Hs P t (.own t') σ K=slX (ti P t) fun _=>optX (σ.T t') fun tk=>K (.int .i64 tk.rows.length):=by
 simp only [Hs,H6,slX,optX]
 generalize ti P t=q
 cases q with
 |sl e=>exact propext ⟨fun ⟨v,⟨tk,h1,h2⟩,h3⟩=>⟨tk,h1,h2 ▸ h3⟩,fun ⟨tk,h1,h3⟩=>⟨_,⟨tk,h1,rfl⟩,h3⟩⟩
 |_=>simp
@[go_sem] theorem Ud {t} {t' g} {p} {K}:Hs P t (.sub t' g p) σ K=slX (ti P t) fun _=>optX (subR σ.T t' g p) fun rows=>K (.int .i64 rows.length):=by
 simp only [Hs,H6,slX,optX]
 generalize ti P t=q
 cases q with
 |sl e=>exact propext ⟨fun ⟨v,⟨tk,h1,h2⟩,h3⟩=>⟨tk,h1,h2 ▸ h3⟩,fun ⟨tk,h1,h3⟩=>⟨_,⟨tk,h1,rfl⟩,h3⟩⟩
 |_=>simp
def Pj (t:TI) (K:TypeId→TypeId→Prop):Prop:=match t with| .map k e=>K k e|_=>False
@[go_sem] theorem Yn {k e} {K}:Pj (.map k e) K=K k e:=rfl
def Ob (o:Option (List AV)) (K:KT→List (List D)→Prop):Prop:=∃q rows,o=some [.mpc q rows] ∧K q rows
@[go_sem] theorem Xf {q} {rows} {K}:Ob (some [.mpc q rows]) K=K q rows:=by
 simp only [Ob,Option.some.injEq,List.cons.injEq,AV.mpc.injEq,and_true]
 exact propext ⟨fun ⟨q',r',⟨h1,h2⟩,h3⟩=>h1 ▸ h2 ▸ h3,fun h=>⟨q,rows,⟨rfl,rfl⟩,h⟩⟩
@[go_sem] theorem Ue {t} {b} {K}:Hs P t (.mpr b) σ K=Pj (ti P t) fun _ _=>Ob (σ.B b) fun _ rows=>K (.int .i64 rows.length):=by
 simp only [Hs,H6,Pj,Ob]
 generalize ti P t=q
 cases q with
 |map k e=>exact propext ⟨fun ⟨v,⟨q,rows,h1,h2⟩,h3⟩=>⟨q,rows,h1,h2 ▸ h3⟩,fun ⟨q,rows,h1,h3⟩=>⟨_,⟨q,rows,h1,rfl⟩,h3⟩⟩
 |_=>simp
def Ht {α:Type} (v:α) (K:α→Prop):Prop:=∃y,v=y∧K y
theorem Ee {α:Type} {v:α} {K:α→Prop}:Ht v K=K v:=by simp [Ht]
def bxX (pos:Nat) (cs:Option (List AV)) (dst:Option Tmp) (v:AV) (σ:St) (K:St→Prop):Prop:=optX cs fun vs=>AJ (look σ.b pos=none) (K ((σ.put dst v).setB pos vs))
def bxZ (pos:Nat) (cs:Option (List AV)) (dst:Option Tmp) (v:AV) (σ:St) (K:St→Prop):Prop:=bxX pos cs dst v σ K
theorem Wd {pos} {cs} {dst} {v}:bxX pos cs dst v σ K=AY cs fun o=>bxZ pos o dst v σ K:=rfl
@[go_sem ↓] theorem Yo {pos} {vs} {dst} {v}:bxZ pos (some vs) dst v σ K=AJ (look σ.b pos=none) (K ((σ.put dst v).setB pos vs)):=by simp [bxZ,bxX,optX]
theorem Fo {dst} {v} {pos} {vs}:σ.add dst ⟨v,[],[(pos,vs)]⟩=(σ.put dst v).setB pos vs:=by cases dst <;> rfl
attribute [go_sem] cellsOf
theorem Yp {pos} {dst} {t} {x}:opX P pos dst (.box t x) σ K=bxX pos (cellsOf (σ.e x)) dst (.box pos 0) σ K:=by
 rw [JN (fun _=>by simp only [aop])]
 simp only [Ev,bxX]
 split
 ·rename_i vs h
  rw [h,EX]
  refine propext ⟨?_,?_⟩
  ·rintro ⟨r,rfl,-,h1,h2⟩
   exact⟨h1.1,by rw [← Fo]; exact h2⟩
  ·rintro ⟨h1,h2⟩
   exact⟨_,rfl,trivial,⟨h1,trivial⟩,by rw [Fo]; exact h2⟩
 ·rename_i h
  rw [h,Mf]
  simp
theorem Uf {pos} {dst} {t}:opX P pos dst (.alloc t) σ K=AJ (0<(tz P t).length) (bxX pos (some ((tz P t).map zAV)) dst (.box pos 0) σ K):=by
 rw [JN (fun _=>by simp only [aop])]
 simp only [Ev,bxX,EX,AJ]
 refine propext ⟨?_,?_⟩
 ·rintro ⟨r,⟨vs,rfl,h0,rfl⟩,-,h1,h2⟩
  exact⟨h0,h1.1,by rw [← Fo]; exact h2⟩
 ·rintro ⟨h0,h1,h2⟩
  exact⟨_,⟨_,rfl,h0,rfl⟩,trivial,⟨h1,trivial⟩,by rw [Fo]; exact h2⟩
attribute [go_sem] zAV
def pvs (σ:St):List (Nat × Operand)→List (Nat × AV)
 | [] =>[]
 |x::xs=>(x.1,σ.e x.2)::pvs σ xs
theorem QP {xs}:pvs σ xs=xs.map fun x=>(x.1,σ.e x.2):=by induction xs with|nil=>rfl|cons x xs ih=>simp [pvs,ih]
attribute [go_sem] pvs CJ
def bsX (P:Program) (pos:Nat) (e:TypeId) (n:Nat) (parts:List (Nat × AV)) (dst:Option Tmp) (σ:St) (K:St→Prop):Prop:=
 AJ (parts.length=n∧n*tsz P e≤16777216∧0<tsz P e∧(tz P e).length =tsz P e) (bxX pos (CJ (tsz P e) 0 parts) dst (.bsl pos n (tsz P e)) σ K)
@[go_sem ↓] theorem Ug {pos} {dst} {t} {n} {parts}:opX P pos dst (.buildSlice t n parts.toArray) σ K=slX (ti P t) fun e=>AY (pvs σ parts) fun ps=>bsX P pos e n ps dst σ K:=by
 rw [JN (fun _=>by simp only [aop])]
 simp only [Ev,slX,AY,QP]
 generalize ti P t=q
 split
 ·simp only [Rx,bsX,bxX,AJ]
  refine propext ⟨?_,?_⟩
  ·rintro ⟨r,⟨h1,h2,h3,h4,h5⟩,-,h6,h7⟩
   split at h5
   ·rename_i vs h8
    subst h5
    rw [h8,EX]
    exact⟨⟨h1,h2,h3,h4⟩,h6.1,by rw [← Fo]; exact h7⟩
   ·exact h5.elim
  ·rintro ⟨⟨h1,h2,h3,h4⟩,vs,h8,h6,h7⟩
   exact⟨⟨_,[],[(pos,vs)]⟩,⟨h1,h2,h3,h4,by rw [h8]⟩,trivial,⟨h6,trivial⟩,by rw [Fo]; exact h7⟩
 ·simp
attribute [go_sem] bsX
attribute [go_sem] Gu
def Oc (P:Program) (t:TI) (K:List (Nat × TypeId)→Prop):Prop:=match t with| .st fs=>K fs| .arr n el=>AJ (0<tsz P el) (K (Gu (tsz P el) el n 0))|_=>False
@[go_sem] theorem Uh {fs} {K}:Oc P (.st fs) K=K fs:=rfl
def bpX (P:Program) (fs:List (Nat × TypeId)) (vs:List AV) (ps:List (Nat × AV)) (K:AV→Prop):Prop:=∃ws,GG P fs vs ps=some ws∧K (.agg ws)
@[go_sem] theorem Ui {fs} {vs} {K}:bpX P fs vs [] K=K (.agg vs):=by simp [bpX,GG]
@[go_sem] theorem Su {fs} {vs} {f} {v} {ps} {K}:bpX P fs vs ((f,v)::ps) K=optX fs[f]? fun q=>optX (cellsOf v) fun cs=>AJ (cs.length=tsz P q.2 ∧q.1 +cs.length≤vs.length) (AY (splice vs q.1 cs) fun vs=>bpX P fs vs ps K):=by
 unfold bpX optX AJ AY
 rw [GG]
 cases fs[f]? with
 |none=>simp
 | some q=>
  cases cellsOf v with
  |none=>simp
  | some cs=>
   by_cases hc:cs.length=tsz P q.2 ∧q.1 +cs.length≤vs.length
   ·simp only [if_pos hc,Option.some.injEq,exists_eq_left']
    exact propext ⟨fun h=>⟨hc,h⟩,fun h=>h.2⟩
   ·simp only [if_neg hc,Option.some.injEq,exists_eq_left']
    refine propext ⟨?_,?_⟩
    ·rintro ⟨_,h,_⟩; cases h
    ·intro h; exact absurd h.1 hc
theorem Uj {pos} {dst} {t} {parts}:opX P pos dst (.build t parts.toArray) σ K=Oc P (ti P t) fun fs=>AJ ((fs.all fun q=>decide (0<tsz P q.2))=true∧0<(tz P t).length) (bpX P fs ((tz P t).map zAV) (pvs σ parts) fun v=>K (σ.put dst v)):=by
 rw [D7 (p:=fun v=>Oc P (ti P t) fun fs=>AJ ((fs.all fun q=>decide (0<tsz P q.2))=true∧0<(tz P t).length) (bpX P fs ((tz P t).map zAV) (pvs σ parts) fun u=>v=u)) (fun _=>by simp only [aop]) (fun r=>by
  simp only [Ev,Oc,AJ,bpX,QP]
  generalize ti P t=q
  cases q with
  |st fs=>
   refine propext ⟨?_,?_⟩
   ·rintro ⟨h1,h2,vs,h3,rfl⟩; exact⟨_,⟨⟨h1,h2⟩,vs,h3,rfl⟩,rfl⟩
   ·rintro ⟨v,⟨⟨h1,h2⟩,vs,h3,rfl⟩,rfl⟩; exact⟨h1,h2,vs,h3,rfl⟩
  |arr n el=>
   refine propext ⟨?_,?_⟩
   ·rintro ⟨h0,h1,h2,vs,h3,rfl⟩; exact⟨_,⟨h0,⟨h1,h2⟩,vs,h3,rfl⟩,rfl⟩
   ·rintro ⟨v,⟨h0,⟨h1,h2⟩,vs,h3,rfl⟩,rfl⟩; exact⟨h0,h1,h2,vs,h3,rfl⟩
  |_=>simp)]
 unfold Oc AJ bpX
 generalize ti P t=q
 cases q with
 |st fs=>
  refine propext ⟨?_,?_⟩
  ·rintro ⟨v,⟨h1,vs,h3,rfl⟩,hk⟩; exact⟨h1,vs,h3,hk⟩
  ·rintro ⟨h1,vs,h3,hk⟩; exact⟨_,⟨h1,vs,h3,rfl⟩,hk⟩
 |arr n el=>
  refine propext ⟨?_,?_⟩
  ·rintro ⟨v,⟨h0,h1,vs,h3,rfl⟩,hk⟩; exact⟨h0,h1,vs,h3,hk⟩
  ·rintro ⟨h0,h1,vs,h3,hk⟩; exact⟨_,⟨h0,h1,vs,h3,rfl⟩,hk⟩
 |_=>simp
attribute [go_sem] zD zDs
@[go_sem] theorem Yq {n}:leX n n=True:=eq_true (Int.le_refl n)
def mkX (P:Program) (pos:Nat) (e:TypeId) (n m:AV) (dst:Option Tmp) (σ:St) (K:St→Prop):Prop:=match n,m with
 | .int .i64 n,.int .i64 m=>AJ (leX n m) (AJ (0≤n∧m.toNat*P.bytesOf e≤281474976710656∧m≤4611686018427387904) (AJ (0<tsz P e∧(tz P e).length =tsz P e) (optX (zDs (tz P e)) fun z=>AJ (look σ.t (pos*16)=none) (Ht (List.replicate n.toNat z) fun rows=>K ((σ.put dst (.own (pos*16))).setT (pos*16) ⟨rows,some (tsz P e),0,false⟩)))))
 |_,_=>False
@[go_sem] theorem Uk {pos} {e} {n m} {dst}:mkX P pos e (.int .i64 n) (.int .i64 m) dst σ K=AJ (leX n m) (AJ (0≤n∧m.toNat*P.bytesOf e≤281474976710656∧m≤4611686018427387904) (AJ (0<tsz P e∧(tz P e).length =tsz P e) (optX (zDs (tz P e)) fun z=>AJ (look σ.t (pos*16)=none) (Ht (List.replicate n.toNat z) fun rows=>K ((σ.put dst (.own (pos*16))).setT (pos*16) ⟨rows,some (tsz P e),0,false⟩))))):=rfl
theorem QQ {dst} {v} {n} {tk}:σ.add dst ⟨v,[(n,tk)],[]⟩=(σ.put dst v).setT n tk:=by cases dst <;> rfl
theorem Od {pos:Nat} {dst:Option Tmp} {t:TypeId} {l c:Operand}:opX P pos dst (.makeSlice t l c) σ K=slX (ti P t) fun e=>mkX P pos e (σ.e l) (σ.e c) dst σ K:=by
 rw [JN (fun _=>by simp only [aop])]
 simp only [Ev,slX,mkX]
 generalize ti P t=q
 cases q with
 | sl e=>
  generalize σ.e l=u
  generalize σ.e c=v
  split
  ·rename_i el n m h1
   cases h1
   simp only [VZ,AJ,optX,Ee]
   refine propext ⟨?_,?_⟩
   ·rintro ⟨r,⟨k1,k2,k3,k4,k5,k6,z,k7,rfl⟩,k8,-,k9⟩
    exact⟨k1,⟨k2,k3,k4⟩,⟨k5,k6⟩,z,k7,k8.1,by rw [← QQ]; exact k9⟩
   ·rintro ⟨k1,⟨k2,k3,k4⟩,⟨k5,k6⟩,z,k7,k8,k9⟩
    exact⟨⟨_,[(pos*16,⟨_,some (tsz P e),0,false⟩)],[]⟩,⟨k1,k2,k3,k4,k5,k6,z,k7,rfl⟩,⟨k8,trivial⟩,trivial,by rw [QQ]; exact k9⟩
  ·rename_i hno
   have:∀p:Prop,(∃r:Res,False∧p)=False:=fun p=>by simp
   simp only [false_and,exists_false]
   refine propext ⟨False.elim,fun h=>?_⟩
   split at h
   ·exact hno e _ _ rfl rfl rfl
   ·exact h
 |_=>simp
def Mh (P:Program) (L:Bool) (pos:Nat) (f:FuncId) (args:List AV) (as:Option (List AV)) (dst:Option Tmp) (σ:St) (K:St→Prop) (_:Wrap L):Prop:=
 ((∃bs rv,as=some bs∧AC P f bs rv∧B1 σ (conv (pos*16) rv).2 ∧K (σ.add dst ⟨(conv (pos*16) rv).1,(conv (pos*16) rv).2,[]⟩))∨
  ∃bs rv qt qb,AG P f bs [] [] rv qt qb∧cls (fun _=>none) (fun _=>none) args=some bs∧((qt=[] ∧MC rv=true∧K (σ.add dst ⟨rv,[],[]⟩))∨(∃q tk,qt=[(q,tk)] ∧rv= .own q∧tk.gen=0∧look σ.t (pos*16)=none∧K (σ.add dst ⟨.own (pos*16),[(pos*16,tk)],[]⟩))∨(∃q k,rv= .box q k)∧K (σ.add dst ⟨.rop [] 0,[],[]⟩)))∨
 (L=true∧P4 P f args σ fun v σ'=>K (σ'.put dst v))
def clX (P:Program) (L:Bool) (pos:Nat) (g:AV) (args:List AV) (dst:Option Tmp) (σ:St) (K:St→Prop) (w:Wrap L):Prop:=match g with
 | .fn f caps=>Mh P L pos f (args++caps) (cls σ.T σ.B (args++caps)) dst σ K w
 |_=>False
@[go_sem] theorem We {L} {wL} {pos} {f} {caps args} {dst}:clX P L pos (.fn f caps) args dst σ K wL=AY (args++caps) fun vs=>AY (cls σ.T σ.B vs) fun r=>Mh P L pos f vs r dst σ K wL:=rfl
theorem Wf {L} {wL} {pos} {dst} {g} {args} {ts}:opL P L pos dst (.call ⟨.value g,args.toArray,ts⟩) σ K wL=clX P L pos (σ.e g) (evs σ args) dst σ K wL:=by
 have h1:opX P pos dst (.call ⟨.value g,args.toArray,ts⟩) σ K=match σ.e g with
   | .fn f caps=>(∃bs rv,cls σ.T σ.B (evs σ args++caps)=some bs∧AC P f bs rv∧B1 σ (conv (pos*16) rv).2 ∧K (σ.add dst ⟨(conv (pos*16) rv).1,(conv (pos*16) rv).2,[]⟩))∨
     ∃bs rv qt qb,AG P f bs [] [] rv qt qb∧cls (fun _=>none) (fun _=>none) (evs σ args++caps)=some bs∧((qt=[] ∧MC rv=true∧K (σ.add dst ⟨rv,[],[]⟩))∨(∃q tk,qt=[(q,tk)] ∧rv= .own q∧tk.gen=0∧look σ.t (pos*16)=none∧K (σ.add dst ⟨.own (pos*16),[(pos*16,tk)],[]⟩))∨(∃q k,rv= .box q k)∧K (σ.add dst ⟨.rop [] 0,[],[]⟩))
   |_=>False:=by
  rw [JN (fun _=>by simp only [aop])]
  simp only [Ev,KY,NC]
  generalize σ.e g=v
  split
  ·refine propext ⟨?_,?_⟩
   ·rintro ⟨r,h1,h2,-,h4⟩
    rcases h1 with h1|h1
    ·split at h1
     ·rename_i as has
      obtain⟨rv,h5,rfl⟩:=h1
      exact .inl ⟨as,rv,has,h5,h2,h4⟩
     ·exact h1.elim
    ·obtain⟨as,rv,qt,qb,h5,h6,h7⟩:=h1
     rcases h7 with ⟨h7,h8,rfl⟩|⟨q,tk,h7,h8,h9,rfl⟩|⟨h7,rfl⟩
     ·exact .inr ⟨as,rv,qt,qb,h5,h6,.inl ⟨h7,h8,h4⟩⟩
     ·exact .inr ⟨as,rv,qt,qb,h5,h6,.inr (.inl ⟨q,tk,h7,h8,h9,h2.1,h4⟩)⟩
     ·exact .inr ⟨as,rv,qt,qb,h5,h6,.inr (.inr ⟨h7,h4⟩)⟩
   ·rintro (⟨bs,rv,h1,h5,h2,h4⟩|⟨bs,rv,qt,qb,h5,h6,⟨h7,h8,h4⟩|⟨q,tk,h7,h8,h9,h2,h4⟩|⟨h7,h4⟩⟩)
    ·exact⟨⟨(conv (pos*16) rv).1,(conv (pos*16) rv).2,[]⟩,.inl (by rw [h1]; exact⟨rv,h5,rfl⟩),h2,trivial,h4⟩
    ·exact⟨⟨rv,[],[]⟩,.inr ⟨bs,rv,qt,qb,h5,h6,.inl ⟨h7,h8,rfl⟩⟩,trivial,trivial,h4⟩
    ·exact⟨⟨.own (pos*16),[(pos*16,tk)],[]⟩,.inr ⟨bs,rv,qt,qb,h5,h6,.inr (.inl ⟨q,tk,h7,h8,h9,rfl⟩)⟩,⟨h2,trivial⟩,trivial,h4⟩
    ·exact⟨⟨.rop [] 0,[],[]⟩,.inr ⟨bs,rv,qt,qb,h5,h6,.inr (.inr ⟨h7,rfl⟩)⟩,trivial,trivial,h4⟩
  ·simp
 have h2:opL P L pos dst (.call ⟨.value g,args.toArray,ts⟩) σ K wL=(opX P pos dst (.call ⟨.value g,args.toArray,ts⟩) σ K∨(L=true∧Gw P ⟨dst,.call ⟨.value g,args.toArray,ts⟩,0, "",#[],none⟩ σ K)):=by
  have hA:Kd ⟨dst,.call ⟨.value g,args.toArray,ts⟩,0, "",#[],none⟩=false:=rfl
  have hS:SliK P pos ⟨dst,.call ⟨.value g,args.toArray,ts⟩,0, "",#[],none⟩ σ K=False:=rfl
  unfold opL Jw opX
  rw [hA,hS]; simp
 rw [h2,h1]
 unfold clX Mh Gw
 simp only [NC]
 generalize σ.e g=v
 cases v <;> simp
attribute [go_sem] cl cls toD toDs toA toAs Dg C7 Option.map_some Option.map_none
theorem Ul {pos} {f} {args bs} {dst} {rv} (h:AC P f bs rv) (hf:B1 σ (conv (pos*16) rv).2) (hk:K (σ.add dst ⟨(conv (pos*16) rv).1,(conv (pos*16) rv).2,[]⟩)) {L} {wL}:Mh P L pos f args (some bs) dst σ K wL:=
 .inl (.inl ⟨bs,rv,rfl,h,hf,hk⟩)
@[go_sem] theorem Wg:B1 σ [] =True:=rfl
@[go_sem] theorem Vj {n} {tk} {l}:B1 σ ((n,tk)::l)=(look σ.t n=none∧B1 σ l):=rfl
attribute [go_sem] conv Cu addT addB
@[go_sem] theorem Yr {s t b} {d} {r}:St.add ⟨s,t,b⟩ (some d) r=⟨(d,r.v)::s,addT t r.t,addB b r.b⟩:=rfl
@[go_sem] theorem Ys {s t b} {r}:St.add ⟨s,t,b⟩ none r=⟨s,addT t r.t,addB b r.b⟩:=rfl
section
variable {z:Bool}
@[go_sem] theorem Um {K}:Ax z [] σ K=K [] σ:=by rw [Ax]
@[go_sem] theorem Un {k} {n} {vs} {K}:Ax z (.int k n::vs) σ K=Ax z vs σ fun ds σ'=>K (.int k n::ds) σ':=by rw [Ax]
@[go_sem] theorem Sv {b} {vs} {K}:Ax z (.bool b::vs) σ K=Ax z vs σ fun ds σ'=>K (.bool b::ds) σ':=by rw [Ax]
@[go_sem] theorem Uo {s} {vs} {K}:Ax z (.str s::vs) σ K=Ax z vs σ fun ds σ'=>K (.str s::ds) σ':=by rw [Ax]
@[go_sem] theorem Sw {vs} {K}:Ax z (.nils ::vs) σ K=Ax z vs σ fun ds σ'=>K (Mv z::ds) σ':=by rw [Ax]
@[go_sem] theorem bW:Mv false= .sl [] :=rfl
@[go_sem] theorem bX:Mv true= .fz [] :=rfl
@[go_sem] theorem Sx {vs} {K}:Ax z (.nilp ::vs) σ K=Ax z vs σ fun ds σ'=>K (.nilp ::ds) σ':=by rw [Ax]
@[go_sem] theorem Wh {rows} {vs} {K}:Ax z (.ro rows::vs) σ K=AJ (z=true) (Ax z vs σ fun ds σ'=>K (.fz rows::ds) σ'):=by rw [Ax]; rfl
@[go_sem] theorem Up {ws} {off} {vs} {K}:Ax z (.rop ws off::vs) σ K=AJ (z=true) (optX (unD (.rop ws off)) fun d=>Ax z vs σ fun ds σ'=>K (d::ds) σ'):=by rw [Ax]; rfl
@[go_sem] theorem Uq {b n sz} {vs} {K}:Ax z (.bsl b n sz::vs) σ K=if n=0 then Ax z vs σ fun ds σ'=>K (Mv z::ds) σ' else Qf z b n sz σ fun rows σ1=>Ax z vs σ1 fun ds σ'=>K (.sl rows::ds) σ':=by rw [Ax]
@[go_sem ↓] theorem aA {b n sz} {K}:Qf z b n sz σ K=AJ (1000≤b) (AJ (0<sz) (optX (σ.B b) fun vs=>optX (Gi z vs) fun ds=>AJ (ds.length=n*sz) (AY (BV sz n ds) fun rows=>K rows (σ.killB b)))):=rfl
@[go_sem] theorem Yt {s t b} {x}:St.killB ⟨s,t,b⟩ x=⟨s,t,(x,none)::b⟩:=rfl
attribute [go_sem] GH litD Gi unD unDs
@[go_sem] theorem Ur {t} {vs} {K}:Ax z (.own t::vs) σ K=optX (σ.T t) fun tk=>AJ (okZ z tk=true) (Ax z vs (σ.killT t) fun ds σ'=>K (.sl tk.rows::ds) σ'):=by rw [Ax]; rfl
end
def stX (P:Program) (t:TypeId) (a:AV) (cs:Option (List AV)) (σ:St) (K:St→Prop):Prop:=
 optX cs fun cs=>AJ (cs.length=tsz P t∧0<tsz P t∧cs.all AV.one=true) (match a with
  | .box b off=>∃vs,σ.B b=some vs∧isMp vs=false∧off+cs.length≤vs.length∧K (σ.setB b (splice vs off cs))
  | .elt t' sz i off=>∃tk0,σ.T t'=some tk0∧Ax tk0.z cs σ fun ds σ'=>∃tk row,(σ'.T t'=some tk∧tk.z=tk0.z)∧tk.rows[i]? =some row∧row.length=sz∧off+ds.length≤sz∧K (σ'.setT t' ⟨tk.rows.set i (splice row off ds),tk.sz,if CR row off ds=true then tk.gen else tk.gen+1,tk.z⟩)
  | .els t' g p sz i off=>Ax false cs σ fun ds σ'=>∃rows,subR σ'.T t' g p=some rows∧∃row,rows[i]? =some row∧(p≠ [] ∧row.length=sz∧off+ds.length≤sz∧CR row off ds=true)∧∃tk,σ'.T t'=some tk∧K (σ'.setT t' ⟨putR p tk.rows (.sl (rows.set i (splice row off ds))),tk.sz,tk.gen,tk.z⟩)
  |_=>False)
theorem Us {pos} {dst} {t} {a x}:opX P pos dst (.store t a x) σ K=stX P t (σ.e a) (cellsOf (σ.e x)) σ fun σ'=>K (σ'.put dst .any):=by
 unfold opX
 simp only [aop,H8,stX]
 split
 ·rename_i cs h
  rw [h,EX]
  unfold AJ
  refine propext ⟨?_,?_⟩
  ·rintro ⟨h1,h2,h3,h4⟩; exact⟨⟨h1,h2,h3⟩,h4⟩
  ·rintro ⟨⟨h1,h2,h3⟩,h4⟩; exact⟨h1,h2,h3,h4⟩
 ·rename_i h
  rw [h,Mf]
@[go_sem] theorem Ut {t} {b off} {cs}:stX P t (.box b off) (some cs) σ K=AJ (cs.length=tsz P t∧0<tsz P t∧cs.all AV.one=true) (optX (σ.B b) fun vs=>AJ (isMp vs=false) (AJ (off+cs.length≤vs.length) (AY (splice vs off cs) fun vs'=>K (σ.setB b vs')))):=by
 rw [stX,EX]; rfl
@[go_sem] theorem Uu {t:TypeId} {t' g sz i off:Nat} {p:Pth} {cs:List AV}:stX P t (.els t' g p sz i off) (some cs) σ K=AJ (cs.length=tsz P t∧0<tsz P t∧cs.all AV.one=true) (Ax false cs σ fun ds σ'=>optX (subR σ'.T t' g p) fun rows=>optX rows[i]? fun row=>AJ (p≠ [] ∧row.length=sz∧off+ds.length≤sz∧CR row off ds=true) (optX (σ'.T t') fun tk=>Ht (putR p tk.rows (.sl (rows.set i (splice row off ds)))) fun rows'=>K (σ'.setT t' ⟨rows',tk.sz,tk.gen,tk.z⟩))):=by
 rw [stX,EX]
 simp only [AJ,optX,Ee]
@[go_sem] theorem Uv {t:TypeId} {t' sz i off:Nat} {cs:List AV}:stX P t (.elt t' sz i off) (some cs) σ K=AJ (cs.length=tsz P t∧0<tsz P t∧cs.all AV.one=true) (optX (σ.T t') fun tk0=>Ax tk0.z cs σ fun ds σ'=>optX (σ'.T t') fun tk=>AJ (tk.z=tk0.z) (optX tk.rows[i]? fun row=>AJ (row.length=sz∧off+ds.length≤sz) (Ht (tk.rows.set i (splice row off ds)) fun rows=>K (σ'.setT t' ⟨rows,tk.sz,if CR row off ds=true then tk.gen else tk.gen+1,tk.z⟩)))):=by
 rw [stX,EX]
 simp only [AJ,optX,Ee]
 congr 1
 congr 1
 funext tk0
 congr 1
 congr 1
 funext ds σ'
 refine propext ⟨?_,?_⟩
 ·rintro ⟨tk,row,⟨h1,h0⟩,h2,h3,h4,h5⟩; exact⟨tk,h1,h0,row,h2,⟨h3,h4⟩,h5⟩
 ·rintro ⟨tk,h1,h0,row,h2,⟨h3,h4⟩,h5⟩; exact⟨tk,row,⟨h1,h0⟩,h2,h3,h4,h5⟩
section
variable {z:Bool}
@[go_sem] theorem Ra {e} {sz} {K}:KZ z e sz .nils σ K=K [] σ:=rfl
@[go_sem] theorem Sy {e} {sz b n sz'} {K}:KZ z e sz (.bsl b n sz') σ K=if n=0 then K [] σ else AJ (sz'=sz) (Qf z b n sz σ K):=rfl
@[go_sem] theorem Sz {e} {sz t} {K}:KZ z e sz (.own t) σ K=optX (σ.T t) fun tk=>AJ (tk.sz=some sz∧okZ z tk=true) (K tk.rows (σ.killT t)):=rfl
@[go_sem] theorem Rb {sz} {K}:Hq z sz .nils σ K=K [] σ:=rfl
@[go_sem] theorem S0 {sz b n sz'} {K}:Hq z sz (.bsl b n sz') σ K=optX (σ.B b) fun vs=>AJ (sz'=sz∧vs.length=n*sz∧vs.all AV.one=true) (Ax z vs σ fun ds σ'=>AY (BV sz n ds) fun rows=>K rows σ'):=by
 simp only [Hq,optX,AJ,AY]
 refine propext ⟨?_,?_⟩
 ·rintro ⟨vs,h1,h2,h3,h4,h5⟩; exact⟨vs,h1,⟨h2,h3,h4⟩,h5⟩
 ·rintro ⟨vs,h1,⟨h2,h3,h4⟩,h5⟩; exact⟨vs,h1,h2,h3,h4,h5⟩
@[go_sem] theorem Uw {sz} {rows} {K}:Hq false sz (.ro rows) σ K=AJ (∀row ∈ rows,row.length=sz∧∀d ∈ row,d.flat=true) (K rows σ):=rfl
@[go_sem] theorem S1 {sz:Nat} {rows:List (List D)} {K:List (List D)→St→Prop}:Hq true sz (.ro rows) σ K=AJ (∀row ∈ rows,row.length=sz∧∀d ∈ row,d≠ .gone) (Ht (fzR rows) fun r=>K r σ):=by
 simp only [Hq,AJ,Ee]
@[go_sem] theorem S2 {sz t} {K}:Hq z sz (.own t) σ K=optX (σ.T t) fun tk=>AJ (okZ z tk=true) (AJ (∀row ∈ tk.rows,row.length=sz) (K tk.rows (σ.killT t))):=by
 simp only [Hq,optX,AJ]
 refine propext ⟨?_,?_⟩
 ·rintro ⟨tk,h1,⟨h2,h3⟩,h4⟩; exact⟨tk,h1,h3,h2,h4⟩
 ·rintro ⟨tk,h1,h3,h2,h4⟩; exact⟨tk,h1,⟨h2,h3⟩,h4⟩
end
attribute [go_sem] BV
def zX (K:Bool→Prop):Prop:=∃z,K z
def zY (K:Bool→Prop) (_:Wrap K):Prop:=∃z,K z
@[go_sem ↓] theorem cR {K}:zX K=zY K ⟨⟩:=rfl
theorem BW {K} {w} (z:Bool) (h:K z):zY K w:=⟨z,h⟩
def apX (P:Program) (pos:Nat) (e:TypeId) (x y:AV) (dst:Option Tmp) (σ:St) (K:St→Prop):Prop:=
 AJ (0<tsz P e∧(tz P e).length =tsz P e) (zX fun z=>KZ z e (tsz P e) x σ fun rows σ1=>Hq z (tsz P e) y σ1 fun rows2 σ2=>
   AJ ((rows.length+rows2.length)*P.bytesOf e≤140737488355328∧rows.length+rows2.length≤maxLen) (AJ (look σ2.t (pos*16)=none) (K ((σ2.setT (pos*16) ⟨rows++rows2,some (tsz P e),0,z⟩).put dst (.own (pos*16))))))
theorem S3 {pos} {dst} {x y} {t}:opX P pos dst (.call ⟨.builtin .append,List.toArray [x,y],List.toArray [t,t]⟩) σ K=slX (ti P t) fun e=>apX P pos e (σ.e x) (σ.e y) dst σ K:=by
 unfold opX
 simp only [aop,O4,slX,true_and]
 generalize ti P t=q
 split
 ·rename_i e
  show (0<tsz P e∧(tz P e).length =tsz P e∧_)=((0<tsz P e∧(tz P e).length =tsz P e)∧_)
  rw [and_assoc]
  congr 1
  congr 1
  show (∃z,_)=(∃z,_)
  congr 1
  funext z
  congr 1
  funext rows σ1
  congr 1
  funext rows2 σ2
  show (_∧_∧_∧_)=((_∧_)∧_∧_)
  rw [and_assoc]
 ·rename_i h
  cases q with
  |sl e=>exact(h e rfl).elim
  |_=>rfl
end
@[go_sem] theorem Xg {v x}:Dh v [] x=x:=by cases v <;> rfl
attribute [go_sem ↓] Wd
attribute [go_sem ↓] Ua Wc Ss Ub Uc Ud Ue Uh Ui Su Uk We Um Un Sv Uo Sw Sx Wh Up Uq Ur Ut Uv Uu Ra Sy Sz Rb S0 Uw S1 S2
end Go.Proofs.Ytijdanbelnmmlaa.Ab
namespace Go.Proofs.Ytijdanbelnmmlaa.Ab
set_option linter.unusedVariables false
open Go.RowKit
section
variable {P:Program} {σ:St} {K:St→Prop} {Q:AE→St→Prop}
@[go_sem] theorem Wi {n} (h1: -9223372036854775808≤n) (h2:n≤9223372036854775807):IntKind.i64.wrap n=n:=Go.IntWalk.i64_in n ⟨h1,h2⟩
@[go_sem ↓] theorem Yu {K}:Hr P σ [] K=K [] :=rfl
@[go_sem ↓] theorem Yv {t} {l} {K}:Hr P σ (.tmp t::l) K=AY (σ.g t) fun v=>Hr P σ l fun vs=>K (v::vs):=rfl
@[go_sem ↓] theorem Xh {a} {t} {l} {K}:Hr P σ (.cell a t::l) K=HG P t (σ.g a) σ fun v=>Hr P σ l fun vs=>K (v::vs):=rfl
@[go_sem] theorem Ux {k} {n m}:BZ (.int k n) (.int k m) σ K=AJ (n=m) (K σ):=by simp [BZ,AJ]
@[go_sem] theorem S4 {b c}:BZ (.bool b) (.bool c) σ K=AJ (b=c) (K σ):=by simp [BZ,AJ]
@[go_sem] theorem Uy {s s'}:BZ (.str s) (.str s') σ K=AJ (s=s') (K σ):=by simp [BZ,AJ]
@[go_sem] theorem S5:BZ .nilp .nilp σ K=K σ:=by simp [BZ]
@[go_sem] theorem S6 {ap} {rows}:BZ .nils (.ow ap rows) σ K=AJ (rows=[]) (K σ):=by simp [BZ,AJ]
@[go_sem] theorem Uz {b n sz} {ap} {rows}:BZ (.bsl b n sz) (.ow ap rows) σ K=AJ (n=0) (AJ (rows=[]) (K σ)):=by simp only [BZ,AJ]
@[go_sem] theorem U0 {t} {ap} {rows}:BZ (.own t) (.ow ap rows) σ K=optX (σ.T t) fun tk=>AJ (tk.rows=rows) (AJ (ap=none∨tk.sz=ap) (AJ (tk.z=false) (K (σ.killT t)))):=by simp only [BZ,AJ,optX]
@[go_sem] theorem U1 {rows rows'}:BZ (.ro rows) (.ro rows') σ K=AJ (rows=rows') (K σ):=by simp only [BZ,AJ]
@[go_sem] theorem aB {rows rows'}:BZ (.ro rows) (.ow none rows') σ K=AJ (rows=[]) (AJ (rows'=[]) (K σ)):=by simp [BZ,AJ]
@[go_sem] theorem U2 {vs} {rs}:BZ (.agg vs) (.agg rs) σ K=FN vs rs σ K:=by simp only [BZ]
@[go_sem] theorem U3 {vs} {rs}:BZ (.tup vs) (.tup rs) σ K=FN vs rs σ K:=by simp only [BZ]
@[go_sem] theorem S7:FN [] [] σ K=K σ:=by simp only [FN]
@[go_sem] theorem Rc {v} {vs} {r} {rs}:FN (v::vs) (r::rs) σ K=BZ v r σ fun σ'=>FN vs rs σ' K:=by simp only [FN]
def Re (r:RV) (σ:St) (vs:List AV):Prop:=match vs with
 | [v] =>BZ v r σ fun _=>True
 |vs=>BZ (.tup vs) r σ fun _=>True
@[go_sem ↓] theorem aC {r}:Re r σ [] =BZ (.tup []) r σ fun _=>True:=rfl
@[go_sem ↓] theorem aD {r} {v}:Re r σ [v] =BZ v r σ fun _=>True:=rfl
@[go_sem ↓] theorem aE {r} {v u} {vs}:Re r σ (v::u::vs)=BZ (.tup (v::u::vs)) r σ fun _=>True:=rfl
def endX (P:Program) (l:List ResultVar) (r:RV) (q:AE) (σ:St):Prop:=match q with| .exit _=>False|_=>Hr P σ l (Re r σ)
@[go_sem ↓] theorem Wj {l} {r}:endX P l r .normal σ=Hr P σ l (Re r σ):=rfl
@[go_sem ↓] theorem aF {l} {r}:endX P l r .ret σ=Hr P σ l (Re r σ):=rfl
theorem Yw (hm:P.follows .mixedOrders =true) {f} {fn} {c} {l} {args} {r} (hf:P.funcs[f]? =some fn) (hb:fn.body=some c) (hr:fn.results=l.toArray) (hnm:(fn.name == "runtime.NumGoroutine")=false)
  (hn:decide (args.length≤fn.ntmps)=true) (hok:Dn fn.ntmps c=true) (h:awp P c (endX P l r) (st0 args)):AC P f args r:=by
 refine PR hm hf hb hnm (of_decide_eq_true hn) hok ?_
 have e:endQ P fn.results.toList r=endX P l r:=by
  rw [hr]
  funext q σ
  cases q <;> rfl
 rw [e]
 exact h
attribute [go_sem] st0 LH
def S8 {X:Type} (R:X→Prop) (inv:X→St) (μ:X→Nat) (x:X) (σ:St):Prop:=∃x',Tm σ (inv x')∧R x'∧μ x'<μ x
def Wl {X:Type} (R:X→Prop) (inv:X→St) (μ:X→Nat) (x:X) (σ:St) (_:Wrap R) (_:Wrap inv) (_:Wrap μ) (_:Wrap x):Prop:=S8 R inv μ x σ
@[go_sem ↓] theorem Xi {X:Type} {R:X→Prop} {inv:X→St} {μ:X→Nat} {x:X} {σ:St}:S8 R inv μ x σ=Wl R inv μ x σ ⟨⟩ ⟨⟩ ⟨⟩ ⟨⟩:=rfl
attribute [go_sem] GJ Nl Ke Kf ren rens Dq EF List.nodup_nil List.all_nil List.all_cons AV.int.injEq AV.bool.injEq AV.str.injEq AV.ro.injEq AV.rop.injEq AV.agg.injEq AV.fn.injEq AV.own.injEq AV.box.injEq AV.bsl.injEq AV.elt.injEq List.cons.injEq Tok.mk.injEq Option.isSome_some exists_eq_left' exists_eq_left
end
attribute [go_sem ↓] Ux S4 Uy S5 S6 Uz U0 U1 U2 U3 S7 Rc
end Go.Proofs.Ytijdanbelnmmlaa.Ab
namespace Go.Proofs.Ytijdanbelnmmlaa.Ab
set_option linter.unusedVariables false
open Go.RowKit
section
variable {P:Program} {σ:St} {K:St→Prop} {pos:Nat} {dst:Option Tmp} {t t' s d:TypeId} {x y a b c g l:Operand} {f i:Nat} {op:BinOp}
def slY (t:TI) (K:TypeId→Prop) (_:Wrap K):Prop:=slX t K
@[go_sem ↓] theorem bY {t} {K}:slX t K=slY t K ⟨⟩:=rfl
@[go_sem] theorem bZ {e} {K} {w}:slY (.sl e) K w=K e:=rfl
def Vk (t:TI) (K:IntKind→Prop) (_:Wrap K):Prop:=OW t K
@[go_sem ↓] theorem Yx {t} {K}:OW t K=Vk t K ⟨⟩:=rfl
@[go_sem] theorem Xj {k} {K} {w}:Vk (.int k) K w=K k:=rfl
def stY (P:Program) (t:TI) (K:List (Nat × TypeId)→Prop) (_:Wrap K):Prop:=Oc P t K
@[go_sem ↓] theorem ba {t} {K}:Oc P t K=stY P t K ⟨⟩:=rfl
@[go_sem] theorem be {fs} {K} {w}:stY P (.st fs) K w=K fs:=rfl
@[go_sem] theorem aG {n} {el} {K} {w}:stY P (.arr n el) K w=AJ (0<tsz P el) (AY (Gu (tsz P el) el n 0) K):=rfl
def Yy (rows:List (List D)) (n:Int) (sz:Nat) (K:List D→Prop) (_:Wrap K):Prop:=OZ rows n sz K
@[go_sem ↓] theorem aH {rows} {n} {sz} {K}:OZ rows n sz K=Yy rows n sz K ⟨⟩:=rfl
def Yz {α:Type} (v:α) (K:α→Prop) (_:Wrap K):Prop:=Ht v K
@[go_sem ↓] theorem aI {α:Type} {v:α} {K:α→Prop}:Ht v K=Yz v K ⟨⟩:=rfl
theorem AU {α:Type} {v} {K} {w} (y:α) (h:v=y) (hk:K y):Yz v K w:=⟨y,h,hk⟩
def Dw (n:Nat) (rs:List RV) (K:List AV→List (Nat × Tok)→Prop) (_:Wrap K):Prop:=K (Cu n rs).1 (Cu n rs).2
def cv1 (n:Nat) (r:RV) (K:AV→List (Nat × Tok)→Prop):Prop:=K (conv n r).1 (conv n r).2
section
variable {n:Nat} {rs us:List RV} {L:List AV→List (Nat × Tok)→Prop} {L1:AV→List (Nat × Tok)→Prop} {w:Wrap L}
@[go_sem] theorem U4:Dw n [] L w=L [] [] :=rfl
@[go_sem] theorem U5 {k} {x}:Dw n (.int k x::rs) L w=Dw n rs (fun vs ts=>L (.int k x::vs) ts) ⟨⟩:=by simp only [Dw,Cu,conv,List.length_nil,Nat.add_zero,List.nil_append]
@[go_sem] theorem S9 {b}:Dw n (.bool b::rs) L w=Dw n rs (fun vs ts=>L (.bool b::vs) ts) ⟨⟩:=by simp only [Dw,Cu,conv,List.length_nil,Nat.add_zero,List.nil_append]
@[go_sem] theorem U6 {x}:Dw n (.str x::rs) L w=Dw n rs (fun vs ts=>L (.str x::vs) ts) ⟨⟩:=by simp only [Dw,Cu,conv,List.length_nil,Nat.add_zero,List.nil_append]
@[go_sem] theorem Wm {x}:Dw n (.ro x::rs) L w=Dw n rs (fun vs ts=>L (.any ::vs) ts) ⟨⟩:=by simp only [Dw,Cu,conv,List.length_nil,Nat.add_zero,List.nil_append]
@[go_sem] theorem TA:Dw n (.nilp ::rs) L w=Dw n rs (fun vs ts=>L (.nilp ::vs) ts) ⟨⟩:=by simp only [Dw,Cu,conv,List.length_nil,Nat.add_zero,List.nil_append]
@[go_sem] theorem Wn {ap} {x}:Dw n (.ow ap x::rs) L w=Dw (n+1) rs (fun vs ts=>L (.own n::vs) ((n,⟨x,ap,0,false⟩)::ts)) ⟨⟩:=by simp only [Dw,Cu,conv,List.length_nil,List.length_cons,Nat.zero_add,List.cons_append,List.nil_append]
@[go_sem] theorem U7:Dw n (.agg us::rs) L w=Dw n us (fun ws ts=>Dw (n+ts.length) rs (fun vs ts'=>L (.agg ws::vs) (ts++ts')) ⟨⟩) ⟨⟩:=by simp only [Dw,Cu,conv]
@[go_sem] theorem U8:Dw n (.tup us::rs) L w=Dw n us (fun ws ts=>Dw (n+ts.length) rs (fun vs ts'=>L (.tup ws::vs) (ts++ts')) ⟨⟩) ⟨⟩:=by simp only [Dw,Cu,conv]
@[go_sem ↓] theorem aJ {k} {x}:cv1 n (.int k x) L1=L1 (.int k x) [] :=rfl
@[go_sem ↓] theorem Y0 {b}:cv1 n (.bool b) L1=L1 (.bool b) [] :=rfl
@[go_sem ↓] theorem aK {x}:cv1 n (.str x) L1=L1 (.str x) [] :=rfl
@[go_sem ↓] theorem bf {x}:cv1 n (.ro x) L1=L1 .any [] :=rfl
@[go_sem ↓] theorem Y1:cv1 n .nilp L1=L1 .nilp [] :=rfl
@[go_sem ↓] theorem bg {ap} {x}:cv1 n (.ow ap x) L1=L1 (.own n) [(n,⟨x,ap,0,false⟩)] :=rfl
@[go_sem ↓] theorem aL:cv1 n (.agg us) L1=Dw n us (fun ws ts=>L1 (.agg ws) ts) ⟨⟩:=by simp only [Dw,cv1,conv]
@[go_sem ↓] theorem aM:cv1 n (.tup us) L1=Dw n us (fun ws ts=>L1 (.tup ws) ts) ⟨⟩:=by simp only [Dw,cv1,conv]
end
attribute [go_sem ↓] U4 U5 S9 U6 Wm TA Wn U7 U8
def Mi (P:Program) (L:Bool) (pos:Nat) (f:FuncId) (args:List AV) (as:Option (List AV)) (dst:Option Tmp) (σ:St) (K:St→Prop) (_:Wrap K) (w:Wrap L):Prop:=Mh P L pos f args as dst σ K w
@[go_sem ↓] theorem Y2 {L} {wL} {f} {args} {as}:Mh P L pos f args as dst σ K wL=Mi P L pos f args as dst σ K ⟨⟩ wL:=rfl
theorem AK {f} {args bs} {w} {rv} (h:AC P f bs rv) (hk:AY (pos*16) fun m=>cv1 m rv fun v ts=>AJ (B1 σ ts) (K (σ.add dst ⟨v,ts,[]⟩))) {L} {wL}:Mi P L pos f args (some bs) dst σ K w wL:=Ul h hk.1 hk.2
theorem ND {f} {args bs} {w} {rv} {o} (h:AG P f bs [] [] rv [] []) (e:cls (fun _=>none) (fun _=>none) args=some bs) (hp:MC rv=true) (hk:K (σ.add dst ⟨rv,[],[]⟩)) {L} {wL}:Mi P L pos f args o dst σ K w wL:=.inl (.inr ⟨bs,rv,[],[],h,e,.inl ⟨rfl,hp,hk⟩⟩)
theorem U9 {f} {args bs} {w} {q} {rows} {sz} {z} {o} (h:AG P f bs [] [] (.own q) [(q,⟨rows,sz,0,z⟩)] []) (e:cls (fun _=>none) (fun _=>none) args=some bs) (hk:AJ (look σ.t (pos*16)=none) (K (σ.add dst ⟨.own (pos*16),[(pos*16,⟨rows,sz,0,z⟩)],[]⟩))) {L} {wL}:Mi P L pos f args o dst σ K w wL:=.inl (.inr ⟨bs,.own q,_,[],h,e,.inr (.inl ⟨q,_,rfl,rfl,rfl,hk.1,hk.2⟩)⟩)
attribute [go_sem] MC
def QR (y:Way) (as:List AV) (pt:List (Nat × Tok)) (pb:List (Nat × List AV)) (qt:List (Nat × Tok)) (qb:List (Nat × List AV)):Bool:=
 decide (((y.rt++y.nt).map (·.2)).Nodup)&&decide (((y.rt++y.nt).map (·.1)).Nodup)&&decide (((y.rb.map (·.2.1))++y.nb.map (·.2)).Nodup)&&decide (((y.rb.map (·.1))++y.nb.map (·.1)).Nodup)&&
 (y.rt.all fun p=>(look pt p.1).isSome)&&(y.rb.all fun p=>(look pb p.1).isSome)&&(y.nt.all fun p=>(look pt p.1).isNone)&&(y.nb.all fun p=>(look pb p.1).isNone)&&decide ((pt.map (·.1)).Nodup)&&decide ((pb.map (·.1)).Nodup)&&
 (pb.all fun p=>(look qb p.1).isSome)&&Gv y.rt y.cv&&(y.md||noZ qt)&&Ry as pt pb&&(y.rt.all fun p=>decide (p.1 <1000)||(look qt p.1).isNone)
def LO:List (Nat × Nat)→List (Nat × Option Tok)→Prop
 | [],_=>True
 |(_,n)::r,t=>look t n=none∧LO r t
def It:List (Nat × Nat)→List (Nat × Option (List AV))→Prop
 | [],_=>True
 |(_,n)::r,t=>look t n=none∧It r t
def QS (y:Way) (args as:List AV) (pt:List (Nat × Tok)) (pb:List (Nat × List AV)) (σ1:St):Prop:=
 LO y.nt σ1.t∧It y.nb σ1.b∧Jf y.rt σ1 pt∧EE y σ1 (σ1.less y) pb∧PasL y (σ1.less y) args as
theorem Jp {t}:∀ {l},LO l t→∀p ∈ l,(look t p.2).isNone =true
 | [],_,p,h=>by cases h
 |(c,n)::l,hf,p,h=>by
  simp only [LO] at hf
  rcases List.mem_cons.1 h with rfl|h
  ·rw [hf.1]; rfl
  ·exact Jp hf.2 p h
theorem Iu {t}:∀ {l},It l t→∀p ∈ l,(look t p.2).isNone =true
 | [],_,p,h=>by cases h
 |(c,n)::l,hf,p,h=>by
  simp only [It] at hf
  rcases List.mem_cons.1 h with rfl|h
  ·rw [hf.1]; rfl
  ·exact Iu hf.2 p h
theorem TB {f} {args} {σ} {as} {pt} {pb} {r} {qt} {qb} {K} (y:Way) (h:AG P f as pt pb r qt qb) (hB:QR y as pt pb qt qb=true)
  (hc:BQ y.cv σ fun σ1=>AJ (QS y args as pt pb σ1) (Az y.cv (σ1.after y qt qb) fun σ2=>K (bak y r) σ2)):MD P f args σ K:=by
 refine⟨y,as,pt,pb,r,qt,qb,h,FT (fun σ1 h=>?_) hc⟩
 unfold QR at hB
 simp only [Bool.and_eq_true,decide_eq_true_eq,and_assoc] at hB
 obtain⟨b1,b2,b3,b4,b5,b6,b7,b8,b9,b10,b11,b12,bm,b13,b14⟩:=hB
 obtain⟨⟨h1,h2,h3,h4,h5⟩,h6⟩:=h
 refine⟨⟨b1,b2,b3,b4,b5,b6,?_,?_,b9,b10⟩,h3,h4,h5,b11,⟨b12,bm⟩,b13,b14,h6⟩
 ·rw [List.all_eq_true] at b7 ⊢
  intro p hp
  rw [b7 p hp,Jp h1 p hp]; rfl
 ·rw [List.all_eq_true] at b8 ⊢
  intro p hp
  rw [b8 p hp,Iu h2 p hp]; rfl
theorem Wo {L} {wL} {f} {args} {o} {w} {as} {pt} {pb} {r} {qt} {qb} (y:Way) (hL:L=true) (h:AG P f as pt pb r qt qb) (hB:QR y as pt pb qt qb=true)
  (hc:BQ y.cv σ fun σ1=>AJ (QS y args as pt pb σ1) (Az y.cv (σ1.after y qt qb) fun σ2=>K (σ2.put dst (bak y r)))):Mi P L pos f args o dst σ K w wL:=.inr ⟨hL,[],TB (K:=fun v σ'=>K (σ'.put dst v)) y h hB hc⟩
@[go_sem ↓] theorem aN {args} {K}:FzK [] args σ K=K args σ:=rfl
@[go_sem ↓] theorem Y3 {b} {r} {args} {s} {t} {bb} {K}:FzK (b::r) args ⟨s,t,bb⟩ K=optX ((look bb b).join) fun vs=>AJ (1000≤b∧isMp vs=false) (AY (args.map (fzA b vs)) fun args'=>FzK r args' ⟨s,t,(b,none)::bb⟩ K):=rfl
section
variable {b:Nat} {vs:List AV}
@[go_sem] theorem aO {x n sz}:fzA b vs (.bsl x n sz)=(cl (fun _=>none) (only b vs) (.bsl x n sz)).getD (.bsl x n sz):=rfl
@[go_sem] theorem aP {x off}:fzA b vs (.box x off)=(cl (fun _=>none) (only b vs) (.box x off)).getD (.box x off):=rfl
@[go_sem] theorem aQ {us}:fzA b vs (.agg us)=(cl (fun _=>none) (only b vs) (.agg us)).getD (.agg us):=rfl
@[go_sem] theorem aR {k} {n}:fzA b vs (.int k n)= .int k n:=rfl
@[go_sem] theorem Y4 {x}:fzA b vs (.bool x)= .bool x:=rfl
@[go_sem] theorem aS {x}:fzA b vs (.str x)= .str x:=rfl
@[go_sem] theorem bh {x}:fzA b vs (.ro x)= .ro x:=rfl
@[go_sem] theorem aT {x}:fzA b vs (.own x)= .own x:=rfl
@[go_sem] theorem aU {x} {off}:fzA b vs (.rop x off)= .rop x off:=rfl
@[go_sem] theorem aV {t sz i off}:fzA b vs (.elt t sz i off)= .elt t sz i off:=rfl
@[go_sem] theorem bi {f} {x}:fzA b vs (.fn f x)= .fn f x:=rfl
@[go_sem] theorem Y5:fzA b vs .nilp = .nilp :=rfl
@[go_sem] theorem Y6:fzA b vs .nils = .nils :=rfl
@[go_sem] theorem aW {x}:fzA b vs (.mpr x)= .mpr x:=rfl
@[go_sem] theorem aX:fzA b vs .any = .any :=rfl
end
attribute [go_sem] Option.getD_some Option.getD_none Option.join_some Option.bind_some Option.bind_none only
attribute [go_sem] ne_eq true_imp_iff implies_true false_imp_iff CR D.flat kept QS LO It Jf St.less Jg Ka Kb Kc O5 O6 St.after bak baks EE
@[go_sem ↓] theorem Xk:BQ [] σ K=K σ:=by rw [BQ]
@[go_sem ↓] theorem Wp {n} {z} {r} {s} {t} {b}:BQ ((n,.nils,z)::r) ⟨s,t,b⟩ K=AJ (look t n=none) (BQ r ⟨s,(n,some ⟨[],z,0,false⟩)::t,b⟩ K):=by rw [BQ]; rfl
@[go_sem ↓] theorem Xl {n x m sz} {z} {r} {s} {t} {b}:BQ ((n,.bsl x m sz,z)::r) ⟨s,t,b⟩ K=AJ (m=0) (AJ (look t n=none) (BQ r ⟨s,(n,some ⟨[],z,0,false⟩)::t,b⟩ K)):=by rw [BQ]; rfl
@[go_sem ↓] theorem Xm {n t' g sz i j:Nat} {r:List (Nat × AV × Option Nat)} {s:List (Nat × AV)} {t:List (Nat × Option Tok)} {b:List (Nat × Option (List AV))}:BQ ((n,.sub t' g [(sz,i,j)],none)::r) ⟨s,t,b⟩ K=
  AJ (look t n=none∧n≠t') (optX (look t t').join fun tk=>AJ (tk.gen=g) (optX (getP [(sz,i,j)] tk.rows) fun rows=>Ht (putR [(sz,i,j)] tk.rows .gone) fun rows'=>BQ r ⟨s,(n,some ⟨rows,none,0,tk.z⟩)::(t',some ⟨rows',tk.sz,g,tk.z⟩)::t,b⟩ K)):=by
 rw [BQ]
 simp only [AJ,optX,Ee,List.length_cons,List.length_nil,true_and,Nat.zero_add]
 refine propext ⟨?_,?_⟩
 ·rintro ⟨h2,tk,rows,h4,h5,h6,h7,h8⟩; exact⟨⟨h2,h7⟩,tk,h4,h5,rows,h6,h8⟩
 ·rintro ⟨⟨h2,h7⟩,tk,h4,h5,rows,h6,h8⟩; exact⟨h2,tk,rows,h4,h5,h6,h7,h8⟩
@[go_sem ↓] theorem aY:Az [] σ K=K σ:=by rw [Az]
def unX (n:Nat) (K:St→Prop) (σ:St):Prop:=K {σ with t:=(n,none)::σ.t}
@[go_sem ↓] theorem bj {n} {s} {t} {b}:unX n K ⟨s,t,b⟩=K ⟨s,(n,none)::t,b⟩:=rfl
@[go_sem ↓] theorem Y7 {n} {z} {r}:Az ((n,.nils,z)::r) σ K=Az r σ (unX n K):=by rw [Az]; rfl; all_goals (intros; simp_all)
@[go_sem ↓] theorem aZ {n x m sz} {z} {r}:Az ((n,.bsl x m sz,z)::r) σ K=Az r σ (unX n K):=by rw [Az]; rfl; all_goals (intros; simp_all)
def unS (n t' g:Nat) (p:Pth) (K:St→Prop) (σ:St):Prop:=match σ.T n with
 |some tn=>∃tk,σ.T t'=some tk∧Jv p tk.rows=some .gone ∧(n≠t'∧okZ tk.z tn=true)∧K {σ with t:=(n,none)::(t',some ⟨putR p tk.rows (.sl tn.rows),tk.sz,if tn.gen=0∧tk.gen=g then g else tk.gen+tn.gen+1,tk.z⟩)::σ.t}
 |none=>K σ
@[go_sem ↓] theorem aa {n t' g} {p} {z} {r}:Az ((n,.sub t' g p,z)::r) σ K=Az r σ (unS n t' g p K):=by rw [Az]; rfl
def unO (o:Option Tok) (n t' g:Nat) (p:Pth) (K:St→Prop) (σ:St):Prop:=match o with
 |some tn=>AJ (n≠t') (optX (σ.T t') fun tk=>AJ (okZ tk.z tn=true) (AJ (Jv p tk.rows=some .gone) (Ht (putR p tk.rows (.sl tn.rows)) fun rows=>K ⟨σ.s,(n,none)::(t',some ⟨rows,tk.sz,if tn.gen=0∧tk.gen=g then g else tk.gen+tn.gen+1,tk.z⟩)::σ.t,σ.b⟩)))
 |none=>K σ
@[go_sem ↓] theorem bk {n t' g:Nat} {p:Pth} {s:List (Nat × AV)} {t:List (Nat × Option Tok)} {b:List (Nat × Option (List AV))}:unS n t' g p K ⟨s,t,b⟩=unO (look t n).join n t' g p K ⟨s,t,b⟩:=by
 unfold unS unO
 have e:St.T ⟨s,t,b⟩ n=(look t n).join :=rfl
 rw [e]
 cases (look t n).join with
 |none=>rfl
 |some tn=>
  simp only [AJ,optX,Ee]
  refine propext ⟨?_,?_⟩
  ·rintro ⟨tk,h1,h2,⟨h3,h0⟩,h4⟩; exact⟨h3,tk,h1,h0,h2,h4⟩
  ·rintro ⟨h3,tk,h1,h0,h2,h4⟩; exact⟨tk,h1,h2,⟨h3,h0⟩,h4⟩
@[go_sem] theorem Y8 {n t' g} {p} {tn}:unO (some tn) n t' g p K σ=AJ (n≠t') (optX (σ.T t') fun tk=>AJ (okZ tk.z tn=true) (AJ (Jv p tk.rows=some .gone) (Ht (putR p tk.rows (.sl tn.rows)) fun rows=>K ⟨σ.s,(n,none)::(t',some ⟨rows,tk.sz,if tn.gen=0∧tk.gen=g then g else tk.gen+tn.gen+1,tk.z⟩)::σ.t,σ.b⟩))):=rfl
@[go_sem] theorem Y9 {n t' g} {p}:unO none n t' g p K σ=K σ:=rfl
theorem NE {α:Type} {l:List α} {i:Nat} {x y:α} (h:l[i]? =some x):(l.set i y)[i]? =some y:=List.getElem?_set_self (AO h)
theorem TC {rows r} {sz i j} {row} (h:rows[i]? =some row) (hl:row.length=sz) (hj:row[j]? =some (.sl r)):getP [(sz,i,j)] rows=some r:=by
 simp only [getP,h,hl,if_true,hj]
theorem TD {rows} {sz i j} {row} {d} (h:rows[i]? =some row) (hl:row.length=sz) (hj:row[j]? =some d):Jv [(sz,i,j)] rows=some d:=by
 simp only [Jv,h,hl,if_true,hj]
theorem NF {rows} {sz i j} {row} {d d'} (h:rows[i]? =some row) (hj:row[j]? =some d'):putR [(sz,i,j)] rows d=rows.set i (row.set j d):=by
 unfold putR
 rw [Ab.put,h]
 simp only [hj,Ab.put]
section
variable {y:Way} {σ0:St}
@[go_sem] theorem ZA:PasL y σ0 [] [] =True:=by simp only [PasL]
@[go_sem] theorem Xn {a b} {as bs}:PasL y σ0 (a::as) (b::bs)=(CQ y σ0 a b∧PasL y σ0 as bs):=by simp only [PasL]
@[go_sem] theorem ae {n c}:CQ y σ0 (.own n) (.own c)=(look y.rt c=some n∨∃z,∃m,look y.rt c=some m∧look y.cv m=some (.own n,z)):=by
 simp only [CQ]
 refine propext ⟨?_,?_⟩
 ·rintro ⟨m,h1,h2|⟨z,h2⟩⟩
  ·cases h2; exact .inl h1
  ·exact .inr ⟨z,m,h1,h2⟩
 ·rintro (h|⟨z,m,h1,h2⟩)
  ·exact⟨n,h,.inl rfl⟩
  ·exact⟨m,h1,.inr ⟨z,h2⟩⟩
def cvX (o:Option (AV × Option Nat)) (a:AV):Prop:=match o with|some x=>x.1 =a|none=>False
theorem NG {o} {a}:(∃z,o=some (a,z))=cvX o a:=by
 unfold cvX
 cases o with
 |none=>simp
 |some x=>obtain⟨b,z⟩:=x; simp
def rtX (o:Option Nat) (K:Nat→Prop):Prop:=match o with|some n=>K n|none=>False
@[go_sem] theorem ZB {n} {K}:rtX (some n) K=K n:=rfl
@[go_sem] theorem ZC {x} {a}:cvX (some x) a=(x.1 =a):=rfl
theorem KM {o} {p}:(∃n,o=some n∧p n)=rtX o p:=by
 cases o <;> simp [rtX]
@[go_sem] theorem ag {t g c} {p}:CQ y σ0 (.sub t g p) (.own c)=rtX (look y.rt c) fun n=>cvX (look y.cv n) (.sub t g p):=by
 rw [← KM]
 simp only [CQ,reduceCtorEq,false_or,NG]
@[go_sem] theorem ZD {c}:CQ y σ0 .nils (.own c)=rtX (look y.rt c) fun n=>cvX (look y.cv n) .nils :=by
 rw [← KM]
 simp only [CQ,reduceCtorEq,false_or,NG]
@[go_sem] theorem ah {x m sz c}:CQ y σ0 (.bsl x m sz) (.own c)=rtX (look y.rt c) fun n=>cvX (look y.cv n) (.bsl x m sz):=by
 rw [← KM]
 simp only [CQ,reduceCtorEq,false_or,NG]
@[go_sem] theorem ai {n off b off'}:CQ y σ0 (.box n off) (.box b off')=match look y.rb b with|some q=>n=q.1 ∧off=q.2 +off'|none=>False:=by
 simp only [CQ,AV.box.injEq]
 cases look y.rb b <;> simp
@[go_sem] theorem aj {n sz i off c sz' i' off'}:CQ y σ0 (.elt n sz i off) (.elt c sz' i' off')=rtX (look y.rt c) fun m=>n=m∧sz=sz'∧i=i'∧off=off':=by
 rw [← KM]
 simp only [CQ,AV.elt.injEq]
@[go_sem] theorem ak {vs us}:CQ y σ0 (.agg vs) (.agg us)=PasL y σ0 vs us:=by simp only [CQ]
@[go_sem] theorem bn {f f'} {vs us}:CQ y σ0 (.fn f vs) (.fn f' us)=(f=f'∧PasL y σ0 vs us):=by simp only [CQ]
@[go_sem] theorem am {n b}:CQ y σ0 (.mpr n) (.mpr b)=match look y.rb b with|some q=>n=q.1 |none=>False:=by
 simp only [CQ,AV.mpr.injEq]
 cases look y.rb b <;> simp
def clW (y:Way) (σ0:St) (a:AV):Option AV:=cl (if y.md=true then fun _=>none else σ0.T) (if y.md=true then fun _=>none else σ0.B) a
@[go_sem] theorem an {a} {k} {n}:CQ y σ0 a (.int k n)=(clW y σ0 a=some (.int k n)):=by cases a <;> simp only [CQ,clW]
@[go_sem] theorem ZE {a} {b}:CQ y σ0 a (.bool b)=(clW y σ0 a=some (.bool b)):=by cases a <;> simp only [CQ,clW]
@[go_sem] theorem aq {a} {s}:CQ y σ0 a (.str s)=(clW y σ0 a=some (.str s)):=by cases a <;> simp only [CQ,clW]
@[go_sem] theorem bp {a} {rows}:CQ y σ0 a (.ro rows)=(clW y σ0 a=some (.ro rows)):=by cases a <;> simp only [CQ,clW]
@[go_sem] theorem ar {a} {vs} {off}:CQ y σ0 a (.rop vs off)=(clW y σ0 a=some (.rop vs off)):=by cases a <;> simp only [CQ,clW]
@[go_sem] theorem ZF {a}:CQ y σ0 a .nilp =(clW y σ0 a=some .nilp):=by cases a <;> simp only [CQ,clW]
@[go_sem] theorem au {a} {q} {rows}:CQ y σ0 a (.mpc q rows)=(clW y σ0 a=some (.mpc q rows)):=by cases a <;> simp only [CQ,clW]
@[go_sem] theorem aw {a}:CQ y σ0 a .any =(clW y σ0 a=some .any):=by cases a <;> simp only [CQ,clW]
@[go_sem] theorem bq {cv rt rb nt nb} {a}:clW ⟨cv,rt,rb,nt,nb,true⟩ σ0 a=cl (fun _=>none) (fun _=>none) a:=by simp [clW]
@[go_sem] theorem bt {cv rt rb nt nb} {a}:clW ⟨cv,rt,rb,nt,nb,false⟩ σ0 a=cl σ0.T σ0.B a:=by simp [clW]
end
def VA (P:Program) (t:TypeId) (v:AV) (σ:St) (K:Bool→Prop) (_:Wrap K):Prop:=NB P t v σ K
@[go_sem] theorem Xo {K} {w}:VA P t .nils σ K w=AJ (slP (ti P t)) (K true):=Mg
@[go_sem] theorem ZG {b n sz} {K} {w}:VA P t (.bsl b n sz) σ K w=AJ (slP (ti P t)) (K false):=OT
@[go_sem ↓] theorem Xp:opX P pos dst (.makeMap t none) σ K=optX (VY P t) fun q=>AJ (look σ.b pos=none) (K ((σ.put dst (.mpr pos)).setB pos [.mpc q []])):=by
 rw [JN (fun _=>by simp only [aop])]
 simp only [Ev,optX,AJ]
 refine propext ⟨?_,?_⟩
 ·rintro ⟨r,⟨q,h1,rfl⟩,-,h2,h3⟩
  exact⟨q,h1,h2.1,by rw [← Fo]; exact h3⟩
 ·rintro ⟨q,h1,h2,h3⟩
  exact⟨_,⟨q,h1,rfl⟩,trivial,⟨h2,trivial⟩,by rw [Fo]; exact h3⟩
def lkR (ok:Bool) (o:Option D) (z:AV) (K:AV→Prop):Prop:=K (if ok=true then .tup [(o.map ofD).getD z,.bool o.isSome] else (o.map ofD).getD z)
@[go_sem] theorem bu {o} {z} {K}:lkR false o z K=AY ((o.map ofD).getD z) K:=by simp [lkR,AY]
@[go_sem] theorem bv {o} {z} {K}:lkR true o z K=AY ((o.map ofD).getD z) fun v=>AY o.isSome fun b=>K (.tup [v,.bool b]):=by simp [lkR,AY]
def lkX (P:Program) (t:TypeId) (u v:AV) (ok:Bool) (σ:St) (K:AV→Prop):Prop:=∃r,Jd P σ.B t u v ok r∧K r
@[go_sem] theorem ax {b} {v} {ok} {K}:lkX P t (.mpr b) v ok σ K=Pj (ti P t) fun kt et=>Ob (σ.B b) fun q rows=>AJ (O3 P kt=some q) (optX (keyD v) fun k=>AJ (Mu q k=true) (optX (tz1 P et) fun z=>AY (zAV z) fun z'=>AY (FK k rows) fun o=>lkR ok o z' K)):=by
 simp only [lkX,Jd,Pj,Ob,AJ,optX,AY,lkR]
 generalize ti P t=w
 cases w with
 |map kt et=>
  simp only
  refine propext ⟨?_,?_⟩
  ·rintro ⟨r,⟨q,rows,h1,h2,k,h3,h4,z,h5,rfl⟩,h6⟩; exact⟨q,rows,h1,h2,k,h3,h4,z,h5,h6⟩
  ·rintro ⟨q,rows,h1,h2,k,h3,h4,z,h5,h6⟩; exact⟨_,⟨q,rows,h1,h2,k,h3,h4,z,h5,rfl⟩,h6⟩
 |_=>simp
@[go_sem ↓] theorem ZH {ok}:opX P pos dst (.lookup t x y ok) σ K=AY (σ.e x) fun u=>AY (σ.e y) fun v=>lkX P t u v ok σ fun r=>K (σ.put dst r):=
 D7 (p:=fun v=>Jd P σ.B t (σ.e x) (σ.e y) ok v) (fun _=>by simp only [aop]) (fun r=>by simp only [Ev])
def Mj (a:AV):Option D:=match GH [a] with|some [d] =>some d|_=>none
@[go_sem] theorem Xq {k} {n}:Mj (.int k n)=some (.int k n):=rfl
@[go_sem] theorem Wq {b}:Mj (.bool b)=some (.bool b):=rfl
@[go_sem] theorem Xr {s}:Mj (.str s)=some (.str s):=rfl
theorem TE {a} {d}:GH [a] =some [d] ↔Mj a=some d:=by
 unfold Mj
 cases a <;> simp [GH]
def muX (P:Program) (t:TypeId) (u v x:AV) (σ:St) (K:St→Prop):Prop:=Ni P t u v x σ K
@[go_sem] theorem ay {b:Nat} {v x:AV}:muX P t (.mpr b) v x σ K=Pj (ti P t) fun kt et=>Ob (σ.B b) fun q rows=>AJ (rows.length<68719476736) (AJ (O3 P kt=some q) (optX (keyD v) fun k=>AJ (Mu q k=true) (optX (Mj x) fun d=>Ht (mput k d rows) fun rows'=>K (σ.setB b [.mpc q rows'])))):=by
 simp only [muX,Ni,Pj,Ob,AJ,optX,Ee]
 generalize ti P t=w
 cases w with
 |map kt et=>
  simp only [TE]
 |_=>rfl
@[go_sem ↓] theorem Vl {m i}:opX P pos dst (.mapUpdate t m i x) σ K=AY (σ.e m) fun u=>AY (σ.e i) fun v=>AY (σ.e x) fun z=>muX P t u v z σ fun σ'=>K (σ'.put dst .any):=by
 unfold opX
 simp only [aop,AY,muX]
attribute [go_sem] keyD
@[go_sem] theorem ZI {k} {n}:Mu (.int k) (.int k n)=true:=by simp [Mu]
@[go_sem] theorem ZJ {s}:Mu .str (.str s)=true:=rfl
@[go_sem ↓] theorem bw:opX P pos dst (.pick c a b) σ K=AY (σ.e c) fun u=>AY (σ.e a) fun v=>AY (σ.e b) fun w=>LN u v w fun v=>K (σ.put dst v):=WL
@[go_sem ↓] theorem bx:opX P pos dst (.load t a) σ K=AY (σ.e a) fun u=>HG P t u σ fun v=>K (σ.put dst v):=WM
@[go_sem ↓] theorem Wr:opX P pos dst (.nilCheck x) σ K=AY (σ.e x) fun u=>NA u fun v=>K (σ.put dst v):=Pe
@[go_sem ↓] theorem Xs {y}:opX P pos dst (.binOp op t x (.tmp y) t') σ K=AY (σ.e x) fun u=>AY (σ.g y) fun v=>A9 P op t u v fun v=>K (σ.put dst v):=RP
@[go_sem ↓] theorem Xt {k} {n}:opX P pos dst (.binOp op t x (.const (.int k n)) t') σ K=AY (σ.e x) fun u=>A9 P op t u (.int k n) fun v=>K (σ.put dst v):=RQ
@[go_sem ↓] theorem Ws {b}:opX P pos dst (.binOp op t x (.const (.bool b)) t') σ K=AY (σ.e x) fun u=>A9 P op t u (.bool b) fun v=>K (σ.put dst v):=Pg
@[go_sem ↓] theorem Xu {b}:opX P pos dst (.binOp op t x (.const (.string b)) t') σ K=AY (σ.e x) fun u=>A9 P op t u (.str b) fun v=>K (σ.put dst v):=RR
@[go_sem ↓] theorem Wt:opX P pos dst (.binOp op t x (.const (.pointer none)) t') σ K=AY (σ.e x) fun u=>A9 P op t u .nilp fun v=>K (σ.put dst v):=Ph
@[go_sem ↓] theorem ZK:opX P pos dst (.binOp .eql t x (.const (.slice none 0 0)) t') σ K=AY (σ.e x) fun u=>VA P t u σ (fun b=>K (σ.put dst (.bool b))) ⟨⟩:=Sf
@[go_sem ↓] theorem ZL:opX P pos dst (.binOp .neq t x (.const (.slice none 0 0)) t') σ K=AY (σ.e x) fun u=>VA P t u σ (fun b=>K (σ.put dst (.bool !b))) ⟨⟩:=Sg
@[go_sem ↓] theorem bz {op}:opX P pos dst (.unOp op t x) σ K=AY (σ.e x) fun u=>OV op u fun v=>K (σ.put dst v):=WV
@[go_sem ↓] theorem Xv:opX P pos dst (.convert s d x) σ K=AY (σ.e x) fun u=>HH P s d u σ fun v=>K (σ.put dst v):=RT
@[go_sem ↓] theorem Vm:opX P pos dst (.fieldAddr s x f) σ K=AY (σ.e x) fun u=>faX P s u f fun v=>K (σ.put dst v):=OY
@[go_sem ↓] theorem az:opX P pos dst (.field s x f) σ K=AY (σ.e x) fun u=>fdX P s u f fun v=>K (σ.put dst v):=UV
@[go_sem ↓] theorem Vn:opX P pos dst (.indexAddr t x y) σ K=AY (σ.e x) fun u=>AY (σ.e y) fun v=>iaX P t u v σ fun v=>K (σ.put dst v):=Oa
@[go_sem ↓] theorem a4 {l h}:opX P pos dst (.slice t x l h none) σ K=AY (σ.e x) fun u=>RX P σ.T t u (l.map σ.e) (h.map σ.e) fun v=>K (σ.put dst v):=UX
@[go_sem ↓] theorem a5:opX P pos dst (.index t x y) σ K=AY (σ.e x) fun u=>AY (σ.e y) fun v=>elX P t u v fun v=>K (σ.put dst v):=UW
@[go_sem ↓] theorem Xw:opX P pos dst (.extract x i) σ K=AY (σ.e x) fun u=>RY u i fun v=>K (σ.put dst v):=RZ
@[go_sem ↓] theorem cS:opX P pos dst (.call ⟨.builtin .len,List.toArray [x],List.toArray [t]⟩) σ K=AY (σ.e x) fun u=>Hs P t u σ fun v=>K (σ.put dst v):=Yj
@[go_sem ↓] theorem cT {ts}:opX P pos dst (.call ⟨.builtin .max,List.toArray [x,y],ts⟩) σ K=AY (σ.e x) fun u=>AY (σ.e y) fun v=>Jx (fun n m=>if n<m then m else n) u v fun v=>K (σ.put dst v):=Yk
@[go_sem ↓] theorem cU {ts}:opX P pos dst (.call ⟨.builtin .min,List.toArray [x,y],ts⟩) σ K=AY (σ.e x) fun u=>AY (σ.e y) fun v=>Jx (fun n m=>if m<n then m else n) u v fun v=>K (σ.put dst v):=Yl
@[go_sem ↓] theorem cV:opX P pos dst (.box t x) σ K=AY (cellsOf (σ.e x)) fun cs=>bxX pos cs dst (.box pos 0) σ K:=Yp
@[go_sem ↓] theorem a6:opX P pos dst (.alloc t) σ K=AJ (0<(tz P t).length) (AY ((tz P t).map zAV) fun vs=>bxX pos (some vs) dst (.box pos 0) σ K):=Uf
@[go_sem ↓] theorem a7 {parts}:opX P pos dst (.build t parts.toArray) σ K=Oc P (ti P t) fun fs=>AJ ((fs.all fun q=>decide (0<tsz P q.2))=true∧0<(tz P t).length) (AY ((tz P t).map zAV) fun vs=>AY (pvs σ parts) fun ps=>bpX P fs vs ps fun v=>K (σ.put dst v)):=Uj
@[go_sem ↓] theorem Vo:opX P pos dst (.makeSlice t l c) σ K=slX (ti P t) fun e=>AY (σ.e l) fun u=>AY (σ.e c) fun v=>mkX P pos e u v dst σ K:=Od
@[go_sem ↓] theorem cA {L} {wL} {args} {ts}:opL P L pos dst (.call ⟨.value g,args.toArray,ts⟩) σ K wL=AY (σ.e g) fun u=>AY (evs σ args) fun vs=>clX P L pos u vs dst σ K wL:=Wf
@[go_sem ↓] theorem a8:opX P pos dst (.store t a x) σ K=AY (σ.e a) fun u=>AY (cellsOf (σ.e x)) fun cs=>stX P t u cs σ fun σ'=>K (σ'.put dst .any):=Us
@[go_sem ↓] theorem ZM:opX P pos dst (.call ⟨.builtin .append,List.toArray [x,y],List.toArray [t,t]⟩) σ K=slX (ti P t) fun e=>AY (σ.e x) fun u=>AY (σ.e y) fun v=>apX P pos e u v dst σ K:=S3
def apE (P:Program) (pos:Nat) (e:TypeId) (u v:AV) (dst:Option Tmp) (σ:St) (K:St→Prop):Prop:=P3 u=true∧match v with
 | .ro rows=>(0<tsz P e∧(tz P e).length =tsz P e)∧∃z,roZ z (tsz P e) rows fun rows=>(rows.length*P.bytesOf e≤140737488355328∧rows.length≤maxLen)∧look σ.t (pos*16)=none∧K ((σ.setT (pos*16) ⟨rows,some (tsz P e),0,z⟩).put dst (.own (pos*16)))
 |_=>False
theorem TF {z} {sz} {rows} {K K'} (h:∀r,K r→K' r) (k:roZ z sz rows K):roZ z sz rows K':=by
 cases z
 ·exact⟨k.1,h _ k.2⟩
 ·exact⟨k.1,h _ k.2⟩
def roX (z:Bool) (sz:Nat) (rows:List (List D)) (K:List (List D)→Prop):Prop:=roZ z sz rows K
@[go_sem] theorem cW {sz} {rows} {K}:roX false sz rows K=AJ (∀row ∈ rows,row.length=sz∧∀d ∈ row,d.flat=true) (K rows):=rfl
@[go_sem] theorem cX {sz:Nat} {rows:List (List D)} {K:List (List D)→Prop}:roX true sz rows K=AJ (∀row ∈ rows,row.length=sz∧∀d ∈ row,d≠ .gone) (Ht (fzR rows) fun r=>K r):=by
 simp only [roX,roZ,AJ,Ee]
@[go_sem] theorem cB {e:TypeId} {u:AV} {rows:List (List D)}:apE P pos e u (.ro rows) dst σ K=AJ (P3 u=true) (AJ (0<tsz P e∧(tz P e).length =tsz P e) (zX fun z=>roX z (tsz P e) rows fun rows=>AJ (rows.length*P.bytesOf e≤140737488355328∧rows.length≤maxLen) (AJ (look σ.t (pos*16)=none) (Ht rows fun rows=>K ((σ.setT (pos*16) ⟨rows,some (tsz P e),0,z⟩).put dst (.own (pos*16))))))):=by simp only [Ee]; rfl
@[go_sem ↓] theorem cC:opE P pos dst (.call ⟨.builtin .append,List.toArray [x,y],List.toArray [t,t]⟩) σ K=slX (ti P t) fun e=>AY (σ.e x) fun u=>AY (σ.e y) fun v=>apE P pos e u v dst σ K:=by
 unfold opE
 simp only [Ev,X4,slX,true_and,AY]
 generalize σ.e x=u
 generalize σ.e y=v
 refine propext ⟨?_,?_⟩
 ·rintro ⟨r,⟨h1,h2⟩,h3,h4,h5⟩
  split at h2
  ·rename_i el rows hel
   obtain⟨h6,z,h7⟩:=h2
   rw [hel]
   refine⟨h1,h6,z,TF (fun rows h8=>?_) h7⟩
   obtain⟨h9,rfl⟩:=h8
   refine⟨h9,h3.1,?_⟩
   cases dst <;> exact h5
  ·exact h2.elim
 ·intro h
  generalize hti:ti P t=q at h ⊢
  cases q with
  | sl el=>
   cases v with
   | ro rows=>
    obtain⟨h1,h6,z,h7⟩:=h
    cases z with
    |false=>
     obtain⟨h8,h9,h10,h5⟩:=h7
     exact⟨_,⟨h1,h6,false,h8,h9,rfl⟩,⟨h10,trivial⟩,trivial,by cases dst <;> exact h5⟩
    |true=>
     obtain⟨h8,h9,h10,h5⟩:=h7
     exact⟨_,⟨h1,h6,true,h8,h9,rfl⟩,⟨h10,trivial⟩,trivial,by cases dst <;> exact h5⟩
   |_=>exact h.2.elim
  |_=>exact h.elim
@[go_sem ↓] theorem cD {e:TypeId} {u v:AV}:apX P pos e u v dst σ K=AJ (0<tsz P e∧(tz P e).length =tsz P e) (zX fun z=>KZ z e (tsz P e) u σ fun rows σ1=>Hq z (tsz P e) v σ1 fun rows2 σ2=>
   AJ ((rows.length+rows2.length)*P.bytesOf e≤140737488355328∧rows.length+rows2.length≤maxLen) (AJ (look σ2.t (pos*16)=none) (Ht (rows++rows2) fun rows=>K ((σ2.setT (pos*16) ⟨rows,some (tsz P e),0,z⟩).put dst (.own (pos*16)))))):=by simp only [Ee]; rfl
end
attribute [go_sem] zAV
section
variable {P:Program} {σ:St} {K:St→Prop} {ops:Array Oper} {base cut i:Nat}
@[go_sem] theorem Wu {x} {xs b} {w1} {w2} {w3} {w4}:Fn P ops base cut i (List.append (x::xs) b) σ K w1 w2 w3 w4=Fn P ops base cut i (x::List.append xs b) σ K w1 ⟨⟩ w3 w4:=rfl
@[go_sem] theorem Xx {b} {w1} {w2} {w3} {w4}:Fn P ops base cut i (List.append [] b) σ K w1 w2 w3 w4=Fn P ops base cut i b σ K w1 ⟨⟩ w3 w4:=rfl
@[go_sem] theorem Xy {a b c} {w1} {w2} {w3} {w4}:Fn P ops base cut i (List.append (List.append a b) c) σ K w1 w2 w3 w4=Fn P ops base cut i (List.append a (List.append b c)) σ K w1 ⟨⟩ w3 w4:=by
 unfold Fn; rw [show List.append (List.append a b) c=List.append a (List.append b c) from List.append_assoc a b c]
@[go_sem ↓] theorem TG {dst} {op} {type} {ps} {after} {g} {rest b} {K}:E1 (List.toArray (List.append (⟨some dst,op,type,ps,after,g⟩::rest) b)) 0 K=K dst:=by
 show E1 (List.toArray (_::List.append rest b)) 0 K=K dst
 exact Pa
@[go_sem ↓] theorem TH {o} {rest b} {j} {K}:E1 (List.toArray (List.append (o::rest) b)) (j+1) K=E1 (List.toArray (List.append rest b)) j K:=by
 show E1 (List.toArray (o::List.append rest b)) (j+1) K=_
 exact Pb
@[go_sem ↓] theorem Tk {b} {j} {K}:E1 (List.toArray (List.append [] b)) j K=E1 b.toArray j K:=rfl
@[go_sem ↓] theorem Tl {a b c} {j} {K}:E1 (List.toArray (List.append (List.append a b) c)) j K=E1 (List.toArray (List.append a (List.append b c))) j K:=by
 rw [show List.append (List.append a b) c=List.append a (List.append b c) from List.append_assoc a b c]
@[go_sem] theorem a9 {a b:List Oper} {p:Oper→Bool}:List.all (List.append a b) p=(List.all a p&&List.all b p):=List.all_append
end
end Go.Proofs.Ytijdanbelnmmlaa.Ab
