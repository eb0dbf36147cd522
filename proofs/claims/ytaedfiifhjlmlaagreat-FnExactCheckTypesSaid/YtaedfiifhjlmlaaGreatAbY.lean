/-
  The abstract walk as rules, third part: memory, calls, results, loops.
-/
import Derived.Test.YtaedfiifhjlmlaaGreatAbU
import Derived.IntWalk
namespace Go.Proofs.YtaedfiifhjlmlaaGreat.Ab
set_option linter.unusedVariables false
open Go.RowKit
section
variable {P:Program} {σ:St} {K:St→Prop} {Q:AE→St→Prop}
def cp (t:TI):Prop:=match t with| .str =>True|_=>False
@[go_sem] theorem fR:cp .str =True:=rfl
@[go_sem] theorem aL {t} {s} {K}:T0 P t (.str s) σ K=Aa (cp (ti P t)) (K (.int .i64 s.size)):=by
 simp only [T0,PW,Aa,cp]
 generalize ti P t=q
 cases q <;> simp
@[go_sem] theorem cq {t} {rows} {K}:T0 P t (.ro rows) σ K=slX (ti P t) fun _=>K (.int .i64 rows.length):=by
 simp only [T0,PW,slX]
 generalize ti P t=q
 cases q <;> simp
@[go_sem] theorem aM {t} {t'} {K}:T0 P t (.own t') σ K=slX (ti P t) fun _=>optX (σ.T t') fun tk=>K (.int .i64 tk.rows.length):=by
 simp only [T0,PW,slX,optX]
 generalize ti P t=q
 cases q with
 |sl e=>exact propext ⟨fun ⟨v,⟨tk,h1,h2⟩,h3⟩=>⟨tk,h1,h2 ▸ h3⟩,fun ⟨tk,h1,h3⟩=>⟨_,⟨tk,h1,rfl⟩,h3⟩⟩
 |_=>simp
def Y2 (t:TI) (K:TypeId→TypeId→Prop):Prop:=match t with| .map k e=>K k e|_=>False
@[go_sem] theorem fS {k e} {K}:Y2 (.map k e) K=K k e:=rfl
def Xe (o:Option (List AV)) (K:KT→List (List D)→Prop):Prop:=∃q rows,o=some [.mpc q rows] ∧K q rows
@[go_sem] theorem d8 {q} {rows} {K}:Xe (some [.mpc q rows]) K=K q rows:=by
 simp only [Xe,Option.some.injEq,List.cons.injEq,AV.mpc.injEq,and_true]
 exact propext ⟨fun ⟨q',r',⟨h1,h2⟩,h3⟩=>h1 ▸ h2 ▸ h3,fun h=>⟨q,rows,⟨rfl,rfl⟩,h⟩⟩
def O1 {α:Type} (v:α) (K:α→Prop):Prop:=∃y,v=y∧K y
theorem NA {α:Type} {v:α} {K:α→Prop}:O1 v K=K v:=by simp [O1]
def bxX (pos:Nat) (cs:Option (List AV)) (dst:Option Tmp) (v:AV) (σ:St) (K:St→Prop):Prop:=optX cs fun vs=>Aa (look σ.b pos=none) (K ((σ.put dst v).setB pos vs))
def bxZ (pos:Nat) (cs:Option (List AV)) (dst:Option Tmp) (v:AV) (σ:St) (K:St→Prop):Prop:=bxX pos cs dst v σ K
theorem cr {pos} {cs} {dst} {v}:bxX pos cs dst v σ K=A9 cs fun o=>bxZ pos o dst v σ K:=rfl
@[go_sem ↓] theorem fT {pos} {vs} {dst} {v}:bxZ pos (some vs) dst v σ K=Aa (look σ.b pos=none) (K ((σ.put dst v).setB pos vs)):=by simp [bxZ,bxX,optX]
theorem Ii {dst} {v} {pos} {vs}:σ.add dst ⟨v,[],[(pos,vs)]⟩=(σ.put dst v).setB pos vs:=by cases dst <;> rfl
attribute [go_sem] cellsOf
theorem fU {pos} {dst} {t} {x}:opX P pos dst (.box t x) σ K=bxX pos (cellsOf (σ.e x)) dst (.box pos 0) σ K:=by
 rw [OA (fun _=>by simp only [aop])]
 simp only [Ev,bxX]
 split
 ·rename_i vs h
  rw [h,Hn]
  refine propext ⟨?_,?_⟩
  ·rintro ⟨r,rfl,-,h1,h2⟩
   exact⟨h1.1,by rw [← Ii]; exact h2⟩
  ·rintro ⟨h1,h2⟩
   exact⟨_,rfl,trivial,⟨h1,trivial⟩,by rw [Ii]; exact h2⟩
 ·rename_i h
  rw [h,Rx]
  simp
theorem aN {pos} {dst} {t}:opX P pos dst (.alloc t) σ K=Aa (0<(tz P t).length) (bxX pos (some ((tz P t).map zAV)) dst (.box pos 0) σ K):=by
 rw [OA (fun _=>by simp only [aop])]
 simp only [Ev,bxX,Hn,Aa]
 refine propext ⟨?_,?_⟩
 ·rintro ⟨r,⟨vs,rfl,h0,rfl⟩,-,h1,h2⟩
  exact⟨h0,h1.1,by rw [← Ii]; exact h2⟩
 ·rintro ⟨h0,h1,h2⟩
  exact⟨_,⟨_,rfl,h0,rfl⟩,trivial,⟨h1,trivial⟩,by rw [Ii]; exact h2⟩
attribute [go_sem] zAV
def pvs (σ:St):List (Nat × Operand)→List (Nat × AV)
 | [] =>[]
 |x::xs=>(x.1,σ.e x.2)::pvs σ xs
theorem WS {xs}:pvs σ xs=xs.map fun x=>(x.1,σ.e x.2):=by induction xs with|nil=>rfl|cons x xs ih=>simp [pvs,ih]
attribute [go_sem] pvs DK
def bsX (P:Program) (pos:Nat) (e:TypeId) (n:Nat) (parts:List (Nat × AV)) (dst:Option Tmp) (σ:St) (K:St→Prop):Prop:=
 Aa (parts.length=n∧n*tsz P e≤16777216∧0<tsz P e∧(tz P e).length =tsz P e) (bxX pos (DK (tsz P e) 0 parts) dst (.bsl pos n (tsz P e)) σ K)
@[go_sem ↓] theorem aO {pos} {dst} {t} {n} {parts}:opX P pos dst (.buildSlice t n parts.toArray) σ K=slX (ti P t) fun e=>A9 (pvs σ parts) fun ps=>bsX P pos e n ps dst σ K:=by
 rw [OA (fun _=>by simp only [aop])]
 simp only [Ev,slX,A9,WS]
 generalize ti P t=q
 split
 ·simp only [YB,bsX,bxX,Aa]
  refine propext ⟨?_,?_⟩
  ·rintro ⟨r,⟨h1,h2,h3,h4,h5⟩,-,h6,h7⟩
   split at h5
   ·rename_i vs h8
    subst h5
    rw [h8,Hn]
    exact⟨⟨h1,h2,h3,h4⟩,h6.1,by rw [← Ii]; exact h7⟩
   ·exact h5.elim
  ·rintro ⟨⟨h1,h2,h3,h4⟩,vs,h8,h6,h7⟩
   exact⟨⟨_,[],[(pos,vs)]⟩,⟨h1,h2,h3,h4,by rw [h8]⟩,trivial,⟨h6,trivial⟩,by rw [Ii]; exact h7⟩
 ·simp
attribute [go_sem] bsX
attribute [go_sem] KY
def T1 (P:Program) (t:TI) (K:List (Nat × TypeId)→Prop):Prop:=match t with| .st fs=>K fs| .arr n el=>Aa (0<tsz P el) (K (KY (tsz P el) el n 0))|_=>False
@[go_sem] theorem aP {fs} {K}:T1 P (.st fs) K=K fs:=rfl
def bpX (P:Program) (fs:List (Nat × TypeId)) (vs:List AV) (ps:List (Nat × AV)) (K:AV→Prop):Prop:=∃ws,Jg P fs vs ps=some ws∧K (.agg ws)
@[go_sem] theorem aQ {fs} {vs} {K}:bpX P fs vs [] K=K (.agg vs):=by simp [bpX,Jg]
@[go_sem] theorem Y3 {fs} {vs} {f} {v} {ps} {K}:bpX P fs vs ((f,v)::ps) K=optX fs[f]? fun q=>optX (cellsOf v) fun cs=>Aa (cs.length=tsz P q.2 ∧q.1 +cs.length≤vs.length) (A9 (splice vs q.1 cs) fun vs=>bpX P fs vs ps K):=by
 unfold bpX optX Aa A9
 rw [Jg]
 cases fs[f]? with
 |none=>simp
 | some q=>
  cases cellsOf v with
  |none=>simp
  | some cs=>
   by_cases hc:cs.length=tsz P q.2 ∧q.1 +cs.length≤vs.length
   ·simp only [if_pos hc,Option.some.injEq,exists_eq_left']
    exact propext ⟨fun h=>⟨hc,h⟩,fun h=>h.2⟩
   ·simp only [if_neg hc,Option.some.injEq,exists_eq_left']
    refine propext ⟨?_,?_⟩
    ·rintro ⟨_,h,_⟩; cases h
    ·intro h; exact absurd h.1 hc
theorem aR {pos} {dst} {t} {parts}:opX P pos dst (.build t parts.toArray) σ K=T1 P (ti P t) fun fs=>Aa ((fs.all fun q=>decide (0<tsz P q.2))=true∧0<(tz P t).length) (bpX P fs ((tz P t).map zAV) (pvs σ parts) fun v=>K (σ.put dst v)):=by
 rw [Gv (p:=fun v=>T1 P (ti P t) fun fs=>Aa ((fs.all fun q=>decide (0<tsz P q.2))=true∧0<(tz P t).length) (bpX P fs ((tz P t).map zAV) (pvs σ parts) fun u=>v=u)) (fun _=>by simp only [aop]) (fun r=>by
  simp only [Ev,T1,Aa,bpX,WS]
  generalize ti P t=q
  cases q with
  |st fs=>
   refine propext ⟨?_,?_⟩
   ·rintro ⟨h1,h2,vs,h3,rfl⟩; exact⟨_,⟨⟨h1,h2⟩,vs,h3,rfl⟩,rfl⟩
   ·rintro ⟨v,⟨⟨h1,h2⟩,vs,h3,rfl⟩,rfl⟩; exact⟨h1,h2,vs,h3,rfl⟩
  |arr n el=>
   refine propext ⟨?_,?_⟩
   ·rintro ⟨h0,h1,h2,vs,h3,rfl⟩; exact⟨_,⟨h0,⟨h1,h2⟩,vs,h3,rfl⟩,rfl⟩
   ·rintro ⟨v,⟨h0,⟨h1,h2⟩,vs,h3,rfl⟩,rfl⟩; exact⟨h0,h1,h2,vs,h3,rfl⟩
  |_=>simp)]
 unfold T1 Aa bpX
 generalize ti P t=q
 cases q with
 |st fs=>
  refine propext ⟨?_,?_⟩
  ·rintro ⟨v,⟨h1,vs,h3,rfl⟩,hk⟩; exact⟨h1,vs,h3,hk⟩
  ·rintro ⟨h1,vs,h3,hk⟩; exact⟨_,⟨h1,vs,h3,rfl⟩,hk⟩
 |arr n el=>
  refine propext ⟨?_,?_⟩
  ·rintro ⟨v,⟨h0,h1,vs,h3,rfl⟩,hk⟩; exact⟨h0,h1,vs,h3,hk⟩
  ·rintro ⟨h0,h1,vs,h3,hk⟩; exact⟨_,⟨h0,h1,vs,h3,rfl⟩,hk⟩
 |_=>simp
attribute [go_sem] zD zDs
@[go_sem] theorem fV {n}:leX n n=True:=eq_true (Int.le_refl n)
def mkX (P:Program) (pos:Nat) (e:TypeId) (n m:AV) (dst:Option Tmp) (σ:St) (K:St→Prop):Prop:=match n,m with
 | .int .i64 n,.int .i64 m=>Aa (leX n m) (Aa (0≤n∧m.toNat*P.bytesOf e≤281474976710656∧m≤4611686018427387904) (Aa (0<tsz P e∧(tz P e).length =tsz P e) (optX (zDs (tz P e)) fun z=>Aa (look σ.t (pos*16)=none) (O1 (List.replicate n.toNat z) fun rows=>K ((σ.put dst (.own (pos*16))).setT (pos*16) ⟨rows,some (tsz P e),0,false⟩)))))
 |_,_=>False
@[go_sem] theorem aS {pos} {e} {n m} {dst}:mkX P pos e (.int .i64 n) (.int .i64 m) dst σ K=Aa (leX n m) (Aa (0≤n∧m.toNat*P.bytesOf e≤281474976710656∧m≤4611686018427387904) (Aa (0<tsz P e∧(tz P e).length =tsz P e) (optX (zDs (tz P e)) fun z=>Aa (look σ.t (pos*16)=none) (O1 (List.replicate n.toNat z) fun rows=>K ((σ.put dst (.own (pos*16))).setT (pos*16) ⟨rows,some (tsz P e),0,false⟩))))):=rfl
theorem WT {dst} {v} {n} {tk}:σ.add dst ⟨v,[(n,tk)],[]⟩=(σ.put dst v).setT n tk:=by cases dst <;> rfl
theorem T3 {pos:Nat} {dst:Option Tmp} {t:TypeId} {l c:Operand}:opX P pos dst (.makeSlice t l c) σ K=slX (ti P t) fun e=>mkX P pos e (σ.e l) (σ.e c) dst σ K:=by
 rw [OA (fun _=>by simp only [aop])]
 simp only [Ev,slX,mkX]
 generalize ti P t=q
 cases q with
 | sl e=>
  generalize σ.e l=u
  generalize σ.e c=v
  split
  ·rename_i el n m h1
   cases h1
   simp only [bQ,Aa,optX,NA]
   refine propext ⟨?_,?_⟩
   ·rintro ⟨r,⟨k1,k2,k3,k4,k5,k6,z,k7,rfl⟩,k8,-,k9⟩
    exact⟨k1,⟨k2,k3,k4⟩,⟨k5,k6⟩,z,k7,k8.1,by rw [← WT]; exact k9⟩
   ·rintro ⟨k1,⟨k2,k3,k4⟩,⟨k5,k6⟩,z,k7,k8,k9⟩
    exact⟨⟨_,[(pos*16,⟨_,some (tsz P e),0,false⟩)],[]⟩,⟨k1,k2,k3,k4,k5,k6,z,k7,rfl⟩,⟨k8,trivial⟩,trivial,by rw [WT]; exact k9⟩
  ·rename_i hno
   have:∀p:Prop,(∃r:Res,False∧p)=False:=fun p=>by simp
   simp only [false_and,exists_false]
   refine propext ⟨False.elim,fun h=>?_⟩
   split at h
   ·exact hno e _ _ rfl rfl rfl
   ·exact h
 |_=>simp
def Ry (P:Program) (L:Bool) (pos:Nat) (f:FuncId) (args:List AV) (as:Option (List AV)) (dst:Option Tmp) (σ:St) (K:St→Prop) (_:Wrap L):Prop:=
 ((∃bs rv,as=some bs∧AC P f bs rv∧Cs σ (conv (pos*16) rv).2 ∧K (σ.add dst ⟨(conv (pos*16) rv).1,(conv (pos*16) rv).2,[]⟩))∨
  ∃bs rv qt qb,AG P f bs [] [] rv qt qb∧cls (fun _=>none) (fun _=>none) args=some bs∧((qt=[] ∧RT rv=true∧K (σ.add dst ⟨rv,[],[]⟩))∨(∃q tk,qt=[(q,tk)] ∧rv= .own q∧tk.gen=0∧look σ.t (pos*16)=none∧K (σ.add dst ⟨.own (pos*16),[(pos*16,tk)],[]⟩))∨(∃q k,rv= .box q k)∧K (σ.add dst ⟨.rop [] 0,[],[]⟩)))∨
 (L=true∧V7 P f args σ fun v σ'=>K (σ'.put dst v))
@[go_sem] theorem fW:KV [] =true:=rfl
@[go_sem] theorem fX {fs cs}:KV (.agg fs::cs)=true:=rfl
@[go_sem] theorem iE {as}:fnA [] as=as:=List.append_nil as
@[go_sem] theorem iF {fs cs as}:fnA (.agg fs::cs) as=fs++(as++cs):=rfl
def clX (P:Program) (L:Bool) (pos:Nat) (g:AV) (args:List AV) (dst:Option Tmp) (σ:St) (K:St→Prop) (w:Wrap L):Prop:=match g with
 | .fn f caps=>KV caps=true∧Ry P L pos f (fnA caps args) (cls σ.T σ.B (fnA caps args)) dst σ K w
 |_=>False
@[go_sem] theorem ct {L} {wL} {pos} {f} {caps args} {dst}:clX P L pos (.fn f caps) args dst σ K wL=Aa (KV caps=true) (A9 (fnA caps args) fun vs=>A9 (cls σ.T σ.B vs) fun r=>Ry P L pos f vs r dst σ K wL):=rfl
theorem cu {L} {wL} {pos} {dst} {g} {args} {ts}:opL P L pos dst (.call ⟨.value g,args.toArray,ts⟩) σ K wL=clX P L pos (σ.e g) (evs σ args) dst σ K wL:=by
 have h1:opX P pos dst (.call ⟨.value g,args.toArray,ts⟩) σ K=match σ.e g with
   | .fn f caps=>KV caps=true∧((∃bs rv,cls σ.T σ.B (fnA caps (evs σ args))=some bs∧AC P f bs rv∧Cs σ (conv (pos*16) rv).2 ∧K (σ.add dst ⟨(conv (pos*16) rv).1,(conv (pos*16) rv).2,[]⟩))∨
     ∃bs rv qt qb,AG P f bs [] [] rv qt qb∧cls (fun _=>none) (fun _=>none) (fnA caps (evs σ args))=some bs∧((qt=[] ∧RT rv=true∧K (σ.add dst ⟨rv,[],[]⟩))∨(∃q tk,qt=[(q,tk)] ∧rv= .own q∧tk.gen=0∧look σ.t (pos*16)=none∧K (σ.add dst ⟨.own (pos*16),[(pos*16,tk)],[]⟩))∨(∃q k,rv= .box q k)∧K (σ.add dst ⟨.rop [] 0,[],[]⟩)))
   |_=>False:=by
  rw [OA (fun _=>by simp only [aop])]
  simp only [Ev,PX,SW]
  generalize σ.e g=v
  split
  ·refine propext ⟨?_,?_⟩
   ·rintro ⟨r,⟨ho,h1⟩,h2,-,h4⟩
    refine⟨ho,?_⟩
    rcases h1 with h1|h1
    ·split at h1
     ·rename_i as has
      obtain⟨rv,h5,rfl⟩:=h1
      exact .inl ⟨as,rv,has,h5,h2,h4⟩
     ·exact h1.elim
    ·obtain⟨as,rv,qt,qb,h5,h6,h7⟩:=h1
     rcases h7 with ⟨h7,h8,rfl⟩|⟨q,tk,h7,h8,h9,rfl⟩|⟨h7,rfl⟩
     ·exact .inr ⟨as,rv,qt,qb,h5,h6,.inl ⟨h7,h8,h4⟩⟩
     ·exact .inr ⟨as,rv,qt,qb,h5,h6,.inr (.inl ⟨q,tk,h7,h8,h9,h2.1,h4⟩)⟩
     ·exact .inr ⟨as,rv,qt,qb,h5,h6,.inr (.inr ⟨h7,h4⟩)⟩
   ·rintro ⟨ho,h⟩
    rcases h with (⟨bs,rv,h1,h5,h2,h4⟩|⟨bs,rv,qt,qb,h5,h6,⟨h7,h8,h4⟩|⟨q,tk,h7,h8,h9,h2,h4⟩|⟨h7,h4⟩⟩)
    ·exact⟨⟨(conv (pos*16) rv).1,(conv (pos*16) rv).2,[]⟩,⟨ho,.inl (by rw [h1]; exact⟨rv,h5,rfl⟩)⟩,h2,trivial,h4⟩
    ·exact⟨⟨rv,[],[]⟩,⟨ho,.inr ⟨bs,rv,qt,qb,h5,h6,.inl ⟨h7,h8,rfl⟩⟩⟩,trivial,trivial,h4⟩
    ·exact⟨⟨.own (pos*16),[(pos*16,tk)],[]⟩,⟨ho,.inr ⟨bs,rv,qt,qb,h5,h6,.inr (.inl ⟨q,tk,h7,h8,h9,rfl⟩)⟩⟩,⟨h2,trivial⟩,trivial,h4⟩
    ·exact⟨⟨.rop [] 0,[],[]⟩,⟨ho,.inr ⟨bs,rv,qt,qb,h5,h6,.inr (.inr ⟨h7,rfl⟩)⟩⟩,trivial,trivial,h4⟩
  ·simp
 have h2:opL P L pos dst (.call ⟨.value g,args.toArray,ts⟩) σ K wL=(opX P pos dst (.call ⟨.value g,args.toArray,ts⟩) σ K∨(L=true∧Ka P ⟨dst,.call ⟨.value g,args.toArray,ts⟩,0, "",#[],none⟩ σ K)):=by
  have hA:Pc ⟨dst,.call ⟨.value g,args.toArray,ts⟩,0, "",#[],none⟩=false:=rfl
  have hS:SliK P pos ⟨dst,.call ⟨.value g,args.toArray,ts⟩,0, "",#[],none⟩ σ K=False:=rfl
  unfold opL Oz opX
  rw [hA,hS]; simp
 rw [h2,h1]
 unfold clX Ry Ka
 simp only [SW]
 generalize σ.e g=v
 cases v with
 |fn f caps=>by_cases ho:KV caps=true <;> simp [ho]
 |_=>simp
attribute [go_sem] cl cls toD toDs toA toAs Cv CH Option.map_some Option.map_none
theorem aT {pos} {f} {args bs} {dst} {rv} (h:AC P f bs rv) (hf:Cs σ (conv (pos*16) rv).2) (hk:K (σ.add dst ⟨(conv (pos*16) rv).1,(conv (pos*16) rv).2,[]⟩)) {L} {wL}:Ry P L pos f args (some bs) dst σ K wL:=
 .inl (.inl ⟨bs,rv,rfl,h,hf,hk⟩)
@[go_sem] theorem cw:Cs σ [] =True:=rfl
@[go_sem] theorem bg {n} {tk} {l}:Cs σ ((n,tk)::l)=(look σ.t n=none∧Cs σ l):=rfl
attribute [go_sem] conv Eo addT addB
@[go_sem] theorem fY {s t b} {d} {r}:St.add ⟨s,t,b⟩ (some d) r=⟨(d,r.v)::s,addT t r.t,addB b r.b⟩:=rfl
@[go_sem] theorem fZ {s t b} {r}:St.add ⟨s,t,b⟩ none r=⟨s,addT t r.t,addB b r.b⟩:=rfl
section
variable {z:Bool}
@[go_sem] theorem aU {K}:Bl z [] σ K=K [] σ:=by rw [Bl]
@[go_sem] theorem aV {k} {n} {vs} {K}:Bl z (.int k n::vs) σ K=Bl z vs σ fun ds σ'=>K (.int k n::ds) σ':=by rw [Bl]
@[go_sem] theorem aW {s} {vs} {K}:Bl z (.str s::vs) σ K=Bl z vs σ fun ds σ'=>K (.str s::ds) σ':=by rw [Bl]
@[go_sem] theorem jQ:Uo false= .sl [] :=rfl
@[go_sem] theorem jR:Uo true= .fz [] :=rfl
@[go_sem] theorem cy {rows} {vs} {K}:Bl z (.ro rows::vs) σ K=Aa (z=true) (Bl z vs σ fun ds σ'=>K (.fz rows::ds) σ'):=by rw [Bl]; rfl
@[go_sem] theorem aX {ws} {off} {vs} {K}:Bl z (.rop ws off::vs) σ K=Aa (z=true) (optX (unD (.rop ws off)) fun d=>Bl z vs σ fun ds σ'=>K (d::ds) σ'):=by rw [Bl]; rfl
@[go_sem ↓] theorem iG {b n sz} {K}:YD z b n sz σ K=Aa (1000≤b) (Aa (0<sz) (optX (σ.B b) fun vs=>optX (KJ z vs) fun ds=>Aa (ds.length=n*sz) (A9 (CD sz n ds) fun rows=>K rows (σ.killB b)))):=rfl
@[go_sem] theorem fc {s t b} {x}:St.killB ⟨s,t,b⟩ x=⟨s,t,(x,none)::b⟩:=rfl
attribute [go_sem] Jh litD KJ unD unDs
@[go_sem] theorem aY {t} {vs} {K}:Bl z (.own t::vs) σ K=optX (σ.T t) fun tk=>Aa (okZ z tk=true) (Bl z vs (σ.killT t) fun ds σ'=>K (.sl tk.rows::ds) σ'):=by rw [Bl]; rfl
end
def stX (P:Program) (t:TypeId) (a:AV) (cs:Option (List AV)) (σ:St) (K:St→Prop):Prop:=
 optX cs fun cs=>Aa (cs.length=tsz P t∧0<tsz P t∧cs.all AV.one=true) (match a with
  | .box b off=>∃vs,σ.B b=some vs∧isMp vs=false∧off+cs.length≤vs.length∧K (σ.setB b (splice vs off cs))
  | .elt t' sz i off=>∃tk0,σ.T t'=some tk0∧Bl tk0.z cs σ fun ds σ'=>∃tk row,(σ'.T t'=some tk∧tk.z=tk0.z)∧tk.rows[i]? =some row∧row.length=sz∧off+ds.length≤sz∧K (σ'.setT t' ⟨tk.rows.set i (splice row off ds),tk.sz,if Dk row off ds=true then tk.gen else tk.gen+1,tk.z⟩)
  | .els t' g p sz i off=>Bl false cs σ fun ds σ'=>∃rows,subR σ'.T t' g p=some rows∧∃row,rows[i]? =some row∧(p≠ [] ∧row.length=sz∧off+ds.length≤sz∧Dk row off ds=true)∧∃tk,σ'.T t'=some tk∧K (σ'.setT t' ⟨putR p tk.rows (.sl (rows.set i (splice row off ds))),tk.sz,tk.gen,tk.z⟩)
  |_=>False)
theorem aZ {pos} {dst} {t} {a x}:opX P pos dst (.store t a x) σ K=stX P t (σ.e a) (cellsOf (σ.e x)) σ fun σ'=>K (σ'.put dst .any):=by
 unfold opX
 simp only [aop,MF,stX]
 split
 ·rename_i cs h
  rw [h,Hn]
  unfold Aa
  refine propext ⟨?_,?_⟩
  ·rintro ⟨h1,h2,h3,h4⟩; exact⟨⟨h1,h2,h3⟩,h4⟩
  ·rintro ⟨⟨h1,h2,h3⟩,h4⟩; exact⟨h1,h2,h3,h4⟩
 ·rename_i h
  rw [h,Rx]
@[go_sem] theorem aa {t} {b off} {cs}:stX P t (.box b off) (some cs) σ K=Aa (cs.length=tsz P t∧0<tsz P t∧cs.all AV.one=true) (optX (σ.B b) fun vs=>Aa (isMp vs=false) (Aa (off+cs.length≤vs.length) (A9 (splice vs off cs) fun vs'=>K (σ.setB b vs')))):=by
 rw [stX,Hn]; rfl
@[go_sem] theorem ae {t:TypeId} {t' sz i off:Nat} {cs:List AV}:stX P t (.elt t' sz i off) (some cs) σ K=Aa (cs.length=tsz P t∧0<tsz P t∧cs.all AV.one=true) (optX (σ.T t') fun tk0=>Bl tk0.z cs σ fun ds σ'=>optX (σ'.T t') fun tk=>Aa (tk.z=tk0.z) (optX tk.rows[i]? fun row=>Aa (row.length=sz∧off+ds.length≤sz) (O1 (tk.rows.set i (splice row off ds)) fun rows=>K (σ'.setT t' ⟨rows,tk.sz,if Dk row off ds=true then tk.gen else tk.gen+1,tk.z⟩)))):=by
 rw [stX,Hn]
 simp only [Aa,optX,NA]
 congr 1
 congr 1
 funext tk0
 congr 1
 congr 1
 funext ds σ'
 refine propext ⟨?_,?_⟩
 ·rintro ⟨tk,row,⟨h1,h0⟩,h2,h3,h4,h5⟩; exact⟨tk,h1,h0,row,h2,⟨h3,h4⟩,h5⟩
 ·rintro ⟨tk,h1,h0,row,h2,⟨h3,h4⟩,h5⟩; exact⟨tk,row,⟨h1,h0⟩,h2,h3,h4,h5⟩
section
variable {z:Bool}
@[go_sem] theorem Xf {e} {sz} {K}:PY z e sz .nils σ K=K [] σ:=rfl
@[go_sem] theorem Y4 {e} {sz b n sz'} {K}:PY z e sz (.bsl b n sz') σ K=if n=0 then K [] σ else Aa (sz'=sz) (YD z b n sz σ K):=rfl
@[go_sem] theorem Y5 {e} {sz t} {K}:PY z e sz (.own t) σ K=optX (σ.T t) fun tk=>Aa (tk.sz=some sz∧okZ z tk=true) (K tk.rows (σ.killT t)):=rfl
@[go_sem] theorem Xg {sz} {K}:Mq z sz .nils σ K=K [] σ:=rfl
@[go_sem] theorem Y6 {sz b n sz'} {K}:Mq z sz (.bsl b n sz') σ K=optX (σ.B b) fun vs=>Aa (sz'=sz∧vs.length=n*sz∧vs.all AV.one=true) (Bl z vs σ fun ds σ'=>A9 (CD sz n ds) fun rows=>K rows σ'):=by
 simp only [Mq,optX,Aa,A9]
 refine propext ⟨?_,?_⟩
 ·rintro ⟨vs,h1,h2,h3,h4,h5⟩; exact⟨vs,h1,⟨h2,h3,h4⟩,h5⟩
 ·rintro ⟨vs,h1,⟨h2,h3,h4⟩,h5⟩; exact⟨vs,h1,h2,h3,h4,h5⟩
@[go_sem] theorem ag {sz} {rows} {K}:Mq false sz (.ro rows) σ K=Aa (∀row ∈ rows,row.length=sz∧∀d ∈ row,d.flat=true) (K rows σ):=rfl
@[go_sem] theorem Y7 {sz:Nat} {rows:List (List D)} {K:List (List D)→St→Prop}:Mq true sz (.ro rows) σ K=Aa (∀row ∈ rows,row.length=sz∧∀d ∈ row,d≠ .gone) (O1 (fzR rows) fun r=>K r σ):=by
 simp only [Mq,Aa,NA]
end
attribute [go_sem] CD
def zX (K:Bool→Prop):Prop:=∃z,K z
def zY (K:Bool→Prop) (_:Wrap K):Prop:=∃z,K z
@[go_sem ↓] theorem jy {K}:zX K=zY K ⟨⟩:=rfl
theorem Ga {K} {w} (z:Bool) (h:K z):zY K w:=⟨z,h⟩
def apX (P:Program) (pos:Nat) (e:TypeId) (x y:AV) (dst:Option Tmp) (σ:St) (K:St→Prop):Prop:=
 Aa (0<tsz P e∧(tz P e).length =tsz P e) (zX fun z=>PY z e (tsz P e) x σ fun rows σ1=>Mq z (tsz P e) y σ1 fun rows2 σ2=>
   Aa ((rows.length+rows2.length)*P.bytesOf e≤140737488355328∧rows.length+rows2.length≤maxLen) (Aa (look σ2.t (pos*16)=none) (K ((σ2.setT (pos*16) ⟨rows++rows2,some (tsz P e),0,z⟩).put dst (.own (pos*16))))))
theorem Y8 {pos} {dst} {x y} {t}:opX P pos dst (.call ⟨.builtin .append,List.toArray [x,y],List.toArray [t,t]⟩) σ K=slX (ti P t) fun e=>apX P pos e (σ.e x) (σ.e y) dst σ K:=by
 unfold opX
 simp only [aop,Up,slX,true_and]
 generalize ti P t=q
 split
 ·rename_i e
  show (0<tsz P e∧(tz P e).length =tsz P e∧_)=((0<tsz P e∧(tz P e).length =tsz P e)∧_)
  rw [and_assoc]
  congr 1
  congr 1
  show (∃z,_)=(∃z,_)
  congr 1
  funext z
  congr 1
  funext rows σ1
  congr 1
  funext rows2 σ2
  show (_∧_∧_∧_)=((_∧_)∧_∧_)
  rw [and_assoc]
 ·rename_i h
  cases q with
  |sl e=>exact(h e rfl).elim
  |_=>rfl
end
attribute [go_sem ↓] cr
attribute [go_sem ↓] aL cq aM aP aQ Y3 aS ct aU aV aW cy aX aY aa ae Xf Y4 Y5 Xg Y6 ag Y7
end Go.Proofs.YtaedfiifhjlmlaaGreat.Ab
namespace Go.Proofs.YtaedfiifhjlmlaaGreat.Ab
set_option linter.unusedVariables false
open Go.RowKit
section
variable {P:Program} {σ:St} {K:St→Prop} {Q:AE→St→Prop}
@[go_sem] theorem wrap64 {n} (h1: -9223372036854775808≤n) (h2:n≤9223372036854775807):IntKind.i64.wrap n=n:=Go.IntWalk.i64_in n ⟨h1,h2⟩
@[go_sem ↓] theorem fe {K}:Lk P σ [] K=K [] :=rfl
@[go_sem ↓] theorem ff {t} {l} {K}:Lk P σ (.tmp t::l) K=A9 (σ.g t) fun v=>Lk P σ l fun vs=>K (v::vs):=rfl
@[go_sem ↓] theorem d9 {a} {t} {l} {K}:Lk P σ (.cell a t::l) K=M9 P t (σ.g a) σ fun v=>Lk P σ l fun vs=>K (v::vs):=rfl
@[go_sem] theorem ah {k} {n m}:C0 (.int k n) (.int k m) σ K=Aa (n=m) (K σ):=by simp [C0,Aa]
@[go_sem] theorem Y9 {b c}:C0 (.bool b) (.bool c) σ K=Aa (b=c) (K σ):=by simp [C0,Aa]
@[go_sem] theorem ai {s s'}:C0 (.str s) (.str s') σ K=Aa (s=s') (K σ):=by simp [C0,Aa]
@[go_sem] theorem aj {t} {ap} {rows}:C0 (.own t) (.ow ap rows) σ K=optX (σ.T t) fun tk=>Aa (tk.rows=rows) (Aa (ap=none∨tk.sz=ap) (Aa (tk.z=false) (K (σ.killT t)))):=by simp only [C0,Aa,optX]
@[go_sem] theorem ak {vs} {rs}:C0 (.agg vs) (.agg rs) σ K=H0 vs rs σ K:=by simp only [C0]
@[go_sem] theorem am {vs} {rs}:C0 (.tup vs) (.tup rs) σ K=H0 vs rs σ K:=by simp only [C0]
@[go_sem] theorem ZA:H0 [] [] σ K=K σ:=by simp only [H0]
@[go_sem] theorem Xh {v} {vs} {r} {rs}:H0 (v::vs) (r::rs) σ K=C0 v r σ fun σ'=>H0 vs rs σ' K:=by simp only [H0]
def Xi (r:RV) (σ:St) (vs:List AV):Prop:=match vs with
 | [v] =>C0 v r σ fun _=>True
 |vs=>C0 (.tup vs) r σ fun _=>True
@[go_sem ↓] theorem iH {r}:Xi r σ [] =C0 (.tup []) r σ fun _=>True:=rfl
@[go_sem ↓] theorem iI {r} {v}:Xi r σ [v] =C0 v r σ fun _=>True:=rfl
@[go_sem ↓] theorem iJ {r} {v u} {vs}:Xi r σ (v::u::vs)=C0 (.tup (v::u::vs)) r σ fun _=>True:=rfl
def endX (P:Program) (l:List ResultVar) (r:RV) (q:AE) (σ:St):Prop:=match q with| .exit _=>False|_=>Lk P σ l (Xi r σ)
@[go_sem ↓] theorem cz {l} {r}:endX P l r .normal σ=Lk P σ l (Xi r σ):=rfl
@[go_sem ↓] theorem iK {l} {r}:endX P l r .ret σ=Lk P σ l (Xi r σ):=rfl
theorem fg (hm:P.follows .mixedOrders =true) {f} {fn} {c} {l} {args} {r} (hf:P.funcs[f]? =some fn) (hb:fn.body=some c) (hr:fn.results=l.toArray) (hnm:(fn.name == "runtime.NumGoroutine")=false)
  (hn:decide (args.length≤fn.ntmps)=true) (hok:FZ fn.ntmps c=true) (h:awp P c (endX P l r) (st0 args)):AC P f args r:=by
 refine VC hm hf hb hnm (of_decide_eq_true hn) hok ?_
 have e:endQ P fn.results.toList r=endX P l r:=by
  rw [hr]
  funext q σ
  cases q <;> rfl
 rw [e]
 exact h
attribute [go_sem] st0 QF
def ZB {X:Type} (R:X→Prop) (inv:X→St) (μ:X→Nat) (x:X) (σ:St):Prop:=∃x',Zh σ (inv x')∧R x'∧μ x'<μ x
def c7 {X:Type} (R:X→Prop) (inv:X→St) (μ:X→Nat) (x:X) (σ:St) (_:Wrap R) (_:Wrap inv) (_:Wrap μ) (_:Wrap x):Prop:=ZB R inv μ x σ
@[go_sem ↓] theorem eA {X:Type} {R:X→Prop} {inv:X→St} {μ:X→Nat} {x:X} {σ:St}:ZB R inv μ x σ=c7 R inv μ x σ ⟨⟩ ⟨⟩ ⟨⟩ ⟨⟩:=rfl
attribute [go_sem] Ji TE Pd Pe ren rens Ep GC List.nodup_nil List.all_nil List.all_cons AV.int.injEq AV.bool.injEq AV.str.injEq AV.ro.injEq AV.rop.injEq AV.agg.injEq AV.fn.injEq AV.own.injEq AV.box.injEq AV.bsl.injEq AV.elt.injEq List.cons.injEq Tok.mk.injEq Option.isSome_some exists_eq_left' exists_eq_left
end
attribute [go_sem ↓] ah Y9 ai aj ak am ZA Xh
end Go.Proofs.YtaedfiifhjlmlaaGreat.Ab
namespace Go.Proofs.YtaedfiifhjlmlaaGreat.Ab
set_option linter.unusedVariables false
open Go.RowKit
section
variable {P:Program} {σ:St} {K:St→Prop} {pos:Nat} {dst:Option Tmp} {t t' s d:TypeId} {x y a b c g l:Operand} {f i:Nat} {op:BinOp}
def slY (t:TI) (K:TypeId→Prop) (_:Wrap K):Prop:=slX t K
@[go_sem ↓] theorem jS {t} {K}:slX t K=slY t K ⟨⟩:=rfl
@[go_sem] theorem jT {e} {K} {w}:slY (.sl e) K w=K e:=rfl
def bh (t:TI) (K:IntKind→Prop) (_:Wrap K):Prop:=Yz t K
@[go_sem ↓] theorem fh {t} {K}:Yz t K=bh t K ⟨⟩:=rfl
@[go_sem] theorem eC {k} {K} {w}:bh (.int k) K w=K k:=rfl
def stY (P:Program) (t:TI) (K:List (Nat × TypeId)→Prop) (_:Wrap K):Prop:=T1 P t K
@[go_sem ↓] theorem jU {t} {K}:T1 P t K=stY P t K ⟨⟩:=rfl
@[go_sem] theorem jV {fs} {K} {w}:stY P (.st fs) K w=K fs:=rfl
@[go_sem] theorem iL {n} {el} {K} {w}:stY P (.arr n el) K w=Aa (0<tsz P el) (A9 (KY (tsz P el) el n 0) K):=rfl
def fi (rows:List (List D)) (n:Int) (sz:Nat) (K:List D→Prop) (_:Wrap K):Prop:=Xb rows n sz K
@[go_sem ↓] theorem iM {rows} {n} {sz} {K}:Xb rows n sz K=fi rows n sz K ⟨⟩:=rfl
def fj {α:Type} (v:α) (K:α→Prop) (_:Wrap K):Prop:=O1 v K
@[go_sem ↓] theorem iN {α:Type} {v:α} {K:α→Prop}:O1 v K=fj v K ⟨⟩:=rfl
theorem C5 {α:Type} {v} {K} {w} (y:α) (h:v=y) (hk:K y):fj v K w:=⟨y,h,hk⟩
def Kv (n:Nat) (rs:List RV) (K:List AV→List (Nat × Tok)→Prop) (_:Wrap K):Prop:=K (Eo n rs).1 (Eo n rs).2
def cv1 (n:Nat) (r:RV) (K:AV→List (Nat × Tok)→Prop):Prop:=K (conv n r).1 (conv n r).2
section
variable {n:Nat} {rs us:List RV} {L:List AV→List (Nat × Tok)→Prop} {L1:AV→List (Nat × Tok)→Prop} {w:Wrap L}
@[go_sem] theorem an:Kv n [] L w=L [] [] :=rfl
@[go_sem] theorem aq {k} {x}:Kv n (.int k x::rs) L w=Kv n rs (fun vs ts=>L (.int k x::vs) ts) ⟨⟩:=by simp only [Kv,Eo,conv,List.length_nil,Nat.add_zero,List.nil_append]
@[go_sem] theorem ZC {b}:Kv n (.bool b::rs) L w=Kv n rs (fun vs ts=>L (.bool b::vs) ts) ⟨⟩:=by simp only [Kv,Eo,conv,List.length_nil,Nat.add_zero,List.nil_append]
@[go_sem] theorem ar {x}:Kv n (.str x::rs) L w=Kv n rs (fun vs ts=>L (.str x::vs) ts) ⟨⟩:=by simp only [Kv,Eo,conv,List.length_nil,Nat.add_zero,List.nil_append]
@[go_sem] theorem c8 {ap} {x}:Kv n (.ow ap x::rs) L w=Kv (n+1) rs (fun vs ts=>L (.own n::vs) ((n,⟨x,ap,0,false⟩)::ts)) ⟨⟩:=by simp only [Kv,Eo,conv,List.length_nil,List.length_cons,Nat.zero_add,List.cons_append,List.nil_append]
@[go_sem ↓] theorem iO {k} {x}:cv1 n (.int k x) L1=L1 (.int k x) [] :=rfl
@[go_sem ↓] theorem fk {b}:cv1 n (.bool b) L1=L1 (.bool b) [] :=rfl
@[go_sem ↓] theorem iP {x}:cv1 n (.str x) L1=L1 (.str x) [] :=rfl
@[go_sem ↓] theorem jW {x}:cv1 n (.ro x) L1=L1 .any [] :=rfl
@[go_sem ↓] theorem fl:cv1 n .nilp L1=L1 .nilp [] :=rfl
@[go_sem ↓] theorem jX {ap} {x}:cv1 n (.ow ap x) L1=L1 (.own n) [(n,⟨x,ap,0,false⟩)] :=rfl
@[go_sem ↓] theorem iQ:cv1 n (.agg us) L1=Kv n us (fun ws ts=>L1 (.agg ws) ts) ⟨⟩:=by simp only [Kv,cv1,conv]
@[go_sem ↓] theorem iR:cv1 n (.tup us) L1=Kv n us (fun ws ts=>L1 (.tup ws) ts) ⟨⟩:=by simp only [Kv,cv1,conv]
end
attribute [go_sem ↓] an aq ZC ar c8
def Rz (P:Program) (L:Bool) (pos:Nat) (f:FuncId) (args:List AV) (as:Option (List AV)) (dst:Option Tmp) (σ:St) (K:St→Prop) (_:Wrap K) (w:Wrap L):Prop:=Ry P L pos f args as dst σ K w
@[go_sem ↓] theorem fo {L} {wL} {f} {args} {as}:Ry P L pos f args as dst σ K wL=Rz P L pos f args as dst σ K ⟨⟩ wL:=rfl
theorem AH {f} {args bs} {w} {rv} (h:AC P f bs rv) (hk:A9 (pos*16) fun m=>cv1 m rv fun v ts=>Aa (Cs σ ts) (K (σ.add dst ⟨v,ts,[]⟩))) {L} {wL}:Rz P L pos f args (some bs) dst σ K w wL:=aT h hk.1 hk.2
theorem Ao {f} {args bs} {w} {rv} {o} (h:AG P f bs [] [] rv [] []) (e:cls (fun _=>none) (fun _=>none) args=some bs) (hp:RT rv=true) (hk:K (σ.add dst ⟨rv,[],[]⟩)) {L} {wL}:Rz P L pos f args o dst σ K w wL:=.inl (.inr ⟨bs,rv,[],[],h,e,.inl ⟨rfl,hp,hk⟩⟩)
theorem WU {f} {args bs} {w} {q} {rows} {sz} {z} {o} (h:AG P f bs [] [] (.own q) [(q,⟨rows,sz,0,z⟩)] []) (e:cls (fun _=>none) (fun _=>none) args=some bs) (hk:Aa (look σ.t (pos*16)=none) (K (σ.add dst ⟨.own (pos*16),[(pos*16,⟨rows,sz,0,z⟩)],[]⟩))) {L} {wL}:Rz P L pos f args o dst σ K w wL:=.inl (.inr ⟨bs,.own q,_,[],h,e,.inr (.inl ⟨q,_,rfl,rfl,rfl,hk.1,hk.2⟩)⟩)
attribute [go_sem] RT
def WV (y:Way) (as:List AV) (pt:List (Nat × Tok)) (pb:List (Nat × List AV)) (qt:List (Nat × Tok)) (qb:List (Nat × List AV)):Bool:=
 decide (((y.rt++y.nt).map (·.2)).Nodup)&&decide (((y.rt++y.nt).map (·.1)).Nodup)&&decide (((y.rb.map (·.2.1))++y.nb.map (·.2)).Nodup)&&decide (((y.rb.map (·.1))++y.nb.map (·.1)).Nodup)&&
 (y.rt.all fun p=>(look pt p.1).isSome)&&(y.rb.all fun p=>(look pb p.1).isSome)&&(y.nt.all fun p=>(look pt p.1).isNone)&&(y.nb.all fun p=>(look pb p.1).isNone)&&decide ((pt.map (·.1)).Nodup)&&decide ((pb.map (·.1)).Nodup)&&
 (pb.all fun p=>(look qb p.1).isSome)&&KZ y.rt y.cv&&(y.md||noZ qt)&&YE as pt pb&&(y.rt.all fun p=>decide (p.1 <1000)||(look qt p.1).isNone)
def QL:List (Nat × Nat)→List (Nat × Option Tok)→Prop
 | [],_=>True
 |(_,n)::r,t=>look t n=none∧QL r t
def NB:List (Nat × Nat)→List (Nat × Option (List AV))→Prop
 | [],_=>True
 |(_,n)::r,t=>look t n=none∧NB r t
def WW (y:Way) (args as:List AV) (pt:List (Nat × Tok)) (pb:List (Nat × List AV)) (σ1:St):Prop:=
 QL y.nt σ1.t∧NB y.nb σ1.b∧Oa y.rt σ1 pt∧GB y σ1 (σ1.less y) pb∧PasL y (σ1.less y) args as
theorem Ol {t}:∀ {l},QL l t→∀p ∈ l,(look t p.2).isNone =true
 | [],_,p,h=>by cases h
 |(c,n)::l,hf,p,h=>by
  simp only [QL] at hf
  rcases List.mem_cons.1 h with rfl|h
  ·rw [hf.1]; rfl
  ·exact Ol hf.2 p h
theorem NC {t}:∀ {l},NB l t→∀p ∈ l,(look t p.2).isNone =true
 | [],_,p,h=>by cases h
 |(c,n)::l,hf,p,h=>by
  simp only [NB] at hf
  rcases List.mem_cons.1 h with rfl|h
  ·rw [hf.1]; rfl
  ·exact NC hf.2 p h
theorem ZD {f} {args} {σ} {as} {pt} {pb} {r} {qt} {qb} {K} (y:Way) (h:AG P f as pt pb r qt qb) (hB:WV y as pt pb qt qb=true)
  (hc:Ct y.cv σ fun σ1=>Aa (WW y args as pt pb σ1) (CA y.cv (σ1.after y qt qb) fun σ2=>K (bak y r) σ2)):RU P f args σ K:=by
 refine⟨y,as,pt,pb,r,qt,qb,h,H6 (fun σ1 h=>?_) hc⟩
 unfold WV at hB
 simp only [Bool.and_eq_true,decide_eq_true_eq,and_assoc] at hB
 obtain⟨b1,b2,b3,b4,b5,b6,b7,b8,b9,b10,b11,b12,bm,b13,b14⟩:=hB
 obtain⟨⟨h1,h2,h3,h4,h5⟩,h6⟩:=h
 refine⟨⟨b1,b2,b3,b4,b5,b6,?_,?_,b9,b10⟩,h3,h4,h5,b11,⟨b12,bm⟩,b13,b14,h6⟩
 ·rw [List.all_eq_true] at b7 ⊢
  intro p hp
  rw [b7 p hp,Ol h1 p hp]; rfl
 ·rw [List.all_eq_true] at b8 ⊢
  intro p hp
  rw [b8 p hp,NC h2 p hp]; rfl
theorem c9 {L} {wL} {f} {args} {o} {w} {as} {pt} {pb} {r} {qt} {qb} (y:Way) (hL:L=true) (h:AG P f as pt pb r qt qb) (hB:WV y as pt pb qt qb=true)
  (hc:Ct y.cv σ fun σ1=>Aa (WW y args as pt pb σ1) (CA y.cv (σ1.after y qt qb) fun σ2=>K (σ2.put dst (bak y r)))):Rz P L pos f args o dst σ K w wL:=.inr ⟨hL,[],ZD (K:=fun v σ'=>K (σ'.put dst v)) y h hB hc⟩
@[go_sem ↓] theorem iS {args} {K}:FzK [] args σ K=K args σ:=rfl
@[go_sem ↓] theorem ft {b} {r} {args} {s} {t} {bb} {K}:FzK (b::r) args ⟨s,t,bb⟩ K=optX ((look bb b).join) fun vs=>Aa (1000≤b∧isMp vs=false) (A9 (args.map (fzA b vs)) fun args'=>FzK r args' ⟨s,t,(b,none)::bb⟩ K):=rfl
section
variable {b:Nat} {vs:List AV}
@[go_sem] theorem iT {x n sz}:fzA b vs (.bsl x n sz)=(cl (fun _=>none) (only b vs) (.bsl x n sz)).getD (.bsl x n sz):=rfl
@[go_sem] theorem iU {x off}:fzA b vs (.box x off)=(cl (fun _=>none) (only b vs) (.box x off)).getD (.box x off):=rfl
@[go_sem] theorem iV {us}:fzA b vs (.agg us)=(cl (fun _=>none) (only b vs) (.agg us)).getD (.agg us):=rfl
@[go_sem] theorem iW {k} {n}:fzA b vs (.int k n)= .int k n:=rfl
@[go_sem] theorem fu {x}:fzA b vs (.bool x)= .bool x:=rfl
@[go_sem] theorem iX {x}:fzA b vs (.str x)= .str x:=rfl
@[go_sem] theorem jY {x}:fzA b vs (.ro x)= .ro x:=rfl
@[go_sem] theorem iY {x}:fzA b vs (.own x)= .own x:=rfl
@[go_sem] theorem iZ {x} {off}:fzA b vs (.rop x off)= .rop x off:=rfl
@[go_sem] theorem ia {t sz i off}:fzA b vs (.elt t sz i off)= .elt t sz i off:=rfl
@[go_sem] theorem jZ {f} {x}:fzA b vs (.fn f x)= .fn f x:=rfl
@[go_sem] theorem fv:fzA b vs .nilp = .nilp :=rfl
@[go_sem] theorem fw:fzA b vs .nils = .nils :=rfl
@[go_sem] theorem ib {x}:fzA b vs (.mpr x)= .mpr x:=rfl
@[go_sem] theorem ic:fzA b vs .any = .any :=rfl
end
attribute [go_sem] Option.getD_some Option.getD_none Option.join_some Option.bind_some Option.bind_none only
attribute [go_sem] ne_eq true_imp_iff implies_true false_imp_iff Dk D.flat kept WW QL NB Oa St.less Ob PZ Pa Pb Uq Ur St.after bak baks GB
@[go_sem ↓] theorem eD:Ct [] σ K=K σ:=by rw [Ct]
@[go_sem ↓] theorem dA {n} {z} {r} {s} {t} {b}:Ct ((n,.nils,z)::r) ⟨s,t,b⟩ K=Aa (look t n=none) (Ct r ⟨s,(n,some ⟨[],z,0,false⟩)::t,b⟩ K):=by rw [Ct]; rfl
@[go_sem ↓] theorem ie:CA [] σ K=K σ:=by rw [CA]
def unX (n:Nat) (K:St→Prop) (σ:St):Prop:=K {σ with t:=(n,none)::σ.t}
@[go_sem ↓] theorem ja {n} {s} {t} {b}:unX n K ⟨s,t,b⟩=K ⟨s,(n,none)::t,b⟩:=rfl
@[go_sem ↓] theorem fx {n} {z} {r}:CA ((n,.nils,z)::r) σ K=CA r σ (unX n K):=by rw [CA]; rfl; all_goals (intros; simp_all)
def unO (o:Option Tok) (n t' g:Nat) (p:Pth) (K:St→Prop) (σ:St):Prop:=match o with
 |some tn=>Aa (n≠t') (optX (σ.T t') fun tk=>Aa (okZ tk.z tn=true) (Aa (SF p tk.rows=some .gone) (O1 (putR p tk.rows (.sl tn.rows)) fun rows=>K ⟨σ.s,(n,none)::(t',some ⟨rows,tk.sz,if tn.gen=0∧tk.gen=g then g else tk.gen+tn.gen+1,tk.z⟩)::σ.t,σ.b⟩)))
 |none=>K σ
@[go_sem] theorem fy {n t' g} {p} {tn}:unO (some tn) n t' g p K σ=Aa (n≠t') (optX (σ.T t') fun tk=>Aa (okZ tk.z tn=true) (Aa (SF p tk.rows=some .gone) (O1 (putR p tk.rows (.sl tn.rows)) fun rows=>K ⟨σ.s,(n,none)::(t',some ⟨rows,tk.sz,if tn.gen=0∧tk.gen=g then g else tk.gen+tn.gen+1,tk.z⟩)::σ.t,σ.b⟩))):=rfl
@[go_sem] theorem f6 {n t' g} {p}:unO none n t' g p K σ=K σ:=rfl
section
variable {y:Way} {σ0:St}
@[go_sem] theorem f7:PasL y σ0 [] [] =True:=by simp only [PasL]
@[go_sem] theorem eE {a b} {as bs}:PasL y σ0 (a::as) (b::bs)=(FY y σ0 a b∧PasL y σ0 as bs):=by simp only [PasL]
@[go_sem] theorem ig {n c}:FY y σ0 (.own n) (.own c)=(look y.rt c=some n∨∃z,∃m,look y.rt c=some m∧look y.cv m=some (.own n,z)):=by
 simp only [FY]
 refine propext ⟨?_,?_⟩
 ·rintro ⟨m,h1,h2|⟨z,h2⟩⟩
  ·cases h2; exact .inl h1
  ·exact .inr ⟨z,m,h1,h2⟩
 ·rintro (h|⟨z,m,h1,h2⟩)
  ·exact⟨n,h,.inl rfl⟩
  ·exact⟨m,h1,.inr ⟨z,h2⟩⟩
def cvX (o:Option (AV × Option Nat)) (a:AV):Prop:=match o with|some x=>x.1 =a|none=>False
theorem au {o} {a}:(∃z,o=some (a,z))=cvX o a:=by
 unfold cvX
 cases o with
 |none=>simp
 |some x=>obtain⟨b,z⟩:=x; simp
def rtX (o:Option Nat) (K:Nat→Prop):Prop:=match o with|some n=>K n|none=>False
@[go_sem] theorem f8 {n} {K}:rtX (some n) K=K n:=rfl
@[go_sem] theorem f9 {x} {a}:cvX (some x) a=(x.1 =a):=rfl
theorem aw {o} {p}:(∃n,o=some n∧p n)=rtX o p:=by
 cases o <;> simp [rtX]
@[go_sem] theorem gA {c}:FY y σ0 .nils (.own c)=rtX (look y.rt c) fun n=>cvX (look y.cv n) .nils :=by
 rw [← aw]
 simp only [FY,reduceCtorEq,false_or,au]
@[go_sem] theorem ii {n off b off'}:FY y σ0 (.box n off) (.box b off')=match look y.rb b with|some q=>n=q.1 ∧off=q.2 +off'|none=>False:=by
 simp only [FY,AV.box.injEq]
 cases look y.rb b <;> simp
@[go_sem] theorem ik {vs us}:FY y σ0 (.agg vs) (.agg us)=PasL y σ0 vs us:=by simp only [FY]
def clW (y:Way) (σ0:St) (a:AV):Option AV:=cl (if y.md=true then fun _=>none else σ0.T) (if y.md=true then fun _=>none else σ0.B) a
@[go_sem] theorem il {a} {k} {n}:FY y σ0 a (.int k n)=(clW y σ0 a=some (.int k n)):=by cases a <;> simp only [FY,clW]
@[go_sem] theorem im {a} {s}:FY y σ0 a (.str s)=(clW y σ0 a=some (.str s)):=by cases a <;> simp only [FY,clW]
@[go_sem] theorem jb {a} {rows}:FY y σ0 a (.ro rows)=(clW y σ0 a=some (.ro rows)):=by cases a <;> simp only [FY,clW]
@[go_sem] theorem io {a} {vs} {off}:FY y σ0 a (.rop vs off)=narR (clW y σ0 a) vs off:=by cases a <;> simp only [FY,clW]
@[go_sem] theorem gB {us} {o'} {vs} {off}:narR (some (.rop us o')) vs off=((us=vs∧o'=off)∨(off=0∧Eh us o' vs.length=vs)):=rfl
@[go_sem] theorem gC {a}:FY y σ0 a .nilp =(clW y σ0 a=some .nilp):=by cases a <;> simp only [FY,clW]
@[go_sem] theorem jc {cv rt rb nt nb} {a}:clW ⟨cv,rt,rb,nt,nb,true⟩ σ0 a=cl (fun _=>none) (fun _=>none) a:=by simp [clW]
@[go_sem] theorem jd {cv rt rb nt nb} {a}:clW ⟨cv,rt,rb,nt,nb,false⟩ σ0 a=cl σ0.T σ0.B a:=by simp [clW]
end
@[go_sem ↓] theorem eF:opX P pos dst (.makeMap t none) σ K=optX (YC P t) fun q=>Aa (look σ.b pos=none) (K ((σ.put dst (.mpr pos)).setB pos [.mpc q []])):=by
 rw [OA (fun _=>by simp only [aop])]
 simp only [Ev,optX,Aa]
 refine propext ⟨?_,?_⟩
 ·rintro ⟨r,⟨q,h1,rfl⟩,-,h2,h3⟩
  exact⟨q,h1,h2.1,by rw [← Ii]; exact h3⟩
 ·rintro ⟨q,h1,h2,h3⟩
  exact⟨_,⟨q,h1,rfl⟩,trivial,⟨h2,trivial⟩,by rw [Ii]; exact h3⟩
def lkR (ok:Bool) (o:Option D) (z:AV) (K:AV→Prop):Prop:=K (if ok=true then .tup [(o.map ofD).getD z,.bool o.isSome] else (o.map ofD).getD z)
@[go_sem] theorem je {o} {z} {K}:lkR false o z K=A9 ((o.map ofD).getD z) K:=by simp [lkR,A9]
def lkX (P:Program) (t:TypeId) (u v:AV) (ok:Bool) (σ:St) (K:AV→Prop):Prop:=∃r,OY P σ.B t u v ok r∧K r
@[go_sem] theorem ip {b} {v} {ok} {K}:lkX P t (.mpr b) v ok σ K=Y2 (ti P t) fun kt et=>Xe (σ.B b) fun q rows=>Aa (TB P kt=some q) (optX (keyD v) fun k=>Aa (Un q k=true) (optX (tz1 P et) fun z=>A9 (zAV z) fun z'=>A9 (I5 k rows) fun o=>lkR ok o z' K)):=by
 simp only [lkX,OY,Y2,Xe,Aa,optX,A9,lkR]
 generalize ti P t=w
 cases w with
 |map kt et=>
  simp only
  refine propext ⟨?_,?_⟩
  ·rintro ⟨r,⟨q,rows,h1,h2,k,h3,h4,z,h5,rfl⟩,h6⟩; exact⟨q,rows,h1,h2,k,h3,h4,z,h5,h6⟩
  ·rintro ⟨q,rows,h1,h2,k,h3,h4,z,h5,h6⟩; exact⟨_,⟨q,rows,h1,h2,k,h3,h4,z,h5,rfl⟩,h6⟩
 |_=>simp
@[go_sem ↓] theorem gD {ok}:opX P pos dst (.lookup t x y ok) σ K=A9 (σ.e x) fun u=>A9 (σ.e y) fun v=>lkX P t u v ok σ fun r=>K (σ.put dst r):=
 Gv (p:=fun v=>OY P σ.B t (σ.e x) (σ.e y) ok v) (fun _=>by simp only [aop]) (fun r=>by simp only [Ev])
def R0 (a:AV):Option D:=match Jh [a] with|some [d] =>some d|_=>none
@[go_sem] theorem eG {k} {n}:R0 (.int k n)=some (.int k n):=rfl
@[go_sem] theorem dB {b}:R0 (.bool b)=some (.bool b):=rfl
@[go_sem] theorem eH {s}:R0 (.str s)=some (.str s):=rfl
theorem ZE {a} {d}:Jh [a] =some [d] ↔R0 a=some d:=by
 unfold R0
 cases a <;> simp [Jh]
def muX (P:Program) (t:TypeId) (u v x:AV) (σ:St) (K:St→Prop):Prop:=TC P t u v x σ K
@[go_sem] theorem iq {b:Nat} {v x:AV}:muX P t (.mpr b) v x σ K=Y2 (ti P t) fun kt et=>Xe (σ.B b) fun q rows=>Aa (rows.length<68719476736) (Aa (TB P kt=some q) (optX (keyD v) fun k=>Aa (Un q k=true) (optX (R0 x) fun d=>O1 (mput k d rows) fun rows'=>K (σ.setB b [.mpc q rows'])))):=by
 simp only [muX,TC,Y2,Xe,Aa,optX,NA]
 generalize ti P t=w
 cases w with
 |map kt et=>
  simp only [ZE]
 |_=>rfl
@[go_sem ↓] theorem bi {m i}:opX P pos dst (.mapUpdate t m i x) σ K=A9 (σ.e m) fun u=>A9 (σ.e i) fun v=>A9 (σ.e x) fun z=>muX P t u v z σ fun σ'=>K (σ'.put dst .any):=by
 unfold opX
 simp only [aop,A9,muX]
attribute [go_sem] keyD
@[go_sem] theorem gE {s}:Un .str (.str s)=true:=rfl
@[go_sem ↓] theorem jf:opX P pos dst (.pick c a b) σ K=A9 (σ.e c) fun u=>A9 (σ.e a) fun v=>A9 (σ.e b) fun w=>QK u v w fun v=>K (σ.put dst v):=cf
@[go_sem ↓] theorem jg:opX P pos dst (.load t a) σ K=A9 (σ.e a) fun u=>M9 P t u σ fun v=>K (σ.put dst v):=cg
@[go_sem ↓] theorem dC:opX P pos dst (.nilCheck x) σ K=A9 (σ.e x) fun u=>SV u fun v=>K (σ.put dst v):=VL
@[go_sem ↓] theorem eI {y}:opX P pos dst (.binOp op t x (.tmp y) t') σ K=A9 (σ.e x) fun u=>A9 (σ.g y) fun v=>Eu P op t u v fun v=>K (σ.put dst v):=XX
@[go_sem ↓] theorem eJ {k} {n}:opX P pos dst (.binOp op t x (.const (.int k n)) t') σ K=A9 (σ.e x) fun u=>Eu P op t u (.int k n) fun v=>K (σ.put dst v):=XY
@[go_sem ↓] theorem eK {b}:opX P pos dst (.binOp op t x (.const (.string b)) t') σ K=A9 (σ.e x) fun u=>Eu P op t u (.str b) fun v=>K (σ.put dst v):=XZ
@[go_sem ↓] theorem dD:opX P pos dst (.binOp op t x (.const (.pointer none)) t') σ K=A9 (σ.e x) fun u=>Eu P op t u .nilp fun v=>K (σ.put dst v):=VN
@[go_sem ↓] theorem jh {op}:opX P pos dst (.unOp op t x) σ K=A9 (σ.e x) fun u=>aA op u fun v=>K (σ.put dst v):=cj
@[go_sem ↓] theorem bj:opX P pos dst (.fieldAddr s x f) σ K=A9 (σ.e x) fun u=>faX P s u f fun v=>K (σ.put dst v):=Ty
@[go_sem ↓] theorem bk:opX P pos dst (.indexAddr t x y) σ K=A9 (σ.e x) fun u=>A9 (σ.e y) fun v=>iaX P t u v σ fun v=>K (σ.put dst v):=Tz
@[go_sem ↓] theorem ir {l h}:opX P pos dst (.slice t x l h none) σ K=A9 (σ.e x) fun u=>aI P σ.T t u (l.map σ.e) (h.map σ.e) fun v=>K (σ.put dst v):=aJ
@[go_sem ↓] theorem it:opX P pos dst (.index t x y) σ K=A9 (σ.e x) fun u=>A9 (σ.e y) fun v=>elX P t u v fun v=>K (σ.put dst v):=aH
@[go_sem ↓] theorem eL:opX P pos dst (.extract x i) σ K=A9 (σ.e x) fun u=>Xc u i fun v=>K (σ.put dst v):=Xd
@[go_sem ↓] theorem jz:opX P pos dst (.call ⟨.builtin .len,List.toArray [x],List.toArray [t]⟩) σ K=A9 (σ.e x) fun u=>T0 P t u σ fun v=>K (σ.put dst v):=fP
@[go_sem ↓] theorem j0 {ts}:opX P pos dst (.call ⟨.builtin .max,List.toArray [x,y],ts⟩) σ K=A9 (σ.e x) fun u=>A9 (σ.e y) fun v=>VO (fun n m=>if n<m then m else n) u v fun v=>K (σ.put dst v):=fQ
@[go_sem ↓] theorem j5:opX P pos dst (.box t x) σ K=A9 (cellsOf (σ.e x)) fun cs=>bxX pos cs dst (.box pos 0) σ K:=fU
@[go_sem ↓] theorem iu:opX P pos dst (.alloc t) σ K=Aa (0<(tz P t).length) (A9 ((tz P t).map zAV) fun vs=>bxX pos (some vs) dst (.box pos 0) σ K):=aN
@[go_sem ↓] theorem iw {parts}:opX P pos dst (.build t parts.toArray) σ K=T1 P (ti P t) fun fs=>Aa ((fs.all fun q=>decide (0<tsz P q.2))=true∧0<(tz P t).length) (A9 ((tz P t).map zAV) fun vs=>A9 (pvs σ parts) fun ps=>bpX P fs vs ps fun v=>K (σ.put dst v)):=aR
@[go_sem ↓] theorem bn:opX P pos dst (.makeSlice t l c) σ K=slX (ti P t) fun e=>A9 (σ.e l) fun u=>A9 (σ.e c) fun v=>mkX P pos e u v dst σ K:=T3
@[go_sem ↓] theorem ji {L} {wL} {args} {ts}:opL P L pos dst (.call ⟨.value g,args.toArray,ts⟩) σ K wL=A9 (σ.e g) fun u=>A9 (evs σ args) fun vs=>clX P L pos u vs dst σ K wL:=cu
@[go_sem ↓] theorem ix:opX P pos dst (.store t a x) σ K=A9 (σ.e a) fun u=>A9 (cellsOf (σ.e x)) fun cs=>stX P t u cs σ fun σ'=>K (σ'.put dst .any):=aZ
@[go_sem ↓] theorem gF:opX P pos dst (.call ⟨.builtin .append,List.toArray [x,y],List.toArray [t,t]⟩) σ K=slX (ti P t) fun e=>A9 (σ.e x) fun u=>A9 (σ.e y) fun v=>apX P pos e u v dst σ K:=Y8
def roX (z:Bool) (sz:Nat) (rows:List (List D)) (K:List (List D)→Prop):Prop:=roZ z sz rows K
@[go_sem] theorem j6 {sz} {rows} {K}:roX false sz rows K=Aa (∀row ∈ rows,row.length=sz∧∀d ∈ row,d.flat=true) (K rows):=rfl
@[go_sem ↓] theorem jj {e:TypeId} {u v:AV}:apX P pos e u v dst σ K=Aa (0<tsz P e∧(tz P e).length =tsz P e) (zX fun z=>PY z e (tsz P e) u σ fun rows σ1=>Mq z (tsz P e) v σ1 fun rows2 σ2=>
   Aa ((rows.length+rows2.length)*P.bytesOf e≤140737488355328∧rows.length+rows2.length≤maxLen) (Aa (look σ2.t (pos*16)=none) (O1 (rows++rows2) fun rows=>K ((σ2.setT (pos*16) ⟨rows,some (tsz P e),0,z⟩).put dst (.own (pos*16)))))):=by simp only [NA]; rfl
end
attribute [go_sem] zAV
section
variable {P:Program} {σ:St} {K:St→Prop} {ops:Array Oper} {base cut i:Nat}
@[go_sem] theorem dE {x} {xs b} {w1} {w2} {w3} {w4}:Kt P ops base cut i (List.append (x::xs) b) σ K w1 w2 w3 w4=Kt P ops base cut i (x::List.append xs b) σ K w1 ⟨⟩ w3 w4:=rfl
@[go_sem] theorem eM {b} {w1} {w2} {w3} {w4}:Kt P ops base cut i (List.append [] b) σ K w1 w2 w3 w4=Kt P ops base cut i b σ K w1 ⟨⟩ w3 w4:=rfl
@[go_sem ↓] theorem Zg {b} {j} {K}:M8 (List.toArray (List.append [] b)) j K=M8 b.toArray j K:=rfl
end
end Go.Proofs.YtaedfiifhjlmlaaGreat.Ab
namespace Go.Proofs.YtaedfiifhjlmlaaGreat.Ab
set_option linter.unusedVariables false
open Go.RowKit
def pos (P:Program):Code→List Nat→(AE→St→Prop)→St→Prop
 |c,[],Q=>awp P c Q
 | .seq a b,0::p,Q=>pos P a p (AE.then (Zu (Hz a) (awp P b Q)) Q)
 | .seq a b,_::p,Q=>pos P b p Q
 | .cond _ a b,0::p,Q=>pos P a p Q
 | .cond _ a b,_::p,Q=>pos P b p Q
 | .block id c,_::p,Q=>pos P c p (AE.inBlock id Q)
 | .loop c,_::p,Q=>pos P c p (AE.then (lpX P c Q) Q)
 |_,_,_=>fun _=>False
def AY (P:Program) (fn:Func) (p:List Nat) (r:RV) (σ:St):Prop:=pos P (fn.body.getD .skip) p (endX P fn.results.toList r) σ
def ZF (r:AV) (qt:List (Nat × Tok)) (qb:List (Nat × List AV)) (v:AV) (σ:St):Prop:=Wk ⟨[(0,v)],σ.t,σ.b⟩ ⟨[(0,r)],Kr qt,Ks qb⟩
def R1 (r:AV) (qt:List (Nat × Tok)) (qb:List (Nat × List AV)) (σ:St) (vs:List AV):Prop:=ZF r qt qb (oneA vs) σ
@[go_sem ↓] theorem gG {r} {qt} {qb} {σ}:R1 r qt qb σ [] =ZF r qt qb (.tup []) σ:=rfl
@[go_sem ↓] theorem gH {r v} {qt} {qb} {σ}:R1 r qt qb σ [v] =ZF r qt qb v σ:=rfl
@[go_sem ↓] theorem gI {r v u} {vs} {qt} {qb} {σ}:R1 r qt qb σ (v::u::vs)=ZF r qt qb (.tup (v::u::vs)) σ:=rfl
def Kw (P:Program) (l:List ResultVar) (r:AV) (qt:List (Nat × Tok)) (qb:List (Nat × List AV)) (q:AE) (σ:St):Prop:=match q with| .exit _=>False|_=>Lk P σ l (R1 r qt qb σ)
@[go_sem ↓] theorem bp {P} {l} {r} {qt} {qb} {σ}:Kw P l r qt qb .normal σ=Lk P σ l (R1 r qt qb σ):=rfl
@[go_sem ↓] theorem gJ {P} {l} {r} {qt} {qb} {σ}:Kw P l r qt qb .ret σ=Lk P σ l (R1 r qt qb σ):=rfl
theorem An {r v} {qt} {qb} {σ σ1} (hn:Nils ⟨[(0,v)],σ.t,σ.b⟩ σ1) (rt rb:List (Nat × Nat)) (h:Ji rt rb σ1 ⟨[(0,r)],Kr qt,Ks qb⟩):ZF r qt qb v σ:=.one ⟨σ1,hn,rt,rb,h⟩
attribute [go_sem] Kr Ks stG YF YG oneA
theorem gK {P} (hm:P.follows .mixedOrders =true) {f} {fn} {c} {l} {args} {pt} {pb} {r} {qt} {qb} (hf:P.funcs[f]? =some fn) (hb:fn.body=some c) (hr:fn.results=l.toArray) (hnm:(fn.name == "runtime.NumGoroutine")=false)
  (hn:decide (args.length≤fn.ntmps)=true) (hok:FZ fn.ntmps c=true) (h:awp P c (Kw P l r qt qb) (stG args pt pb)):AG P f args pt pb r qt qb:=by
 refine VD hm hf hb hnm (of_decide_eq_true hn) hok ?_
 have e:endG P fn.results.toList r qt qb=Kw P l r qt qb:=by
  rw [hr]
  funext q σ
  cases q <;> rfl
 rw [e]
 exact h
def Ei (P:Program) (fn:Func) (p:List Nat) (r:AV) (qt:List (Nat × Tok)) (qb:List (Nat × List AV)) (σ:St):Prop:=pos P (fn.body.getD .skip) p (Kw P fn.results.toList r qt qb) σ
section
variable {P:Program} {σ:St} {Q:AE→St→Prop}
theorem BV {fn} {c} {l} {p} {r} {qt} {qb} (hb:fn.body=some c) (hr:fn.results=l.toArray) (h:pos P c p (Kw P l r qt qb) σ):Ei P fn p r qt qb σ:=by
 unfold Ei; rw [hb,hr]; exact h
theorem HV {fn} {c} {l} {p} {r} {qt} {qb} (hb:fn.body=some c) (hr:fn.results=l.toArray) (h:Ei P fn p r qt qb σ):pos P c p (Kw P l r qt qb) σ:=by
 unfold Ei at h; rw [hb,hr] at h; exact h
theorem AK {fn} {c} {l} {p} {r} (hb:fn.body=some c) (hr:fn.results=l.toArray) (h:pos P c p (endX P l r) σ):AY P fn p r σ:=by
 unfold AY; rw [hb,hr]; exact h
theorem DR {fn} {c} {l} {p} {r} (hb:fn.body=some c) (hr:fn.results=l.toArray) (h:AY P fn p r σ):pos P c p (endX P l r) σ:=by
 unfold AY at h; rw [hb,hr] at h; exact h
@[go_sem ↓] theorem iy {c}:pos P c [] Q σ=awp P c Q σ:=by cases c <;> rfl
@[go_sem ↓] theorem gL {a b} {p}:pos P (.seq a b) (0::p) Q σ=pos P a p (AE.then (Zu (Hz a) (awp P b Q)) Q) σ:=rfl
@[go_sem ↓] theorem gM {a b} {p}:pos P (.seq a b) (1::p) Q σ=pos P b p Q σ:=rfl
@[go_sem ↓] theorem eN {c} {a b} {p}:pos P (.cond c a b) (0::p) Q σ=pos P a p Q σ:=rfl
@[go_sem ↓] theorem eO {c} {a b} {p}:pos P (.cond c a b) (1::p) Q σ=pos P b p Q σ:=rfl
@[go_sem ↓] theorem eP {id} {c} {p}:pos P (.block id c) (0::p) Q σ=pos P c p (AE.inBlock id Q) σ:=rfl
@[go_sem ↓] theorem gN {c} {p}:pos P (.loop c) (0::p) Q σ=pos P c p (AE.then (lpX P c Q) Q) σ:=rfl
theorem dF {c} {σ σ1} (hw:Wk σ σ1) (h:awp P (.loop c) Q σ1):awp P (.loop c) Q σ:=by
 rw [awp] at h ⊢
 intro L hL
 obtain⟨σ0,h1,h2⟩:=h L hL
 exact⟨σ0,hw.trans h1,h2⟩
theorem EH {b} {w1} {w2} {σ1} (h:awp P (.loop b) Q σ1) (hw:Wk σ σ1):Tu P b Q σ w1 w2:=dF hw h
end
mutual
theorem MY {rt rb}:∀ {a},Cv a=true→Ep rt rb a=true∧ren rt rb a=a
 | .int _ _,_=>⟨rfl,rfl⟩
 | .bool _,_=>⟨rfl,rfl⟩
 | .str _,_=>⟨rfl,rfl⟩
 | .ro _,_=>⟨rfl,rfl⟩
 | .nilp,_=>⟨rfl,rfl⟩
 | .rop vs off,h=>by
  simp only [Cv] at h
  obtain⟨h1,h2⟩:=F3 (rt:=rt) (rb:=rb) h
  simp only [Ep,ren]
  exact⟨h1,by rw [h2]⟩
 | .fn f vs,h=>by
  simp only [Cv] at h
  obtain⟨h1,h2⟩:=F3 (rt:=rt) (rb:=rb) h
  simp only [Ep,ren]
  exact⟨h1,by rw [h2]⟩
 | .agg vs,h=>by
  simp only [Cv] at h
  obtain⟨h1,h2⟩:=F3 (rt:=rt) (rb:=rb) h
  simp only [Ep,ren]
  exact⟨h1,by rw [h2]⟩
theorem F3 {rt rb}:∀ {as},CH as=true→GC rt rb as=true∧rens rt rb as=as
 | [],_=>⟨rfl,rfl⟩
 |a::as,h=>by
  simp only [CH,Bool.and_eq_true] at h
  obtain⟨h1,h2⟩:=MY (rt:=rt) (rb:=rb) h.1
  obtain⟨h3,h4⟩:=F3 (rt:=rt) (rb:=rb) h.2
  simp only [GC,rens,h1,h2,h3,h4,Bool.and_self,and_self]
end
mutual
theorem WX {T} {B}:∀ {a},Cv a=true→cl T B a=some a
 | .int _ _,_=>rfl
 | .bool _,_=>rfl
 | .str _,_=>rfl
 | .ro _,_=>rfl
 | .nilp,_=>rfl
 | .rop vs off,h=>by simp only [Cv] at h; simp only [cl,H8 h,Option.map_some]
 | .fn f vs,h=>by simp only [Cv] at h; simp only [cl,H8 h,Option.map_some]
 | .agg vs,h=>by simp only [Cv] at h; simp only [cl,H8 h,Option.map_some]
theorem H8 {T} {B}:∀ {as},CH as=true→cls T B as=some as
 | [],_=>rfl
 |a::as,h=>by
  simp only [CH,Bool.and_eq_true] at h
  simp only [cls,WX h.1,H8 h.2]
end
structure Still (vs:List AV):Prop where
 p:CH vs=true
 o:KV vs=true
 k:∀rt rb,GC rt rb vs=true
 r:∀rt rb,rens rt rb vs=vs
 c:∀T B,cls T B vs=some vs
 f:∀T B as,cls T B (fnA vs as)=(cls T B as).map (fnA vs)
theorem MZ {T} {B}:∀ {as bs:List AV},cls T B (as++bs)=(cls T B as).bind fun xs=>(cls T B bs).map fun ys=>xs++ys
 | [],bs=>by simp only [List.nil_append,cls,Option.bind_some]; cases cls T B bs <;> rfl
 | a::as,bs=>by
  simp only [List.cons_append,cls,MZ (as:=as)]
  cases cl T B a with
  |none=>simp
  |some x=>
   cases cls T B as with
   |none=>simp
   |some xs=>cases cls T B bs <;> simp
theorem ax {vs} (h:CH vs=true) (T B as):cls T B (fnA vs as)=(cls T B as).map (fnA vs):=by
 have h0:∀ {us},CH us=true→cls T B (as++us)=(cls T B as).map (· ++us):=fun hu=>by
  rw [MZ,H8 hu]; cases cls T B as <;> rfl
 unfold fnA
 split
 ·rename_i fs cs
  simp only [CH,Cv,Bool.and_eq_true] at h
  rw [MZ,H8 h.1,h0 h.2]
  cases cls T B as <;> rfl
 ·exact h0 h
theorem Still.of {vs} (h:CH vs=true) (ho:KV vs=true:=by rfl):Still vs:=⟨h,ho,fun _ _=>(F3 h).1,fun _ _=>(F3 h).2,fun _ _=>H8 h,ax h⟩
def Sub (a b:AV):Prop:=∀w γ v,VSim w γ a v→VSim w γ b v
theorem Sub.refl (a:AV):Sub a a:=fun _ _ _ h=>h
theorem Sub.rop {vs us} {off} (h:(vs.drop off).take us.length=us):Sub (.rop vs off) (.rop us 0):=fun w γ v hv=>by
 simp only [VSim] at hv ⊢
 obtain⟨b,o,xs,rfl,h1,h2⟩:=hv
 refine⟨b,o+off,(xs.drop off).take us.length,rfl,?_,fun j u hu=>?_⟩
 ·have:=h1.take_drop off us.length
  unfold Eh at this
  rw [h] at this; exact this
 ·rw [List.getElem?_take] at hu
  split at hu
  ·rw [List.getElem?_drop] at hu
   rw [Nat.add_assoc]; exact h2 _ _ hu
  ·cases hu
def QM:List AV→List AV→Prop
 | [],[] =>True
 |a::as,b::bs=>Sub a b∧QM as bs
 |_,_=>False
theorem QM.nil:QM [] [] :=trivial
theorem QM.cons {a b} {as bs} (h:Sub a b) (k:QM as bs):QM (a::as) (b::bs):=⟨h,k⟩
theorem QM.vsims {w} {γ}:∀ {as bs} {us},QM as bs→AI w γ as us→AI w γ bs us
 | [],[],us,_,h=>h
 |a::as,b::bs,us,h,hv=>by
  simp only [AI] at hv ⊢
  obtain⟨u,us',rfl,h1,h2⟩:=hv
  exact⟨u,us',rfl,h.1 _ _ _ h1,QM.vsims h.2 h2⟩
 | [],_::_,_,h,_=>h.elim
 |_::_,[],_,h,_=>h.elim
theorem VP {P} {f} {as bs} {r} (k:AC P f bs r) (h:QM as bs):AC P f as r:=
 ⟨k.1,fun w us h1 h2 ha h3=>k.2 w us h1 h2 ha (h.vsims h3)⟩
theorem dG {P} {f} {as bs} {pt pb} {r} {qt qb} (k:AG P f bs pt pb r qt qb) (h:QM as bs):AG P f as pt pb r qt qb:=
 ⟨k.1,fun cx γ us a b c d e g=>k.2 cx γ us a b c d e (h.vsims g)⟩
def QN (p:ByteArray × Bool):List D:=[.str p.1,.bool p.2]
def Fa {β:Type}:List (ByteArray × β)→ByteArray→Option β
 | [],_=>none
 |p::l,k=>if sameStr k p.1 =true then some p.2 else Fa l k
def Fb {β:Type}:List (ByteArray × β)→ByteArray→β→List (ByteArray × β)
 | [],k,v=>[(k,v)]
 |p::l,k,v=>if sameStr k p.1 =true then (k,v)::l else p::Fb l k v
def QO {β:Type} (l:List (ByteArray × β)) (k:ByteArray) (v:β):Option (List (ByteArray × β)):=if l.length<68719476736 then some (Fb l k v) else none
theorem VQ {β:Type} {l r:List (ByteArray × β)} {k:ByteArray} {v:β} (h:QO l k v=some r):l.length<68719476736∧Fb l k v=r:=by
 unfold QO at h
 split at h
 ·exact⟨‹_›,Option.some.inj h⟩
 ·cases h
theorem R2 {a b:ByteArray}:Hx (.str a) (.str b)=sameStr a b:=by simp only [Hx,sameStr]
theorem VS {l} {k}:I5 (.str k) (List.map QN l)=(Fa l k).map D.bool:=by
 induction l with
 |nil=>rfl
 |cons p l ih=>
  simp only [List.map_cons,QN,I5,Fa,R2]
  by_cases hk:sameStr k p.1 =true
  ·rw [if_pos hk,if_pos hk]; rfl
  ·rw [if_neg hk,if_neg hk]; exact ih
theorem Xj {l} {k} {v}:mput (.str k) (.bool v) (List.map QN l)=List.map QN (Fb l k v):=by
 induction l with
 |nil=>rfl
 |cons p l ih=>
  simp only [List.map_cons,QN,mput,Fb,R2]
  by_cases hk:sameStr k p.1 =true
  ·rw [if_pos hk,if_pos hk]; rfl
  ·rw [if_neg hk,if_neg hk,List.map_cons,← ih]; rfl
attribute [go_sem] VS
@[go_sem] theorem jk {o:Option Bool} {z:Bool}:((o.map D.bool).map ofD).getD (.bool z)= .bool (o.getD z):=by cases o <;> rfl
@[irreducible] def fuel:Nat:=4611686018427387904
theorem BL:fuel=4611686018427387904:=by unfold fuel; rfl
def at? {α:Type} (l:List α) (i:Int):Option α:=if 0≤i then l[i.toNat]? else none
def IV {α:Type} (a b:List α):Option (List α):=if a.length+b.length≤68719476736 then some (a++b) else none
def O2 {α:Type} (n:Int) (z:α):Option (List α):=if 0≤n∧n≤68719476736 then some (List.replicate n.toNat z) else none
def dH {α:Type} (l:List α) (i:Int) (x:α):List α:=l.set i.toNat x
def Kx {α:Type} (l:List α) (i:Int) (x:α):Option (List α):=some (dH l i x)
theorem Ho {α:Type} {l:List α} {i:Int} {x:α} {r:List α} (h:Kx l i x=some r):l.set i.toNat x=r:=Option.some.inj h
theorem AD {α β:Type} {x:Option α} {k:α→Option β} {r:β} (h:Option.bind x k=some r):∃v,x=some v∧k v=some r:=by
 cases x with
 |none=>cases h
 |some v=>exact⟨v,rfl,h⟩
theorem ifT {α:Type} {c:Bool} {a b r:α} (hb:c=true) (h:(if c=true then a else b)=r):a=r:=by rw [if_pos hb] at h; exact h
theorem ifF {α:Type} {c:Bool} {a b r:α} (hb:c=false) (h:(if c=true then a else b)=r):b=r:=by subst hb; exact h
theorem AB {b:Bool} {p q:Prop} {w:Wrap p} {w':Wrap q} {α:Type} {x y r:α} (h:(if b=true then x else y)=r) (hp:x=r→p) (hq:y=r→q):QJ b p q w w':=⟨fun e=>hp (ifT e h),fun e=>hq (ifF e h)⟩
theorem WY {α:Type} {l:List α} {i:Int} {x:α} (h:at? l i=some x):0≤i∧l[i.toNat]? =some x:=by
 unfold at? at h
 split at h
 ·exact⟨‹_›,h⟩
 ·cases h
theorem CZ {α:Type} {a b l:List α} (h:IV a b=some l):a.length+b.length≤68719476736∧a++b=l:=by
 unfold IV at h
 split at h
 ·exact⟨‹_›,Option.some.inj h⟩
 ·cases h
theorem JF {α:Type} {n:Int} {z:α} {l:List α} (h:O2 n z=some l):0≤n∧n≤68719476736∧List.replicate n.toNat z=l:=by
 unfold O2 at h
 split at h
 ·exact⟨(‹_∧_› :_).1,(‹_∧_› :_).2,Option.some.inj h⟩
 ·cases h
theorem AL {α:Type} {f:α→List D} {l:List α} {n:Int} {sz:Nat} {K:List D→Prop} {w:Wrap K} {x:α} (h:at? l n=some x) (hl:(f x).length =sz) (hk:K (f x)):fi (List.map f l) n sz K w:=by
 obtain⟨h0,h1⟩:=WY h
 exact⟨f x,⟨h0,by rw [List.getElem?_map,h1]; rfl,hl⟩,hk⟩
theorem ND {α β:Type} {f:α→β} {l r:List α} {i j:Int} (h:cutL l i j=some r):cutL (List.map f l) i j=some (List.map f r):=by
 unfold cutL at h ⊢
 rw [List.length_map]
 split at h
 ·rename_i h0
  rw [if_pos h0]
  cases h
  simp only [List.map_take,List.map_drop]
 ·cases h
section
variable {P:Program} {σ:St} {Q:AE→St→Prop}
theorem Aj {K} {w1} {w2} {σ1} {fn} {c} {l} {p} {r} {qt} {qb} (h:Ei P fn p r qt qb σ1) (rt rb:List (Nat × Nat)) (hb:fn.body=some c:=by rfl) (hr:fn.results=l.toArray:=by rfl) (e:pos P c p (Kw P l r qt qb) σ1→K σ1:=by exact fun h=>h) (hw:Ji rt rb σ σ1:=by simp only [go_sem]):Tt false K σ w1 w2:=VI (e (HV hb hr h)) (.one ⟨_,.done _,rt,rb,hw⟩)
theorem lpG {b} {w1} {w2} {w3} {σ1} {fn} {c} {l} {p} {r} {qt} {qb} (h:Ei P fn p r qt qb σ1) (rt rb:List (Nat × Nat)) (hb:fn.body=some c:=by rfl) (hr:fn.results=l.toArray:=by rfl) (e:pos P c p (Kw P l r qt qb) σ1→awp P (.loop b) Q σ1:=by exact fun h=>h) (hw:Ji rt rb σ σ1:=by simp only [go_sem]):lpY P b Q σ w1 w2 w3:=M7 (e (HV hb hr h)) (.one ⟨_,.done _,rt,rb,hw⟩)
theorem loG {b} {w1} {w2} {σ1} {fn} {c} {l} {p} {r} {qt} {qb} (h:Ei P fn p r qt qb σ1) (rt rb:List (Nat × Nat)) (hb:fn.body=some c:=by rfl) (hr:fn.results=l.toArray:=by rfl) (e:pos P c p (Kw P l r qt qb) σ1→awp P (.loop b) Q σ1:=by exact fun h=>h) (hw:Ji rt rb σ σ1:=by simp only [go_sem]):Tu P b Q σ w1 w2:=EH (e (HV hb hr h)) (.one ⟨_,.done _,rt,rb,hw⟩)
theorem AR {K} {w1} {w2} {σ1} {fn} {c} {l} {p} {r} (h:AY P fn p r σ1) (rt rb:List (Nat × Nat)) (hb:fn.body=some c:=by rfl) (hr:fn.results=l.toArray:=by rfl) (e:pos P c p (endX P l r) σ1→K σ1:=by exact fun h=>h) (hw:Ji rt rb σ σ1:=by simp only [go_sem]):Tt false K σ w1 w2:=VI (e (DR hb hr h)) (.one ⟨_,.done _,rt,rb,hw⟩)
theorem lpF {b} {w1} {w2} {w3} {σ1} {fn} {c} {l} {p} {r} (h:AY P fn p r σ1) (rt rb:List (Nat × Nat)) (hb:fn.body=some c:=by rfl) (hr:fn.results=l.toArray:=by rfl) (e:pos P c p (endX P l r) σ1→awp P (.loop b) Q σ1:=by exact fun h=>h) (hw:Ji rt rb σ σ1:=by simp only [go_sem]):lpY P b Q σ w1 w2 w3:=M7 (e (DR hb hr h)) (.one ⟨_,.done _,rt,rb,hw⟩)
theorem loF {b} {w1} {w2} {σ1} {fn} {c} {l} {p} {r} (h:AY P fn p r σ1) (rt rb:List (Nat × Nat)) (hb:fn.body=some c:=by rfl) (hr:fn.results=l.toArray:=by rfl) (e:pos P c p (endX P l r) σ1→awp P (.loop b) Q σ1:=by exact fun h=>h) (hw:Ji rt rb σ σ1:=by simp only [go_sem]):Tu P b Q σ w1 w2:=EH (e (DR hb hr h)) (.one ⟨_,.done _,rt,rb,hw⟩)
theorem AF {K} {w1} {w2} {q:Prop} (h:q) (e:q→K σ:=by first|(intro h; simp only [go_sem]; exact h)|exact fun h=>h):Tt false K σ w1 w2:=BA (e h)
theorem acF {f} {c} {l} {args} {r} {fn} (hf:P.funcs[f]? =some fn) (hm:P.follows .mixedOrders =true) (hb:fn.body=some c:=by rfl) (hr:fn.results=l.toArray:=by rfl) (hnm:(fn.name == "runtime.NumGoroutine")=false:=by rfl)
  (hn:decide (args.length≤fn.ntmps)=true:=by kernel_rfl) (hok:FZ fn.ntmps c=true:=by kernel_rfl) (h:awp P c (endX P l r) (st0 args)):AC P f args r:=fg hm hf hb hr hnm hn hok h
theorem agF {f} {c} {l} {args} {pt} {pb} {r} {qt} {qb} {fn} (hf:P.funcs[f]? =some fn) (hm:P.follows .mixedOrders =true) (hb:fn.body=some c:=by rfl) (hr:fn.results=l.toArray:=by rfl) (hnm:(fn.name == "runtime.NumGoroutine")=false:=by rfl)
  (hn:decide (args.length≤fn.ntmps)=true:=by kernel_rfl) (hok:FZ fn.ntmps c=true:=by kernel_rfl) (h:awp P c (Kw P l r qt qb) (stG args pt pb)):AG P f args pt pb r qt qb:=gK hm hf hb hr hnm hn hok h
theorem caG {K} {pos} {dst} {L} {wL} {f} {args} {o} {w} {as} {pt} {pb} {r} {qt} {qb} (y:Way) (h:AG P f as pt pb r qt qb)
  (hc:Ct y.cv σ fun σ1=>Aa (WW y args as pt pb σ1) (CA y.cv (σ1.after y qt qb) fun σ2=>K (σ2.put dst (bak y r)))) (hL:L=true:=by kernel_rfl) (hB:WV y as pt pb qt qb=true:=by kernel_rfl):Rz P L pos f args o dst σ K w wL:=c9 y hL h hB hc
end
theorem Z {P Q:Prop} (h:Q) (e:Q→P:=by first|(intro h; simp only [go_sem]; exact h)|exact fun h=>h):P:=e h
attribute [go_sem] List.length_replicate
theorem Cy {α:Type} {f:α→List D} {l:List α} {n:Int} {x:α} (h:at? l n=some x):(List.map f l)[n.toNat]? =some (f x):=by
 rw [List.getElem?_map,(WY h).2]; rfl
def GF (n:Int):List D:=[.int .i64 n]
def u8D (n:Int):List D:=[.int .u8 n]
def gO (b:Bool):List D:=[.bool b]
def strD (s:ByteArray):List D:=[.str s]
def slD {α:Type} (f:α→List D) (l:List α):List D:=[.sl (List.map f l)]
attribute [go_sem] GF u8D gO strD slD List.map_cons List.map_nil List.length_map List.nodup_cons List.mem_cons List.not_mem_nil not_or or_false or_true true_or false_or not_false_eq_true
end Go.Proofs.YtaedfiifhjlmlaaGreat.Ab
namespace Go.Proofs.YtaedfiifhjlmlaaGreat.Ab
set_option linter.unusedVariables false
theorem GG {α:Type} {f:α→List D} {sz:Nat} (h:∀x,(f x).length =sz∧∀d ∈ f x,d.flat=true) (l:List α):∀row ∈ List.map f l,row.length=sz∧∀d ∈ row,d.flat=true:=by
 intro row hr
 obtain⟨x,-,rfl⟩:=List.mem_map.1 hr
 exact h x
theorem Gw {α:Type} {f:α→List D} {sz:Nat} (h:∀x,(f x).length =sz) (l:List α):∀row ∈ List.map f l,row.length=sz:=by
 intro row hr
 obtain⟨x,-,rfl⟩:=List.mem_map.1 hr
 exact h x
theorem VT {α:Type} {f:α→List D} {sz:Nat} (h:∀x,(f x).length =sz∧∀d ∈ f x,d≠ .gone) (l:List α):∀row ∈ List.map f l,row.length=sz∧∀d ∈ row,d≠ .gone :=by
 intro row hr
 obtain⟨x,-,rfl⟩:=List.mem_map.1 hr
 exact h x
theorem ay {α:Type} {f g} (h:∀x,fzC (f x)=g x) (l:List α):fzR (List.map f l)=List.map g l:=by
 unfold fzR
 rw [List.map_map]
 exact List.map_congr_left fun x _=>h x
theorem Fp {α:Type} {f g} (h:∀x,erC (f x)=g x):∀l:List α,erR (List.map f l)=List.map g l
 | [] =>by simp only [List.map_nil,erR]
 |x::xs=>by rw [List.map_cons,List.map_cons,erR,h x,Fp h xs]
def D.ngb:D→Bool
 | .gone =>false
 |_=>true
theorem Iu {ds:List D} (h:ds.all D.ngb=true):∀d ∈ ds,d≠ .gone :=fun d hd e=>by
 have:=List.all_eq_true.1 h d hd
 rw [e] at this; cases this
attribute [go_sem] rpS rpB Hy Fd only TF
def pD {α:Type} (f:α→List D) (x:α):List D:=[.ptr (f x)]
attribute [go_sem] pD
@[go_sem] theorem j7 {α:Type} {f:α→List D} {l:List α}:erR (List.map (pD f) l)=List.map (pD f) l:=Fp (fun c=>by simp only [pD,erC,er]) l
def nop {α:Type} (f:α→List AV):Option α→AV
 |none=>.nilp
 |some x=>.rop (f x) 0
@[go_sem] theorem j8 {α:Type} {f:α→List AV}:nop f none= .nilp :=rfl
@[go_sem] theorem j9 {α:Type} {f:α→List AV} {x:α}:nop f (some x)= .rop (f x) 0:=rfl
def IW {α:Type} (f:α→List D):Option α→D
 |none=>.nilp
 |some x=>.ptr (f x)
@[go_sem] theorem az {α:Type} {f:α→List D} {o}:er (IW f o)=IW f o:=by cases o <;> simp only [IW,er]
structure NopOf {α:Type} (f:α→List D) (g:α→List AV):Prop where
 a:∀x,Ns (f x)=g x
 b:∀x,unDs (g x)=some (f x)
 c:∀x,CH (g x)=true
section
variable {α:Type} {f:α→List D} {g:α→List AV} (h:NopOf f g) (o:Option α)
include h
theorem NopOf.of:ofD (IW f o)=nop g o:=by
 cases o
 ·simp only [IW,nop,ofD]
 ·simp only [IW,nop,ofD,h.a]
theorem NopOf.un:unD (nop g o)=some (IW f o):=by
 cases o
 ·simp only [IW,nop,unD]
 ·simp only [IW,nop,unD,h.b,Option.map_some]
theorem NopOf.pu:Cv (nop g o)=true:=by
 cases o
 ·simp only [nop,Cv]
 ·simp only [nop,Cv,h.c]
theorem NopOf.cl {T B}:Ab.cl T B (nop g o)=some (nop g o):=WX (h.pu o)
theorem NopOf.toD {T}:Ab.toD T (nop g o)=some (IW f o):=by
 have:=h.un o
 cases o
 ·simp only [IW,nop,Ab.toD]
 ·simp only [IW,nop,Ab.toD] at this ⊢; exact this
theorem NopOf.kn {rt rb}:Ep rt rb (nop g o)=true:=(MY (h.pu o)).1
theorem NopOf.re {rt rb}:ren rt rb (nop g o)=nop g o:=(MY (h.pu o)).2
end
theorem NopOf.mp {α:Type} {f:α→List D} {g:α→List AV} (_:NopOf f g) (o:Option α):AV.mp? (nop g o)=false:=by cases o <;> rfl
theorem NopOf.on {α:Type} {f:α→List D} {g:α→List AV} (_:NopOf f g) (o:Option α):AV.one (nop g o)=true:=by cases o <;> rfl
theorem NopOf.ce {α:Type} {f:α→List D} {g:α→List AV} (_:NopOf f g) (o:Option α):cellsOf (nop g o)=some [nop g o] :=by cases o <;> rfl
def ZG {α β:Type} (o:Option α) (a:Option β) (k:α→Option β):Option β:=match o with
 |none=>a
 |some x=>k x
theorem gP {α β:Type} {a r:Option β} {k:α→Option β} (h:ZG none a k=r):a=r:=h
theorem gQ {α β:Type} {x:α} {a r:Option β} {k:α→Option β} (h:ZG (some x) a k=r):k x=r:=h
end Go.Proofs.YtaedfiifhjlmlaaGreat.Ab
