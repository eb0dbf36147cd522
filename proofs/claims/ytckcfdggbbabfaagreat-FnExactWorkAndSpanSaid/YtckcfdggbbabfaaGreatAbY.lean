/-
  The abstract walk as rules, third part: memory, calls, results, loops.
-/
import Derived.Test.YtckcfdggbbabfaaGreatAbU
import Derived.IntWalk
namespace Go.Proofs.YtckcfdggbbabfaaGreat.Ab
set_option linter.unusedVariables false
open Go.RowKit
section
variable {P:Program} {σ:St} {K:St→Prop} {Q:AE→St→Prop}
def mH (t:TI):Prop:=match t with| .str =>True|_=>False
@[go_sem] theorem jB:mH .str =True:=rfl
@[go_sem] theorem fk {t} {rows} {K}:SW P t (.ro rows) σ K=slX (ti P t) fun _=>K (.int .i64 rows.length):=by
 simp only [SW,QN,slX]
 generalize ti P t=q
 cases q <;> simp
@[go_sem] theorem dJ {t} {t'} {K}:SW P t (.own t') σ K=slX (ti P t) fun _=>optX (σ.T t') fun tk=>K (.int .i64 tk.rows.length):=by
 simp only [SW,QN,slX,optX]
 generalize ti P t=q
 cases q with
 |sl e=>exact propext ⟨fun ⟨v,⟨tk,h1,h2⟩,h3⟩=>⟨tk,h1,h2 ▸ h3⟩,fun ⟨tk,h1,h3⟩=>⟨_,⟨tk,h1,rfl⟩,h3⟩⟩
 |_=>simp
@[go_sem] theorem dK {t} {t' g} {p} {K}:SW P t (.sub t' g p) σ K=slX (ti P t) fun _=>optX (subR σ.T t' g p) fun rows=>K (.int .i64 rows.length):=by
 simp only [SW,QN,slX,optX]
 generalize ti P t=q
 cases q with
 |sl e=>exact propext ⟨fun ⟨v,⟨tk,h1,h2⟩,h3⟩=>⟨tk,h1,h2 ▸ h3⟩,fun ⟨tk,h1,h3⟩=>⟨_,⟨tk,h1,rfl⟩,h3⟩⟩
 |_=>simp
def W1 (t:TI) (K:TypeId→TypeId→Prop):Prop:=match t with| .map k e=>K k e|_=>False
@[go_sem] theorem jC {k e} {K}:W1 (.map k e) K=K k e:=rfl
def Vc (o:Option (List AV)) (K:KT→List (List D)→Prop):Prop:=∃q rows,o=some [.mpc q rows] ∧K q rows
@[go_sem] theorem hH {q} {rows} {K}:Vc (some [.mpc q rows]) K=K q rows:=by
 simp only [Vc,Option.some.injEq,List.cons.injEq,AV.mpc.injEq,and_true]
 exact propext ⟨fun ⟨q',r',⟨h1,h2⟩,h3⟩=>h1 ▸ h2 ▸ h3,fun h=>⟨q,rows,⟨rfl,rfl⟩,h⟩⟩
@[go_sem] theorem dL {t} {b} {K}:SW P t (.mpr b) σ K=W1 (ti P t) fun _ _=>Vc (σ.B b) fun _ rows=>K (.int .i64 rows.length):=by
 simp only [SW,QN,W1,Vc]
 generalize ti P t=q
 cases q with
 |map k e=>exact propext ⟨fun ⟨v,⟨q,rows,h1,h2⟩,h3⟩=>⟨q,rows,h1,h2 ▸ h3⟩,fun ⟨q,rows,h1,h3⟩=>⟨_,⟨q,rows,h1,rfl⟩,h3⟩⟩
 |_=>simp
def OW {α:Type} (v:α) (K:α→Prop):Prop:=∃y,v=y∧K y
theorem Jh {α:Type} {v:α} {K:α→Prop}:OW v K=K v:=by simp [OW]
def bxX (pos:Nat) (cs:Option (List AV)) (dst:Option Tmp) (v:AV) (σ:St) (K:St→Prop):Prop:=optX cs fun vs=>Ac (look σ.b pos=none) (K ((σ.put dst v).setB pos vs))
def bxZ (pos:Nat) (cs:Option (List AV)) (dst:Option Tmp) (v:AV) (σ:St) (K:St→Prop):Prop:=bxX pos cs dst v σ K
theorem fl {pos} {cs} {dst} {v}:bxX pos cs dst v σ K=BA cs fun o=>bxZ pos o dst v σ K:=rfl
@[go_sem ↓] theorem jD {pos} {vs} {dst} {v}:bxZ pos (some vs) dst v σ K=Ac (look σ.b pos=none) (K ((σ.put dst v).setB pos vs)):=by simp [bxZ,bxX,optX]
theorem Ji {dst} {v} {pos} {vs}:σ.add dst ⟨v,[],[(pos,vs)]⟩=(σ.put dst v).setB pos vs:=by cases dst <;> rfl
attribute [go_sem] cellsOf
theorem jE {pos} {dst} {t} {x}:opX P pos dst (.box t x) σ K=bxX pos (cellsOf (σ.e x)) dst (.box pos 0) σ K:=by
 rw [PV (fun _=>by simp only [aop])]
 simp only [Ev,bxX]
 split
 ·rename_i vs h
  rw [h,HX]
  refine propext ⟨?_,?_⟩
  ·rintro ⟨r,rfl,-,h1,h2⟩
   exact⟨h1.1,by rw [← Ji]; exact h2⟩
  ·rintro ⟨h1,h2⟩
   exact⟨_,rfl,trivial,⟨h1,trivial⟩,by rw [Ji]; exact h2⟩
 ·rename_i h
  rw [h,TQ]
  simp
theorem dM {pos} {dst} {t}:opX P pos dst (.alloc t) σ K=Ac (0<(tz P t).length) (bxX pos (some ((tz P t).map zAV)) dst (.box pos 0) σ K):=by
 rw [PV (fun _=>by simp only [aop])]
 simp only [Ev,bxX,HX,Ac]
 refine propext ⟨?_,?_⟩
 ·rintro ⟨r,⟨vs,rfl,h0,rfl⟩,-,h1,h2⟩
  exact⟨h0,h1.1,by rw [← Ji]; exact h2⟩
 ·rintro ⟨h0,h1,h2⟩
  exact⟨_,⟨_,rfl,h0,rfl⟩,trivial,⟨h1,trivial⟩,by rw [Ji]; exact h2⟩
attribute [go_sem] zAV
def pvs (σ:St):List (Nat × Operand)→List (Nat × AV)
 | [] =>[]
 |x::xs=>(x.1,σ.e x.2)::pvs σ xs
theorem X0 {xs}:pvs σ xs=xs.map fun x=>(x.1,σ.e x.2):=by induction xs with|nil=>rfl|cons x xs ih=>simp [pvs,ih]
attribute [go_sem] pvs Dg
def bsX (P:Program) (pos:Nat) (e:TypeId) (n:Nat) (parts:List (Nat × AV)) (dst:Option Tmp) (σ:St) (K:St→Prop):Prop:=
 Ac (parts.length=n∧n*tsz P e≤16777216∧0<tsz P e∧(tz P e).length =tsz P e) (bxX pos (Dg (tsz P e) 0 parts) dst (.bsl pos n (tsz P e)) σ K)
@[go_sem ↓] theorem dN {pos} {dst} {t} {n} {parts}:opX P pos dst (.buildSlice t n parts.toArray) σ K=slX (ti P t) fun e=>BA (pvs σ parts) fun ps=>bsX P pos e n ps dst σ K:=by
 rw [PV (fun _=>by simp only [aop])]
 simp only [Ev,slX,BA,X0]
 generalize ti P t=q
 split
 ·simp only [Zs,bsX,bxX,Ac]
  refine propext ⟨?_,?_⟩
  ·rintro ⟨r,⟨h1,h2,h3,h4,h5⟩,-,h6,h7⟩
   split at h5
   ·rename_i vs h8
    subst h5
    rw [h8,HX]
    exact⟨⟨h1,h2,h3,h4⟩,h6.1,by rw [← Ji]; exact h7⟩
   ·exact h5.elim
  ·rintro ⟨⟨h1,h2,h3,h4⟩,vs,h8,h6,h7⟩
   exact⟨⟨_,[],[(pos,vs)]⟩,⟨h1,h2,h3,h4,by rw [h8]⟩,trivial,⟨h6,trivial⟩,by rw [Ji]; exact h7⟩
 ·simp
attribute [go_sem] bsX
attribute [go_sem] Lf
def Vd (P:Program) (t:TI) (K:List (Nat × TypeId)→Prop):Prop:=match t with| .st fs=>K fs| .arr n el=>Ac (0<tsz P el) (K (Lf (tsz P el) el n 0))|_=>False
@[go_sem] theorem dO {fs} {K}:Vd P (.st fs) K=K fs:=rfl
def bpX (P:Program) (fs:List (Nat × TypeId)) (vs:List AV) (ps:List (Nat × AV)) (K:AV→Prop):Prop:=∃ws,Kn P fs vs ps=some ws∧K (.agg ws)
@[go_sem] theorem dP {fs} {vs} {K}:bpX P fs vs [] K=K (.agg vs):=by simp [bpX,Kn]
@[go_sem] theorem aw {fs} {vs} {f} {v} {ps} {K}:bpX P fs vs ((f,v)::ps) K=optX fs[f]? fun q=>optX (cellsOf v) fun cs=>Ac (cs.length=tsz P q.2 ∧q.1 +cs.length≤vs.length) (BA (splice vs q.1 cs) fun vs=>bpX P fs vs ps K):=by
 unfold bpX optX Ac BA
 rw [Kn]
 cases fs[f]? with
 |none=>simp
 | some q=>
  cases cellsOf v with
  |none=>simp
  | some cs=>
   by_cases hc:cs.length=tsz P q.2 ∧q.1 +cs.length≤vs.length
   ·simp only [if_pos hc,Option.some.injEq,exists_eq_left']
    exact propext ⟨fun h=>⟨hc,h⟩,fun h=>h.2⟩
   ·simp only [if_neg hc,Option.some.injEq,exists_eq_left']
    refine propext ⟨?_,?_⟩
    ·rintro ⟨_,h,_⟩; cases h
    ·intro h; exact absurd h.1 hc
theorem dQ {pos} {dst} {t} {parts}:opX P pos dst (.build t parts.toArray) σ K=Vd P (ti P t) fun fs=>Ac ((fs.all fun q=>decide (0<tsz P q.2))=true∧0<(tz P t).length) (bpX P fs ((tz P t).map zAV) (pvs σ parts) fun v=>K (σ.put dst v)):=by
 rw [Gx (p:=fun v=>Vd P (ti P t) fun fs=>Ac ((fs.all fun q=>decide (0<tsz P q.2))=true∧0<(tz P t).length) (bpX P fs ((tz P t).map zAV) (pvs σ parts) fun u=>v=u)) (fun _=>by simp only [aop]) (fun r=>by
  simp only [Ev,Vd,Ac,bpX,X0]
  generalize ti P t=q
  cases q with
  |st fs=>
   refine propext ⟨?_,?_⟩
   ·rintro ⟨h1,h2,vs,h3,rfl⟩; exact⟨_,⟨⟨h1,h2⟩,vs,h3,rfl⟩,rfl⟩
   ·rintro ⟨v,⟨⟨h1,h2⟩,vs,h3,rfl⟩,rfl⟩; exact⟨h1,h2,vs,h3,rfl⟩
  |arr n el=>
   refine propext ⟨?_,?_⟩
   ·rintro ⟨h0,h1,h2,vs,h3,rfl⟩; exact⟨_,⟨h0,⟨h1,h2⟩,vs,h3,rfl⟩,rfl⟩
   ·rintro ⟨v,⟨h0,⟨h1,h2⟩,vs,h3,rfl⟩,rfl⟩; exact⟨h0,h1,h2,vs,h3,rfl⟩
  |_=>simp)]
 unfold Vd Ac bpX
 generalize ti P t=q
 cases q with
 |st fs=>
  refine propext ⟨?_,?_⟩
  ·rintro ⟨v,⟨h1,vs,h3,rfl⟩,hk⟩; exact⟨h1,vs,h3,hk⟩
  ·rintro ⟨h1,vs,h3,hk⟩; exact⟨_,⟨h1,vs,h3,rfl⟩,hk⟩
 |arr n el=>
  refine propext ⟨?_,?_⟩
  ·rintro ⟨v,⟨h0,h1,vs,h3,rfl⟩,hk⟩; exact⟨h0,h1,vs,h3,hk⟩
  ·rintro ⟨h0,h1,vs,h3,hk⟩; exact⟨_,⟨h0,h1,vs,h3,rfl⟩,hk⟩
 |_=>simp
attribute [go_sem] zD zDs
@[go_sem] theorem jF {n}:leX n n=True:=eq_true (Int.le_refl n)
def mkX (P:Program) (pos:Nat) (e:TypeId) (n m:AV) (dst:Option Tmp) (σ:St) (K:St→Prop):Prop:=match n,m with
 | .int .i64 n,.int .i64 m=>Ac (leX n m) (Ac (0≤n∧m.toNat*P.bytesOf e≤281474976710656∧m≤4611686018427387904) (Ac (0<tsz P e∧(tz P e).length =tsz P e) (optX (zDs (tz P e)) fun z=>Ac (look σ.t (pos*16)=none) (OW (List.replicate n.toNat z) fun rows=>K ((σ.put dst (.own (pos*16))).setT (pos*16) ⟨rows,some (tsz P e),0,false⟩)))))
 |_,_=>False
@[go_sem] theorem dR {pos} {e} {n m} {dst}:mkX P pos e (.int .i64 n) (.int .i64 m) dst σ K=Ac (leX n m) (Ac (0≤n∧m.toNat*P.bytesOf e≤281474976710656∧m≤4611686018427387904) (Ac (0<tsz P e∧(tz P e).length =tsz P e) (optX (zDs (tz P e)) fun z=>Ac (look σ.t (pos*16)=none) (OW (List.replicate n.toNat z) fun rows=>K ((σ.put dst (.own (pos*16))).setT (pos*16) ⟨rows,some (tsz P e),0,false⟩))))):=rfl
theorem X1 {dst} {v} {n} {tk}:σ.add dst ⟨v,[(n,tk)],[]⟩=(σ.put dst v).setT n tk:=by cases dst <;> rfl
theorem Ve {pos:Nat} {dst:Option Tmp} {t:TypeId} {l c:Operand}:opX P pos dst (.makeSlice t l c) σ K=slX (ti P t) fun e=>mkX P pos e (σ.e l) (σ.e c) dst σ K:=by
 rw [PV (fun _=>by simp only [aop])]
 simp only [Ev,slX,mkX]
 generalize ti P t=q
 cases q with
 | sl e=>
  generalize σ.e l=u
  generalize σ.e c=v
  split
  ·rename_i el n m h1
   cases h1
   simp only [eO,Ac,optX,Jh]
   refine propext ⟨?_,?_⟩
   ·rintro ⟨r,⟨k1,k2,k3,k4,k5,k6,z,k7,rfl⟩,k8,-,k9⟩
    exact⟨k1,⟨k2,k3,k4⟩,⟨k5,k6⟩,z,k7,k8.1,by rw [← X1]; exact k9⟩
   ·rintro ⟨k1,⟨k2,k3,k4⟩,⟨k5,k6⟩,z,k7,k8,k9⟩
    exact⟨⟨_,[(pos*16,⟨_,some (tsz P e),0,false⟩)],[]⟩,⟨k1,k2,k3,k4,k5,k6,z,k7,rfl⟩,⟨k8,trivial⟩,trivial,by rw [X1]; exact k9⟩
  ·rename_i hno
   have:∀p:Prop,(∃r:Res,False∧p)=False:=fun p=>by simp
   simp only [false_and,exists_false]
   refine propext ⟨False.elim,fun h=>?_⟩
   split at h
   ·exact hno e _ _ rfl rfl rfl
   ·exact h
 |_=>simp
def TS (P:Program) (L:Bool) (pos:Nat) (f:FuncId) (args:List AV) (as:Option (List AV)) (dst:Option Tmp) (σ:St) (K:St→Prop) (_:Wrap L):Prop:=
 ((∃bs rv,as=some bs∧AC P f bs rv∧Cr σ (conv (pos*16) rv).2 ∧K (σ.add dst ⟨(conv (pos*16) rv).1,(conv (pos*16) rv).2,[]⟩))∨
  ∃bs rv qt qb,AG P f bs [] [] rv qt qb∧cls (fun _=>none) (fun _=>none) args=some bs∧((qt=[] ∧Sv rv=true∧K (σ.add dst ⟨rv,[],[]⟩))∨(∃q tk,qt=[(q,tk)] ∧rv= .own q∧tk.gen=0∧look σ.t (pos*16)=none∧K (σ.add dst ⟨.own (pos*16),[(pos*16,tk)],[]⟩))∨(∃q k,rv= .box q k)∧K (σ.add dst ⟨.rop [] 0,[],[]⟩)))∨
 (L=true∧Xd P f args σ fun v σ'=>K (σ'.put dst v))
def clX (P:Program) (L:Bool) (pos:Nat) (g:AV) (args:List AV) (dst:Option Tmp) (σ:St) (K:St→Prop) (w:Wrap L):Prop:=match g with
 | .fn f caps=>TS P L pos f (args++caps) (cls σ.T σ.B (args++caps)) dst σ K w
 |_=>False
@[go_sem] theorem fo {L} {wL} {pos} {f} {caps args} {dst}:clX P L pos (.fn f caps) args dst σ K wL=BA (args++caps) fun vs=>BA (cls σ.T σ.B vs) fun r=>TS P L pos f vs r dst σ K wL:=rfl
theorem ft {L} {wL} {pos} {dst} {g} {args} {ts}:opL P L pos dst (.call ⟨.value g,args.toArray,ts⟩) σ K wL=clX P L pos (σ.e g) (evs σ args) dst σ K wL:=by
 have h1:opX P pos dst (.call ⟨.value g,args.toArray,ts⟩) σ K=match σ.e g with
   | .fn f caps=>(∃bs rv,cls σ.T σ.B (evs σ args++caps)=some bs∧AC P f bs rv∧Cr σ (conv (pos*16) rv).2 ∧K (σ.add dst ⟨(conv (pos*16) rv).1,(conv (pos*16) rv).2,[]⟩))∨
     ∃bs rv qt qb,AG P f bs [] [] rv qt qb∧cls (fun _=>none) (fun _=>none) (evs σ args++caps)=some bs∧((qt=[] ∧Sv rv=true∧K (σ.add dst ⟨rv,[],[]⟩))∨(∃q tk,qt=[(q,tk)] ∧rv= .own q∧tk.gen=0∧look σ.t (pos*16)=none∧K (σ.add dst ⟨.own (pos*16),[(pos*16,tk)],[]⟩))∨(∃q k,rv= .box q k)∧K (σ.add dst ⟨.rop [] 0,[],[]⟩))
   |_=>False:=by
  rw [PV (fun _=>by simp only [aop])]
  simp only [Ev,Qy,Tz]
  generalize σ.e g=v
  split
  ·refine propext ⟨?_,?_⟩
   ·rintro ⟨r,h1,h2,-,h4⟩
    rcases h1 with h1|h1
    ·split at h1
     ·rename_i as has
      obtain⟨rv,h5,rfl⟩:=h1
      exact .inl ⟨as,rv,has,h5,h2,h4⟩
     ·exact h1.elim
    ·obtain⟨as,rv,qt,qb,h5,h6,h7⟩:=h1
     rcases h7 with ⟨h7,h8,rfl⟩|⟨q,tk,h7,h8,h9,rfl⟩|⟨h7,rfl⟩
     ·exact .inr ⟨as,rv,qt,qb,h5,h6,.inl ⟨h7,h8,h4⟩⟩
     ·exact .inr ⟨as,rv,qt,qb,h5,h6,.inr (.inl ⟨q,tk,h7,h8,h9,h2.1,h4⟩)⟩
     ·exact .inr ⟨as,rv,qt,qb,h5,h6,.inr (.inr ⟨h7,h4⟩)⟩
   ·rintro (⟨bs,rv,h1,h5,h2,h4⟩|⟨bs,rv,qt,qb,h5,h6,⟨h7,h8,h4⟩|⟨q,tk,h7,h8,h9,h2,h4⟩|⟨h7,h4⟩⟩)
    ·exact⟨⟨(conv (pos*16) rv).1,(conv (pos*16) rv).2,[]⟩,.inl (by rw [h1]; exact⟨rv,h5,rfl⟩),h2,trivial,h4⟩
    ·exact⟨⟨rv,[],[]⟩,.inr ⟨bs,rv,qt,qb,h5,h6,.inl ⟨h7,h8,rfl⟩⟩,trivial,trivial,h4⟩
    ·exact⟨⟨.own (pos*16),[(pos*16,tk)],[]⟩,.inr ⟨bs,rv,qt,qb,h5,h6,.inr (.inl ⟨q,tk,h7,h8,h9,rfl⟩)⟩,⟨h2,trivial⟩,trivial,h4⟩
    ·exact⟨⟨.rop [] 0,[],[]⟩,.inr ⟨bs,rv,qt,qb,h5,h6,.inr (.inr ⟨h7,rfl⟩)⟩,trivial,trivial,h4⟩
  ·simp
 have h2:opL P L pos dst (.call ⟨.value g,args.toArray,ts⟩) σ K wL=(opX P pos dst (.call ⟨.value g,args.toArray,ts⟩) σ K∨(L=true∧Lh P ⟨dst,.call ⟨.value g,args.toArray,ts⟩,0, "",#[],none⟩ σ K)):=by
  have hA:Q3 ⟨dst,.call ⟨.value g,args.toArray,ts⟩,0, "",#[],none⟩=false:=rfl
  have hS:SliK P pos ⟨dst,.call ⟨.value g,args.toArray,ts⟩,0, "",#[],none⟩ σ K=False:=rfl
  unfold opL QQ opX
  rw [hA,hS]; simp
 rw [h2,h1]
 unfold clX TS Lh
 simp only [Tz]
 generalize σ.e g=v
 cases v <;> simp
attribute [go_sem] cl cls toD toDs toA toAs HQ GQ Option.map_some Option.map_none
theorem X2 {pos} {f} {args bs} {dst} {rv} (h:AC P f bs rv) (hf:Cr σ (conv (pos*16) rv).2) (hk:K (σ.add dst ⟨(conv (pos*16) rv).1,(conv (pos*16) rv).2,[]⟩)) {L} {wL}:TS P L pos f args (some bs) dst σ K wL:=
 .inl (.inl ⟨bs,rv,rfl,h,hf,hk⟩)
@[go_sem] theorem fu:Cr σ [] =True:=rfl
@[go_sem] theorem ec {n} {tk} {l}:Cr σ ((n,tk)::l)=(look σ.t n=none∧Cr σ l):=rfl
attribute [go_sem] conv FR addT addB
@[go_sem] theorem jG {s t b} {d} {r}:St.add ⟨s,t,b⟩ (some d) r=⟨(d,r.v)::s,addT t r.t,addB b r.b⟩:=rfl
@[go_sem] theorem jH {s t b} {r}:St.add ⟨s,t,b⟩ none r=⟨s,addT t r.t,addB b r.b⟩:=rfl
section
variable {z:Bool}
@[go_sem] theorem dS {K}:Bo z [] σ K=K [] σ:=by rw [Bo]
@[go_sem] theorem dT {k} {n} {vs} {K}:Bo z (.int k n::vs) σ K=Bo z vs σ fun ds σ'=>K (.int k n::ds) σ':=by rw [Bo]
@[go_sem] theorem ax {vs} {K}:Bo z (.nils ::vs) σ K=Bo z vs σ fun ds σ'=>K (Um z::ds) σ':=by rw [Bo]
@[go_sem] theorem mI:Um false= .sl [] :=rfl
@[go_sem] theorem mJ:Um true= .fz [] :=rfl
@[go_sem] theorem fv {rows} {vs} {K}:Bo z (.ro rows::vs) σ K=Ac (z=true) (Bo z vs σ fun ds σ'=>K (.fz rows::ds) σ'):=by rw [Bo]; rfl
@[go_sem ↓] theorem ko {b n sz} {K}:Zt z b n sz σ K=Ac (1000≤b) (Ac (0<sz) (optX (σ.B b) fun vs=>optX (LN z vs) fun ds=>Ac (ds.length=n*sz) (BA (CM sz n ds) fun rows=>K rows (σ.killB b)))):=rfl
@[go_sem] theorem jI {s t b} {x}:St.killB ⟨s,t,b⟩ x=⟨s,t,(x,none)::b⟩:=rfl
attribute [go_sem] Ko litD LN unD unDs
@[go_sem] theorem dU {t} {vs} {K}:Bo z (.own t::vs) σ K=optX (σ.T t) fun tk=>Ac (okZ z tk=true) (Bo z vs (σ.killT t) fun ds σ'=>K (.sl tk.rows::ds) σ'):=by rw [Bo]; rfl
end
def stX (P:Program) (t:TypeId) (a:AV) (cs:Option (List AV)) (σ:St) (K:St→Prop):Prop:=
 optX cs fun cs=>Ac (cs.length=tsz P t∧0<tsz P t∧cs.all AV.one=true) (match a with
  | .box b off=>∃vs,σ.B b=some vs∧isMp vs=false∧off+cs.length≤vs.length∧K (σ.setB b (splice vs off cs))
  | .elt t' sz i off=>∃tk0,σ.T t'=some tk0∧Bo tk0.z cs σ fun ds σ'=>∃tk row,(σ'.T t'=some tk∧tk.z=tk0.z)∧tk.rows[i]? =some row∧row.length=sz∧off+ds.length≤sz∧K (σ'.setT t' ⟨tk.rows.set i (splice row off ds),tk.sz,if Dw row off ds=true then tk.gen else tk.gen+1,tk.z⟩)
  | .els t' g p sz i off=>Bo false cs σ fun ds σ'=>∃rows,subR σ'.T t' g p=some rows∧∃row,rows[i]? =some row∧(p≠ [] ∧row.length=sz∧off+ds.length≤sz∧Dw row off ds=true)∧∃tk,σ'.T t'=some tk∧K (σ'.setT t' ⟨putR p tk.rows (.sl (rows.set i (splice row off ds))),tk.sz,tk.gen,tk.z⟩)
  |_=>False)
theorem dV {pos} {dst} {t} {a x}:opX P pos dst (.store t a x) σ K=stX P t (σ.e a) (cellsOf (σ.e x)) σ fun σ'=>K (σ'.put dst .any):=by
 unfold opX
 simp only [aop,NS,stX]
 split
 ·rename_i cs h
  rw [h,HX]
  unfold Ac
  refine propext ⟨?_,?_⟩
  ·rintro ⟨h1,h2,h3,h4⟩; exact⟨⟨h1,h2,h3⟩,h4⟩
  ·rintro ⟨⟨h1,h2,h3⟩,h4⟩; exact⟨h1,h2,h3,h4⟩
 ·rename_i h
  rw [h,TQ]
@[go_sem] theorem dW {t} {b off} {cs}:stX P t (.box b off) (some cs) σ K=Ac (cs.length=tsz P t∧0<tsz P t∧cs.all AV.one=true) (optX (σ.B b) fun vs=>Ac (isMp vs=false) (Ac (off+cs.length≤vs.length) (BA (splice vs off cs) fun vs'=>K (σ.setB b vs')))):=by
 rw [stX,HX]; rfl
@[go_sem] theorem dX {t:TypeId} {t' g sz i off:Nat} {p:Pth} {cs:List AV}:stX P t (.els t' g p sz i off) (some cs) σ K=Ac (cs.length=tsz P t∧0<tsz P t∧cs.all AV.one=true) (Bo false cs σ fun ds σ'=>optX (subR σ'.T t' g p) fun rows=>optX rows[i]? fun row=>Ac (p≠ [] ∧row.length=sz∧off+ds.length≤sz∧Dw row off ds=true) (optX (σ'.T t') fun tk=>OW (putR p tk.rows (.sl (rows.set i (splice row off ds)))) fun rows'=>K (σ'.setT t' ⟨rows',tk.sz,tk.gen,tk.z⟩))):=by
 rw [stX,HX]
 simp only [Ac,optX,Jh]
@[go_sem] theorem dY {t:TypeId} {t' sz i off:Nat} {cs:List AV}:stX P t (.elt t' sz i off) (some cs) σ K=Ac (cs.length=tsz P t∧0<tsz P t∧cs.all AV.one=true) (optX (σ.T t') fun tk0=>Bo tk0.z cs σ fun ds σ'=>optX (σ'.T t') fun tk=>Ac (tk.z=tk0.z) (optX tk.rows[i]? fun row=>Ac (row.length=sz∧off+ds.length≤sz) (OW (tk.rows.set i (splice row off ds)) fun rows=>K (σ'.setT t' ⟨rows,tk.sz,if Dw row off ds=true then tk.gen else tk.gen+1,tk.z⟩)))):=by
 rw [stX,HX]
 simp only [Ac,optX,Jh]
 congr 1
 congr 1
 funext tk0
 congr 1
 congr 1
 funext ds σ'
 refine propext ⟨?_,?_⟩
 ·rintro ⟨tk,row,⟨h1,h0⟩,h2,h3,h4,h5⟩; exact⟨tk,h1,h0,row,h2,⟨h3,h4⟩,h5⟩
 ·rintro ⟨tk,h1,h0,row,h2,⟨h3,h4⟩,h5⟩; exact⟨tk,row,⟨h1,h0⟩,h2,h3,h4,h5⟩
section
variable {z:Bool}
@[go_sem] theorem ZF {e} {sz} {K}:Qz z e sz .nils σ K=K [] σ:=rfl
@[go_sem] theorem ay {e} {sz b n sz'} {K}:Qz z e sz (.bsl b n sz') σ K=if n=0 then K [] σ else Ac (sz'=sz) (Zt z b n sz σ K):=rfl
@[go_sem] theorem az {e} {sz t} {K}:Qz z e sz (.own t) σ K=optX (σ.T t) fun tk=>Ac (tk.sz=some sz∧okZ z tk=true) (K tk.rows (σ.killT t)):=rfl
@[go_sem] theorem ZG {sz} {K}:QO z sz .nils σ K=K [] σ:=rfl
@[go_sem] theorem a6 {sz b n sz'} {K}:QO z sz (.bsl b n sz') σ K=optX (σ.B b) fun vs=>Ac (sz'=sz∧vs.length=n*sz∧vs.all AV.one=true) (Bo z vs σ fun ds σ'=>BA (CM sz n ds) fun rows=>K rows σ'):=by
 simp only [QO,optX,Ac,BA]
 refine propext ⟨?_,?_⟩
 ·rintro ⟨vs,h1,h2,h3,h4,h5⟩; exact⟨vs,h1,⟨h2,h3,h4⟩,h5⟩
 ·rintro ⟨vs,h1,⟨h2,h3,h4⟩,h5⟩; exact⟨vs,h1,h2,h3,h4,h5⟩
@[go_sem] theorem dZ {sz} {rows} {K}:QO false sz (.ro rows) σ K=Ac (∀row ∈ rows,row.length=sz∧∀d ∈ row,d.flat=true) (K rows σ):=rfl
end
attribute [go_sem] CM
def zX (K:Bool→Prop):Prop:=∃z,K z
def zY (K:Bool→Prop) (_:Wrap K):Prop:=∃z,K z
@[go_sem ↓] theorem mu {K}:zX K=zY K ⟨⟩:=rfl
theorem Di {K} {w} (z:Bool) (h:K z):zY K w:=⟨z,h⟩
def apX (P:Program) (pos:Nat) (e:TypeId) (x y:AV) (dst:Option Tmp) (σ:St) (K:St→Prop):Prop:=
 Ac (0<tsz P e∧(tz P e).length =tsz P e) (zX fun z=>Qz z e (tsz P e) x σ fun rows σ1=>QO z (tsz P e) y σ1 fun rows2 σ2=>
   Ac ((rows.length+rows2.length)*P.bytesOf e≤140737488355328∧rows.length+rows2.length≤maxLen) (Ac (look σ2.t (pos*16)=none) (K ((σ2.setT (pos*16) ⟨rows++rows2,some (tsz P e),0,z⟩).put dst (.own (pos*16))))))
theorem a7 {pos} {dst} {x y} {t}:opX P pos dst (.call ⟨.builtin .append,List.toArray [x,y],List.toArray [t,t]⟩) σ K=slX (ti P t) fun e=>apX P pos e (σ.e x) (σ.e y) dst σ K:=by
 unfold opX
 simp only [aop,WP,slX,true_and]
 generalize ti P t=q
 split
 ·rename_i e
  show (0<tsz P e∧(tz P e).length =tsz P e∧_)=((0<tsz P e∧(tz P e).length =tsz P e)∧_)
  rw [and_assoc]
  congr 1
  congr 1
  show (∃z,_)=(∃z,_)
  congr 1
  funext z
  congr 1
  funext rows σ1
  congr 1
  funext rows2 σ2
  show (_∧_∧_∧_)=((_∧_)∧_∧_)
  rw [and_assoc]
 ·rename_i h
  cases q with
  |sl e=>exact(h e rfl).elim
  |_=>rfl
end
attribute [go_sem ↓] fl
attribute [go_sem ↓] fk dJ dK dL dO dP aw dR fo dS dT ax fv dU dW dY dX ZF ay az ZG a6 dZ
end Go.Proofs.YtckcfdggbbabfaaGreat.Ab
namespace Go.Proofs.YtckcfdggbbabfaaGreat.Ab
set_option linter.unusedVariables false
open Go.RowKit
section
variable {P:Program} {σ:St} {K:St→Prop} {Q:AE→St→Prop}
@[go_sem] theorem fw {n} (h1: -9223372036854775808≤n) (h2:n≤9223372036854775807):IntKind.i64.wrap n=n:=Go.IntWalk.i64_in n ⟨h1,h2⟩
@[go_sem ↓] theorem jJ {K}:M1 P σ [] K=K [] :=rfl
@[go_sem ↓] theorem jK {t} {l} {K}:M1 P σ (.tmp t::l) K=BA (σ.g t) fun v=>M1 P σ l fun vs=>K (v::vs):=rfl
@[go_sem ↓] theorem hJ {a} {t} {l} {K}:M1 P σ (.cell a t::l) K=OV P t (σ.g a) σ fun v=>M1 P σ l fun vs=>K (v::vs):=rfl
@[go_sem] theorem da {k} {n m}:DH (.int k n) (.int k m) σ K=Ac (n=m) (K σ):=by simp [DH,Ac]
@[go_sem] theorem a8 {b c}:DH (.bool b) (.bool c) σ K=Ac (b=c) (K σ):=by simp [DH,Ac]
@[go_sem] theorem bA {ap} {rows}:DH .nils (.ow ap rows) σ K=Ac (rows=[]) (K σ):=by simp [DH,Ac]
@[go_sem] theorem db {t} {ap} {rows}:DH (.own t) (.ow ap rows) σ K=optX (σ.T t) fun tk=>Ac (tk.rows=rows) (Ac (ap=none∨tk.sz=ap) (Ac (tk.z=false) (K (σ.killT t)))):=by simp only [DH,Ac,optX]
@[go_sem] theorem dc {vs} {rs}:DH (.agg vs) (.agg rs) σ K=Iv vs rs σ K:=by simp only [DH]
@[go_sem] theorem dd {vs} {rs}:DH (.tup vs) (.tup rs) σ K=Iv vs rs σ K:=by simp only [DH]
@[go_sem] theorem bB:Iv [] [] σ K=K σ:=by simp only [Iv]
@[go_sem] theorem ZH {v} {vs} {r} {rs}:Iv (v::vs) (r::rs) σ K=DH v r σ fun σ'=>Iv vs rs σ' K:=by simp only [Iv]
def ZI (r:RV) (σ:St) (vs:List AV):Prop:=match vs with
 | [v] =>DH v r σ fun _=>True
 |vs=>DH (.tup vs) r σ fun _=>True
@[go_sem ↓] theorem kq {r}:ZI r σ [] =DH (.tup []) r σ fun _=>True:=rfl
@[go_sem ↓] theorem kr {r} {v}:ZI r σ [v] =DH v r σ fun _=>True:=rfl
@[go_sem ↓] theorem ku {r} {v u} {vs}:ZI r σ (v::u::vs)=DH (.tup (v::u::vs)) r σ fun _=>True:=rfl
def endX (P:Program) (l:List ResultVar) (r:RV) (q:AE) (σ:St):Prop:=match q with| .exit _=>False|_=>M1 P σ l (ZI r σ)
@[go_sem ↓] theorem fx {l} {r}:endX P l r .normal σ=M1 P σ l (ZI r σ):=rfl
@[go_sem ↓] theorem kw {l} {r}:endX P l r .ret σ=M1 P σ l (ZI r σ):=rfl
theorem jL (hm:P.follows .mixedOrders =true) {f} {fn} {c} {l} {args} {r} (hf:P.funcs[f]? =some fn) (hb:fn.body=some c) (hr:fn.results=l.toArray) (hnm:(fn.name == "runtime.NumGoroutine")=false)
  (hn:decide (args.length≤fn.ntmps)=true) (hok:F2 fn.ntmps c=true) (h:awp P c (endX P l r) (st0 args)):AC P f args r:=by
 refine Wo hm hf hb hnm (of_decide_eq_true hn) hok ?_
 have e:endQ P fn.results.toList r=endX P l r:=by
  rw [hr]
  funext q σ
  cases q <;> rfl
 rw [e]
 exact h
attribute [go_sem] st0 Rh
def bC {X:Type} (R:X→Prop) (inv:X→St) (μ:X→Nat) (x:X) (σ:St):Prop:=∃x',cO σ (inv x')∧R x'∧μ x'<μ x
def fy {X:Type} (R:X→Prop) (inv:X→St) (μ:X→Nat) (x:X) (σ:St) (_:Wrap R) (_:Wrap inv) (_:Wrap μ) (_:Wrap x):Prop:=bC R inv μ x σ
@[go_sem ↓] theorem hU {X:Type} {R:X→Prop} {inv:X→St} {μ:X→Nat} {x:X} {σ:St}:bC R inv μ x σ=fy R inv μ x σ ⟨⟩ ⟨⟩ ⟨⟩ ⟨⟩:=rfl
attribute [go_sem] Kq Uq Q4 Q5 ren rens F7 Gu List.nodup_nil List.all_nil List.all_cons AV.int.injEq AV.bool.injEq AV.str.injEq AV.ro.injEq AV.rop.injEq AV.agg.injEq AV.fn.injEq AV.own.injEq AV.box.injEq AV.bsl.injEq AV.elt.injEq List.cons.injEq Tok.mk.injEq Option.isSome_some exists_eq_left' exists_eq_left
end
attribute [go_sem ↓] da a8 bA db dc dd bB ZH
end Go.Proofs.YtckcfdggbbabfaaGreat.Ab
namespace Go.Proofs.YtckcfdggbbabfaaGreat.Ab
set_option linter.unusedVariables false
open Go.RowKit
section
variable {P:Program} {σ:St} {K:St→Prop} {pos:Nat} {dst:Option Tmp} {t t' s d:TypeId} {x y a b c g l:Operand} {f i:Nat} {op:BinOp}
def slY (t:TI) (K:TypeId→Prop) (_:Wrap K):Prop:=slX t K
@[go_sem ↓] theorem mK {t} {K}:slX t K=slY t K ⟨⟩:=rfl
@[go_sem] theorem mL {e} {K} {w}:slY (.sl e) K w=K e:=rfl
def ed (t:TI) (K:IntKind→Prop) (_:Wrap K):Prop:=VY t K
@[go_sem ↓] theorem jM {t} {K}:VY t K=ed t K ⟨⟩:=rfl
@[go_sem] theorem hZ {k} {K} {w}:ed (.int k) K w=K k:=rfl
def stY (P:Program) (t:TI) (K:List (Nat × TypeId)→Prop) (_:Wrap K):Prop:=Vd P t K
@[go_sem ↓] theorem mM {t} {K}:Vd P t K=stY P t K ⟨⟩:=rfl
@[go_sem] theorem mN {fs} {K} {w}:stY P (.st fs) K w=K fs:=rfl
@[go_sem] theorem kx {n} {el} {K} {w}:stY P (.arr n el) K w=Ac (0<tsz P el) (BA (Lf (tsz P el) el n 0) K):=rfl
def jN (rows:List (List D)) (n:Int) (sz:Nat) (K:List D→Prop) (_:Wrap K):Prop:=Va rows n sz K
@[go_sem ↓] theorem ky {rows} {n} {sz} {K}:Va rows n sz K=jN rows n sz K ⟨⟩:=rfl
def jO {α:Type} (v:α) (K:α→Prop) (_:Wrap K):Prop:=OW v K
@[go_sem ↓] theorem kz {α:Type} {v:α} {K:α→Prop}:OW v K=jO v K ⟨⟩:=rfl
theorem An {α:Type} {v} {K} {w} (y:α) (h:v=y) (hk:K y):jO v K w:=⟨y,h,hk⟩
def LX (n:Nat) (rs:List RV) (K:List AV→List (Nat × Tok)→Prop) (_:Wrap K):Prop:=K (FR n rs).1 (FR n rs).2
def cv1 (n:Nat) (r:RV) (K:AV→List (Nat × Tok)→Prop):Prop:=K (conv n r).1 (conv n r).2
section
variable {n:Nat} {rs us:List RV} {L:List AV→List (Nat × Tok)→Prop} {L1:AV→List (Nat × Tok)→Prop} {w:Wrap L}
@[go_sem] theorem de:LX n [] L w=L [] [] :=rfl
@[go_sem] theorem dg {k} {x}:LX n (.int k x::rs) L w=LX n rs (fun vs ts=>L (.int k x::vs) ts) ⟨⟩:=by simp only [LX,FR,conv,List.length_nil,Nat.add_zero,List.nil_append]
@[go_sem] theorem bD {b}:LX n (.bool b::rs) L w=LX n rs (fun vs ts=>L (.bool b::vs) ts) ⟨⟩:=by simp only [LX,FR,conv,List.length_nil,Nat.add_zero,List.nil_append]
@[go_sem] theorem f5 {ap} {x}:LX n (.ow ap x::rs) L w=LX (n+1) rs (fun vs ts=>L (.own n::vs) ((n,⟨x,ap,0,false⟩)::ts)) ⟨⟩:=by simp only [LX,FR,conv,List.length_nil,List.length_cons,Nat.zero_add,List.cons_append,List.nil_append]
@[go_sem] theorem dh:LX n (.agg us::rs) L w=LX n us (fun ws ts=>LX (n+ts.length) rs (fun vs ts'=>L (.agg ws::vs) (ts++ts')) ⟨⟩) ⟨⟩:=by simp only [LX,FR,conv]
@[go_sem ↓] theorem lA {k} {x}:cv1 n (.int k x) L1=L1 (.int k x) [] :=rfl
@[go_sem ↓] theorem jP {b}:cv1 n (.bool b) L1=L1 (.bool b) [] :=rfl
@[go_sem ↓] theorem lC {x}:cv1 n (.str x) L1=L1 (.str x) [] :=rfl
@[go_sem ↓] theorem mO {x}:cv1 n (.ro x) L1=L1 .any [] :=rfl
@[go_sem ↓] theorem jQ:cv1 n .nilp L1=L1 .nilp [] :=rfl
@[go_sem ↓] theorem mP {ap} {x}:cv1 n (.ow ap x) L1=L1 (.own n) [(n,⟨x,ap,0,false⟩)] :=rfl
@[go_sem ↓] theorem lD:cv1 n (.agg us) L1=LX n us (fun ws ts=>L1 (.agg ws) ts) ⟨⟩:=by simp only [LX,cv1,conv]
@[go_sem ↓] theorem lE:cv1 n (.tup us) L1=LX n us (fun ws ts=>L1 (.tup ws) ts) ⟨⟩:=by simp only [LX,cv1,conv]
end
attribute [go_sem ↓] de dg bD f5 dh
def QD (P:Program) (L:Bool) (pos:Nat) (f:FuncId) (args:List AV) (as:Option (List AV)) (dst:Option Tmp) (σ:St) (K:St→Prop) (_:Wrap K) (w:Wrap L):Prop:=TS P L pos f args as dst σ K w
@[go_sem ↓] theorem jR {L} {wL} {f} {args} {as}:TS P L pos f args as dst σ K wL=QD P L pos f args as dst σ K ⟨⟩ wL:=rfl
theorem AH {f} {args bs} {w} {rv} (h:AC P f bs rv) (hk:BA (pos*16) fun m=>cv1 m rv fun v ts=>Ac (Cr σ ts) (K (σ.add dst ⟨v,ts,[]⟩))) {L} {wL}:QD P L pos f args (some bs) dst σ K w wL:=X2 h hk.1 hk.2
theorem Jy {f} {args bs} {w} {rv} {o} (e:o=some bs) (h:AC P f bs rv) (hk:BA (pos*16) fun m=>cv1 m rv fun v ts=>Ac (Cr σ ts) (K (σ.add dst ⟨v,ts,[]⟩))) {L} {wL}:QD P L pos f args o dst σ K w wL:=by
 subst e; exact X2 h hk.1 hk.2
theorem bE {f} {args bs} {w} {rv} {o} (h:AG P f bs [] [] rv [] []) (e:cls (fun _=>none) (fun _=>none) args=some bs) (hp:Sv rv=true) (hk:K (σ.add dst ⟨rv,[],[]⟩)) {L} {wL}:QD P L pos f args o dst σ K w wL:=.inl (.inr ⟨bs,rv,[],[],h,e,.inl ⟨rfl,hp,hk⟩⟩)
theorem f6 {f} {args bs} {w} {q k} {qt} {qb} {o} (h:AG P f bs [] [] (.box q k) qt qb) (e:cls (fun _=>none) (fun _=>none) args=some bs) (hk:K (σ.add dst ⟨.rop [] 0,[],[]⟩)) {L} {wL}:QD P L pos f args o dst σ K w wL:=.inl (.inr ⟨bs,.box q k,qt,qb,h,e,.inr (.inr ⟨⟨q,k,rfl⟩,hk⟩)⟩)
attribute [go_sem] Sv
def Vf (y:Way) (as:List AV) (pt:List (Nat × Tok)) (pb:List (Nat × List AV)) (qt:List (Nat × Tok)) (qb:List (Nat × List AV)):Bool:=
 decide (((y.rt++y.nt).map (·.2)).Nodup)&&decide (((y.rt++y.nt).map (·.1)).Nodup)&&decide (((y.rb.map (·.2.1))++y.nb.map (·.2)).Nodup)&&decide (((y.rb.map (·.1))++y.nb.map (·.1)).Nodup)&&
 (y.rt.all fun p=>(look pt p.1).isSome)&&(y.rb.all fun p=>(look pb p.1).isSome)&&(y.nt.all fun p=>(look pt p.1).isNone)&&(y.nb.all fun p=>(look pb p.1).isNone)&&decide ((pt.map (·.1)).Nodup)&&decide ((pb.map (·.1)).Nodup)&&
 (pb.all fun p=>(look qb p.1).isSome)&&Lg y.rt y.cv&&(y.md||noZ qt)&&Zu as pt pb&&(y.rt.all fun p=>decide (p.1 <1000)||(look qt p.1).isNone)
def Ro:List (Nat × Nat)→List (Nat × Option Tok)→Prop
 | [],_=>True
 |(_,n)::r,t=>look t n=none∧Ro r t
def OX:List (Nat × Nat)→List (Nat × Option (List AV))→Prop
 | [],_=>True
 |(_,n)::r,t=>look t n=none∧OX r t
def Vg (y:Way) (args as:List AV) (pt:List (Nat × Tok)) (pb:List (Nat × List AV)) (σ1:St):Prop:=
 Ro y.nt σ1.t∧OX y.nb σ1.b∧P3 y.rt σ1 pt∧Gt y σ1 (σ1.less y) pb∧PasL y (σ1.less y) args as
theorem QE {t}:∀ {l},Ro l t→∀p ∈ l,(look t p.2).isNone =true
 | [],_,p,h=>by cases h
 |(c,n)::l,hf,p,h=>by
  simp only [Ro] at hf
  rcases List.mem_cons.1 h with rfl|h
  ·rw [hf.1]; rfl
  ·exact QE hf.2 p h
theorem OY {t}:∀ {l},OX l t→∀p ∈ l,(look t p.2).isNone =true
 | [],_,p,h=>by cases h
 |(c,n)::l,hf,p,h=>by
  simp only [OX] at hf
  rcases List.mem_cons.1 h with rfl|h
  ·rw [hf.1]; rfl
  ·exact OY hf.2 p h
theorem Vh {f} {args} {σ} {as} {pt} {pb} {r} {qt} {qb} {K} (y:Way) (h:AG P f as pt pb r qt qb) (hB:Vf y as pt pb qt qb=true)
  (hc:Cs y.cv σ fun σ1=>Ac (Vg y args as pt pb σ1) (Bu y.cv (σ1.after y qt qb) fun σ2=>K (bak y r) σ2)):Sw P f args σ K:=by
 refine⟨y,as,pt,pb,r,qt,qb,h,I1 (fun σ1 h=>?_) hc⟩
 unfold Vf at hB
 simp only [Bool.and_eq_true,decide_eq_true_eq,and_assoc] at hB
 obtain⟨b1,b2,b3,b4,b5,b6,b7,b8,b9,b10,b11,b12,bm,b13,b14⟩:=hB
 obtain⟨⟨h1,h2,h3,h4,h5⟩,h6⟩:=h
 refine⟨⟨b1,b2,b3,b4,b5,b6,?_,?_,b9,b10⟩,h3,h4,h5,b11,⟨b12,bm⟩,b13,b14,h6⟩
 ·rw [List.all_eq_true] at b7 ⊢
  intro p hp
  rw [b7 p hp,QE h1 p hp]; rfl
 ·rw [List.all_eq_true] at b8 ⊢
  intro p hp
  rw [b8 p hp,OY h2 p hp]; rfl
theorem gA {L} {wL} {f} {args} {o} {w} {as} {pt} {pb} {r} {qt} {qb} (y:Way) (hL:L=true) (h:AG P f as pt pb r qt qb) (hB:Vf y as pt pb qt qb=true)
  (hc:Cs y.cv σ fun σ1=>Ac (Vg y args as pt pb σ1) (Bu y.cv (σ1.after y qt qb) fun σ2=>K (σ2.put dst (bak y r)))):QD P L pos f args o dst σ K w wL:=.inr ⟨hL,[],Vh (K:=fun v σ'=>K (σ'.put dst v)) y h hB hc⟩
theorem W2 {L} {wL} {f} {args} {o} {w} {as} {pt} {pb} {r} {qt} {qb} (bs:List Nat) (y:Way) (hL:L=true) (h:AG P f as pt pb r qt qb) (hB:Vf y as pt pb qt qb=true)
  (hc:FzK bs args σ fun args σ=>Cs y.cv σ fun σ1=>Ac (Vg y args as pt pb σ1) (Bu y.cv (σ1.after y qt qb) fun σ2=>K (σ2.put dst (bak y r)))):QD P L pos f args o dst σ K w wL:=.inr ⟨hL,bs,Rj (fun args σ hc=>Vh (K:=fun v σ'=>K (σ'.put dst v)) y h hB hc) hc⟩
@[go_sem ↓] theorem lF {args} {K}:FzK [] args σ K=K args σ:=rfl
@[go_sem ↓] theorem jS {b} {r} {args} {s} {t} {bb} {K}:FzK (b::r) args ⟨s,t,bb⟩ K=optX ((look bb b).join) fun vs=>Ac (1000≤b∧isMp vs=false) (BA (args.map (fzA b vs)) fun args'=>FzK r args' ⟨s,t,(b,none)::bb⟩ K):=rfl
section
variable {b:Nat} {vs:List AV}
@[go_sem] theorem lG {x n sz}:fzA b vs (.bsl x n sz)=(cl (fun _=>none) (only b vs) (.bsl x n sz)).getD (.bsl x n sz):=rfl
@[go_sem] theorem lH {x off}:fzA b vs (.box x off)=(cl (fun _=>none) (only b vs) (.box x off)).getD (.box x off):=rfl
@[go_sem] theorem lI {us}:fzA b vs (.agg us)=(cl (fun _=>none) (only b vs) (.agg us)).getD (.agg us):=rfl
@[go_sem] theorem lJ {k} {n}:fzA b vs (.int k n)= .int k n:=rfl
@[go_sem] theorem jT {x}:fzA b vs (.bool x)= .bool x:=rfl
@[go_sem] theorem lK {x}:fzA b vs (.str x)= .str x:=rfl
@[go_sem] theorem mQ {x}:fzA b vs (.ro x)= .ro x:=rfl
@[go_sem] theorem lL {x}:fzA b vs (.own x)= .own x:=rfl
@[go_sem] theorem lM {x} {off}:fzA b vs (.rop x off)= .rop x off:=rfl
@[go_sem] theorem lN {t sz i off}:fzA b vs (.elt t sz i off)= .elt t sz i off:=rfl
@[go_sem] theorem mR {f} {x}:fzA b vs (.fn f x)= .fn f x:=rfl
@[go_sem] theorem jU:fzA b vs .nilp = .nilp :=rfl
@[go_sem] theorem jV:fzA b vs .nils = .nils :=rfl
@[go_sem] theorem lO {x}:fzA b vs (.mpr x)= .mpr x:=rfl
@[go_sem] theorem lP:fzA b vs .any = .any :=rfl
end
attribute [go_sem] Option.getD_some Option.getD_none Option.join_some Option.bind_some Option.bind_none only
attribute [go_sem] ne_eq true_imp_iff implies_true false_imp_iff Dw D.flat kept Vg Ro OX P3 St.less P4 Q0 Q1 Q2 WQ WR St.after bak baks Gt
@[go_sem ↓] theorem iA:Cs [] σ K=K σ:=by rw [Cs]
@[go_sem ↓] theorem iB {n t' g sz i j:Nat} {r:List (Nat × AV × Option Nat)} {s:List (Nat × AV)} {t:List (Nat × Option Tok)} {b:List (Nat × Option (List AV))}:Cs ((n,.sub t' g [(sz,i,j)],none)::r) ⟨s,t,b⟩ K=
  Ac (look t n=none∧n≠t') (optX (look t t').join fun tk=>Ac (tk.gen=g) (optX (getP [(sz,i,j)] tk.rows) fun rows=>OW (putR [(sz,i,j)] tk.rows .gone) fun rows'=>Cs r ⟨s,(n,some ⟨rows,none,0,tk.z⟩)::(t',some ⟨rows',tk.sz,g,tk.z⟩)::t,b⟩ K)):=by
 rw [Cs]
 simp only [Ac,optX,Jh,List.length_cons,List.length_nil,true_and,Nat.zero_add]
 refine propext ⟨?_,?_⟩
 ·rintro ⟨h2,tk,rows,h4,h5,h6,h7,h8⟩; exact⟨⟨h2,h7⟩,tk,h4,h5,rows,h6,h8⟩
 ·rintro ⟨⟨h2,h7⟩,tk,h4,h5,rows,h6,h8⟩; exact⟨h2,tk,rows,h4,h5,h6,h7,h8⟩
@[go_sem ↓] theorem lQ:Bu [] σ K=K σ:=by rw [Bu]
def unX (n:Nat) (K:St→Prop) (σ:St):Prop:=K {σ with t:=(n,none)::σ.t}
@[go_sem ↓] theorem mS {n} {s} {t} {b}:unX n K ⟨s,t,b⟩=K ⟨s,(n,none)::t,b⟩:=rfl
def unS (n t' g:Nat) (p:Pth) (K:St→Prop) (σ:St):Prop:=match σ.T n with
 |some tn=>∃tk,σ.T t'=some tk∧QP p tk.rows=some .gone ∧(n≠t'∧okZ tk.z tn=true)∧K {σ with t:=(n,none)::(t',some ⟨putR p tk.rows (.sl tn.rows),tk.sz,if tn.gen=0∧tk.gen=g then g else tk.gen+tn.gen+1,tk.z⟩)::σ.t}
 |none=>K σ
@[go_sem ↓] theorem lR {n t' g} {p} {z} {r}:Bu ((n,.sub t' g p,z)::r) σ K=Bu r σ (unS n t' g p K):=by rw [Bu]; rfl
def unO (o:Option Tok) (n t' g:Nat) (p:Pth) (K:St→Prop) (σ:St):Prop:=match o with
 |some tn=>Ac (n≠t') (optX (σ.T t') fun tk=>Ac (okZ tk.z tn=true) (Ac (QP p tk.rows=some .gone) (OW (putR p tk.rows (.sl tn.rows)) fun rows=>K ⟨σ.s,(n,none)::(t',some ⟨rows,tk.sz,if tn.gen=0∧tk.gen=g then g else tk.gen+tn.gen+1,tk.z⟩)::σ.t,σ.b⟩)))
 |none=>K σ
@[go_sem ↓] theorem mT {n t' g:Nat} {p:Pth} {s:List (Nat × AV)} {t:List (Nat × Option Tok)} {b:List (Nat × Option (List AV))}:unS n t' g p K ⟨s,t,b⟩=unO (look t n).join n t' g p K ⟨s,t,b⟩:=by
 unfold unS unO
 have e:St.T ⟨s,t,b⟩ n=(look t n).join :=rfl
 rw [e]
 cases (look t n).join with
 |none=>rfl
 |some tn=>
  simp only [Ac,optX,Jh]
  refine propext ⟨?_,?_⟩
  ·rintro ⟨tk,h1,h2,⟨h3,h0⟩,h4⟩; exact⟨h3,tk,h1,h0,h2,h4⟩
  ·rintro ⟨h3,tk,h1,h0,h2,h4⟩; exact⟨tk,h1,h2,⟨h3,h0⟩,h4⟩
@[go_sem] theorem jW {n t' g} {p} {tn}:unO (some tn) n t' g p K σ=Ac (n≠t') (optX (σ.T t') fun tk=>Ac (okZ tk.z tn=true) (Ac (QP p tk.rows=some .gone) (OW (putR p tk.rows (.sl tn.rows)) fun rows=>K ⟨σ.s,(n,none)::(t',some ⟨rows,tk.sz,if tn.gen=0∧tk.gen=g then g else tk.gen+tn.gen+1,tk.z⟩)::σ.t,σ.b⟩))):=rfl
@[go_sem] theorem jX {n t' g} {p}:unO none n t' g p K σ=K σ:=rfl
theorem Jz {α:Type} {l:List α} {i:Nat} {x y:α} (h:l[i]? =some x):(l.set i y)[i]? =some y:=List.getElem?_set_self (Af h)
theorem DJ {rows r} {sz i j} {row} (h:rows[i]? =some row) (hl:row.length=sz) (hj:row[j]? =some (.sl r)):getP [(sz,i,j)] rows=some r:=by
 simp only [getP,h,hl,if_true,hj]
theorem T0 {rows} {sz i j} {row} {d} (h:rows[i]? =some row) (hl:row.length=sz) (hj:row[j]? =some d):QP [(sz,i,j)] rows=some d:=by
 simp only [QP,h,hl,if_true,hj]
theorem GT {rows} {sz i j} {row} {d d'} (h:rows[i]? =some row) (hj:row[j]? =some d'):putR [(sz,i,j)] rows d=rows.set i (row.set j d):=by
 unfold putR
 rw [Ab.put,h]
 simp only [hj,Ab.put]
theorem di {rows:List (List D)} {sz i j:Nat} {row:List D} {d d':D} (h:rows[i]? =some row) (hj:row[j]? =some d'):(putR [(sz,i,j)] rows d)[i]? =some (row.set j d):=by
 rw [GT h hj]; exact Jz h
section
variable {y:Way} {σ0:St}
@[go_sem] theorem jY:PasL y σ0 [] [] =True:=by simp only [PasL]
@[go_sem] theorem iC {a b} {as bs}:PasL y σ0 (a::as) (b::bs)=(Gs y σ0 a b∧PasL y σ0 as bs):=by simp only [PasL]
@[go_sem] theorem lS {n c}:Gs y σ0 (.own n) (.own c)=(look y.rt c=some n∨∃z,∃m,look y.rt c=some m∧look y.cv m=some (.own n,z)):=by
 simp only [Gs]
 refine propext ⟨?_,?_⟩
 ·rintro ⟨m,h1,h2|⟨z,h2⟩⟩
  ·cases h2; exact .inl h1
  ·exact .inr ⟨z,m,h1,h2⟩
 ·rintro (h|⟨z,m,h1,h2⟩)
  ·exact⟨n,h,.inl rfl⟩
  ·exact⟨m,h1,.inr ⟨z,h2⟩⟩
def cvX (o:Option (AV × Option Nat)) (a:AV):Prop:=match o with|some x=>x.1 =a|none=>False
theorem dj {o} {a}:(∃z,o=some (a,z))=cvX o a:=by
 unfold cvX
 cases o with
 |none=>simp
 |some x=>obtain⟨b,z⟩:=x; simp
def rtX (o:Option Nat) (K:Nat→Prop):Prop:=match o with|some n=>K n|none=>False
@[go_sem] theorem jZ {n} {K}:rtX (some n) K=K n:=rfl
@[go_sem] theorem ja {x} {a}:cvX (some x) a=(x.1 =a):=rfl
theorem dk {o} {p}:(∃n,o=some n∧p n)=rtX o p:=by
 cases o <;> simp [rtX]
@[go_sem] theorem lT {t g c} {p}:Gs y σ0 (.sub t g p) (.own c)=rtX (look y.rt c) fun n=>cvX (look y.cv n) (.sub t g p):=by
 rw [← dk]
 simp only [Gs,reduceCtorEq,false_or,dj]
@[go_sem] theorem lU {n off b off'}:Gs y σ0 (.box n off) (.box b off')=match look y.rb b with|some q=>n=q.1 ∧off=q.2 +off'|none=>False:=by
 simp only [Gs,AV.box.injEq]
 cases look y.rb b <;> simp
@[go_sem] theorem lV {vs us}:Gs y σ0 (.agg vs) (.agg us)=PasL y σ0 vs us:=by simp only [Gs]
@[go_sem] theorem lW {n b}:Gs y σ0 (.mpr n) (.mpr b)=match look y.rb b with|some q=>n=q.1 |none=>False:=by
 simp only [Gs,AV.mpr.injEq]
 cases look y.rb b <;> simp
def clW (y:Way) (σ0:St) (a:AV):Option AV:=cl (if y.md=true then fun _=>none else σ0.T) (if y.md=true then fun _=>none else σ0.B) a
@[go_sem] theorem lX {a} {k} {n}:Gs y σ0 a (.int k n)=(clW y σ0 a=some (.int k n)):=by cases a <;> simp only [Gs,clW]
@[go_sem] theorem mU {a} {rows}:Gs y σ0 a (.ro rows)=(clW y σ0 a=some (.ro rows)):=by cases a <;> simp only [Gs,clW]
@[go_sem] theorem lY {a} {vs} {off}:Gs y σ0 a (.rop vs off)=(clW y σ0 a=some (.rop vs off)):=by cases a <;> simp only [Gs,clW]
@[go_sem] theorem lZ {a} {q} {rows}:Gs y σ0 a (.mpc q rows)=(clW y σ0 a=some (.mpc q rows)):=by cases a <;> simp only [Gs,clW]
@[go_sem] theorem mV {cv rt rb nt nb} {a}:clW ⟨cv,rt,rb,nt,nb,true⟩ σ0 a=cl (fun _=>none) (fun _=>none) a:=by simp [clW]
@[go_sem] theorem mW {cv rt rb nt nb} {a}:clW ⟨cv,rt,rb,nt,nb,false⟩ σ0 a=cl σ0.T σ0.B a:=by simp [clW]
end
def jb (P:Program) (t:TypeId) (v:AV) (σ:St) (K:Bool→Prop) (_:Wrap K):Prop:=cj P t v σ K
theorem bF {rows} {K} {w} (h:slP (ti P t)) (h0:rows=[] →K true) (h1:K false):jb P t (.ro rows) σ K w:=ck h h0 h1
@[go_sem ↓] theorem iD:opX P pos dst (.makeMap t none) σ K=optX (Xb P t) fun q=>Ac (look σ.b pos=none) (K ((σ.put dst (.mpr pos)).setB pos [.mpc q []])):=by
 rw [PV (fun _=>by simp only [aop])]
 simp only [Ev,optX,Ac]
 refine propext ⟨?_,?_⟩
 ·rintro ⟨r,⟨q,h1,rfl⟩,-,h2,h3⟩
  exact⟨q,h1,h2.1,by rw [← Ji]; exact h3⟩
 ·rintro ⟨q,h1,h2,h3⟩
  exact⟨_,⟨q,h1,rfl⟩,trivial,⟨h2,trivial⟩,by rw [Ji]; exact h3⟩
def lkR (ok:Bool) (o:Option D) (z:AV) (K:AV→Prop):Prop:=K (if ok=true then .tup [(o.map ofD).getD z,.bool o.isSome] else (o.map ofD).getD z)
@[go_sem] theorem mX {o} {z} {K}:lkR false o z K=BA ((o.map ofD).getD z) K:=by simp [lkR,BA]
def lkX (P:Program) (t:TypeId) (u v:AV) (ok:Bool) (σ:St) (K:AV→Prop):Prop:=∃r,Pz P σ.B t u v ok r∧K r
@[go_sem] theorem lc {b} {v} {ok} {K}:lkX P t (.mpr b) v ok σ K=W1 (ti P t) fun kt et=>Vc (σ.B b) fun q rows=>Ac (Ul P kt=some q) (optX (keyD v) fun k=>Ac (Ti q k=true) (optX (tz1 P et) fun z=>BA (zAV z) fun z'=>BA (Is k rows) fun o=>lkR ok o z' K)):=by
 simp only [lkX,Pz,W1,Vc,Ac,optX,BA,lkR]
 generalize ti P t=w
 cases w with
 |map kt et=>
  simp only
  refine propext ⟨?_,?_⟩
  ·rintro ⟨r,⟨q,rows,h1,h2,k,h3,h4,z,h5,rfl⟩,h6⟩; exact⟨q,rows,h1,h2,k,h3,h4,z,h5,h6⟩
  ·rintro ⟨q,rows,h1,h2,k,h3,h4,z,h5,h6⟩; exact⟨_,⟨q,rows,h1,h2,k,h3,h4,z,h5,rfl⟩,h6⟩
 |_=>simp
@[go_sem ↓] theorem jc {ok}:opX P pos dst (.lookup t x y ok) σ K=BA (σ.e x) fun u=>BA (σ.e y) fun v=>lkX P t u v ok σ fun r=>K (σ.put dst r):=
 Gx (p:=fun v=>Pz P σ.B t (σ.e x) (σ.e y) ok v) (fun _=>by simp only [aop]) (fun r=>by simp only [Ev])
def TT (a:AV):Option D:=match Ko [a] with|some [d] =>some d|_=>none
@[go_sem] theorem iE {k} {n}:TT (.int k n)=some (.int k n):=rfl
@[go_sem] theorem gB {b}:TT (.bool b)=some (.bool b):=rfl
@[go_sem] theorem iF {s}:TT (.str s)=some (.str s):=rfl
theorem bG {a} {d}:Ko [a] =some [d] ↔TT a=some d:=by
 unfold TT
 cases a <;> simp [Ko]
def muX (P:Program) (t:TypeId) (u v x:AV) (σ:St) (K:St→Prop):Prop:=Un P t u v x σ K
@[go_sem] theorem ld {b:Nat} {v x:AV}:muX P t (.mpr b) v x σ K=W1 (ti P t) fun kt et=>Vc (σ.B b) fun q rows=>Ac (rows.length<68719476736) (Ac (Ul P kt=some q) (optX (keyD v) fun k=>Ac (Ti q k=true) (optX (TT x) fun d=>OW (mput k d rows) fun rows'=>K (σ.setB b [.mpc q rows'])))):=by
 simp only [muX,Un,W1,Vc,Ac,optX,Jh]
 generalize ti P t=w
 cases w with
 |map kt et=>
  simp only [bG]
 |_=>rfl
@[go_sem ↓] theorem ee {m i}:opX P pos dst (.mapUpdate t m i x) σ K=BA (σ.e m) fun u=>BA (σ.e i) fun v=>BA (σ.e x) fun z=>muX P t u v z σ fun σ'=>K (σ'.put dst .any):=by
 unfold opX
 simp only [aop,BA,muX]
attribute [go_sem] keyD
@[go_sem] theorem jd {k} {n}:Ti (.int k) (.int k n)=true:=by simp [Ti]
@[go_sem] theorem je {s}:Ti .str (.str s)=true:=rfl
@[go_sem ↓] theorem mY:opX P pos dst (.pick c a b) σ K=BA (σ.e c) fun u=>BA (σ.e a) fun v=>BA (σ.e b) fun w=>Rn u v w fun v=>K (σ.put dst v):=fX
@[go_sem ↓] theorem mZ:opX P pos dst (.load t a) σ K=BA (σ.e a) fun u=>OV P t u σ fun v=>K (σ.put dst v):=fY
@[go_sem ↓] theorem gC:opX P pos dst (.nilCheck x) σ K=BA (σ.e x) fun u=>Ty u fun v=>K (σ.put dst v):=Wz
@[go_sem ↓] theorem iG {y}:opX P pos dst (.binOp op t x (.tmp y) t') σ K=BA (σ.e x) fun u=>BA (σ.g y) fun v=>GS P op t u v fun v=>K (σ.put dst v):=Y6
@[go_sem ↓] theorem iH {k} {n}:opX P pos dst (.binOp op t x (.const (.int k n)) t') σ K=BA (σ.e x) fun u=>GS P op t u (.int k n) fun v=>K (σ.put dst v):=Y7
@[go_sem ↓] theorem jf:opX P pos dst (.binOp .eql t x (.const (.slice none 0 0)) t') σ K=BA (σ.e x) fun u=>jb P t u σ (fun b=>K (σ.put dst (.bool b))) ⟨⟩:=ai
@[go_sem ↓] theorem ma {op}:opX P pos dst (.unOp op t x) σ K=BA (σ.e x) fun u=>c9 op u fun v=>K (σ.put dst v):=ff
@[go_sem ↓] theorem iI:opX P pos dst (.convert s d x) σ K=BA (σ.e x) fun u=>VX P s d u σ fun v=>K (σ.put dst v):=Y9
@[go_sem ↓] theorem ef:opX P pos dst (.fieldAddr s x f) σ K=BA (σ.e x) fun u=>faX P s u f fun v=>K (σ.put dst v):=VZ
@[go_sem ↓] theorem eh:opX P pos dst (.indexAddr t x y) σ K=BA (σ.e x) fun u=>BA (σ.e y) fun v=>iaX P t u v σ fun v=>K (σ.put dst v):=Vb
@[go_sem ↓] theorem lf {l h}:opX P pos dst (.slice t x l h none) σ K=BA (σ.e x) fun u=>ZC P σ.T t u (l.map σ.e) (h.map σ.e) fun v=>K (σ.put dst v):=Xz
theorem jg {t el} {x} {l h} {n} {tk} {i j} {r} {L} {w1 w2 w3} (he:σ.e x= .own n) (hT:σ.T n=some tk) (hu:ti P t= .sl el) (hz:0<tsz P el) (hr:∀row ∈ tk.rows,row.length=tsz P el) (hi:bndI (l.map σ.e) 0=some i) (hj:bndI (h.map σ.e) tk.rows.length=some j) (hc:cutL tk.rows i j=some r)
  (k:K (σ.put dst (.par n (tsz P el) i.toNat (j - i).toNat))):Wx P L pos dst (.slice t x l h none) (.own n) σ K w1 w2 w3:=by
 refine .inl ?_
 rw [Xz,he]
 exact⟨_,.inr ⟨tk,hT,el,hu,⟨hz,hr⟩,i,hi,j,hj,r,hc,rfl⟩,k⟩
@[go_sem ↓] theorem lg:opX P pos dst (.index t x y) σ K=BA (σ.e x) fun u=>BA (σ.e y) fun v=>elX P t u v fun v=>K (σ.put dst v):=dG
@[go_sem ↓] theorem iJ:opX P pos dst (.extract x i) σ K=BA (σ.e x) fun u=>ZD u i fun v=>K (σ.put dst v):=ZE
@[go_sem ↓] theorem mw:opX P pos dst (.call ⟨.builtin .len,List.toArray [x],List.toArray [t]⟩) σ K=BA (σ.e x) fun u=>SW P t u σ fun v=>K (σ.put dst v):=i8
@[go_sem ↓] theorem mx {ts}:opX P pos dst (.call ⟨.builtin .max,List.toArray [x,y],ts⟩) σ K=BA (σ.e x) fun u=>BA (σ.e y) fun v=>QR (fun n m=>if n<m then m else n) u v fun v=>K (σ.put dst v):=i9
@[go_sem ↓] theorem my {ts}:opX P pos dst (.call ⟨.builtin .min,List.toArray [x,y],ts⟩) σ K=BA (σ.e x) fun u=>BA (σ.e y) fun v=>QR (fun n m=>if m<n then m else n) u v fun v=>K (σ.put dst v):=jA
@[go_sem ↓] theorem mz:opX P pos dst (.box t x) σ K=BA (cellsOf (σ.e x)) fun cs=>bxX pos cs dst (.box pos 0) σ K:=jE
@[go_sem ↓] theorem lh:opX P pos dst (.alloc t) σ K=Ac (0<(tz P t).length) (BA ((tz P t).map zAV) fun vs=>bxX pos (some vs) dst (.box pos 0) σ K):=dM
@[go_sem ↓] theorem li {parts}:opX P pos dst (.build t parts.toArray) σ K=Vd P (ti P t) fun fs=>Ac ((fs.all fun q=>decide (0<tsz P q.2))=true∧0<(tz P t).length) (BA ((tz P t).map zAV) fun vs=>BA (pvs σ parts) fun ps=>bpX P fs vs ps fun v=>K (σ.put dst v)):=dQ
@[go_sem ↓] theorem ei:opX P pos dst (.makeSlice t l c) σ K=slX (ti P t) fun e=>BA (σ.e l) fun u=>BA (σ.e c) fun v=>mkX P pos e u v dst σ K:=Ve
@[go_sem ↓] theorem mc {L} {wL} {args} {ts}:opL P L pos dst (.call ⟨.value g,args.toArray,ts⟩) σ K wL=BA (σ.e g) fun u=>BA (evs σ args) fun vs=>clX P L pos u vs dst σ K wL:=ft
@[go_sem ↓] theorem lj:opX P pos dst (.store t a x) σ K=BA (σ.e a) fun u=>BA (cellsOf (σ.e x)) fun cs=>stX P t u cs σ fun σ'=>K (σ'.put dst .any):=dV
@[go_sem ↓] theorem jh:opX P pos dst (.call ⟨.builtin .append,List.toArray [x,y],List.toArray [t,t]⟩) σ K=slX (ti P t) fun e=>BA (σ.e x) fun u=>BA (σ.e y) fun v=>apX P pos e u v dst σ K:=a7
def apE (P:Program) (pos:Nat) (e:TypeId) (u v:AV) (dst:Option Tmp) (σ:St) (K:St→Prop):Prop:=Xc u=true∧match v with
 | .ro rows=>(0<tsz P e∧(tz P e).length =tsz P e)∧∃z,roZ z (tsz P e) rows fun rows=>(rows.length*P.bytesOf e≤140737488355328∧rows.length≤maxLen)∧look σ.t (pos*16)=none∧K ((σ.setT (pos*16) ⟨rows,some (tsz P e),0,z⟩).put dst (.own (pos*16)))
 |_=>False
theorem bH {z} {sz} {rows} {K K'} (h:∀r,K r→K' r) (k:roZ z sz rows K):roZ z sz rows K':=by
 cases z
 ·exact⟨k.1,h _ k.2⟩
 ·exact⟨k.1,h _ k.2⟩
def roX (z:Bool) (sz:Nat) (rows:List (List D)) (K:List (List D)→Prop):Prop:=roZ z sz rows K
@[go_sem] theorem m5 {sz} {rows} {K}:roX false sz rows K=Ac (∀row ∈ rows,row.length=sz∧∀d ∈ row,d.flat=true) (K rows):=rfl
@[go_sem] theorem me {e:TypeId} {u:AV} {rows:List (List D)}:apE P pos e u (.ro rows) dst σ K=Ac (Xc u=true) (Ac (0<tsz P e∧(tz P e).length =tsz P e) (zX fun z=>roX z (tsz P e) rows fun rows=>Ac (rows.length*P.bytesOf e≤140737488355328∧rows.length≤maxLen) (Ac (look σ.t (pos*16)=none) (OW rows fun rows=>K ((σ.setT (pos*16) ⟨rows,some (tsz P e),0,z⟩).put dst (.own (pos*16))))))):=by simp only [Jh]; rfl
@[go_sem ↓] theorem mf:opE P pos dst (.call ⟨.builtin .append,List.toArray [x,y],List.toArray [t,t]⟩) σ K=slX (ti P t) fun e=>BA (σ.e x) fun u=>BA (σ.e y) fun v=>apE P pos e u v dst σ K:=by
 unfold opE
 simp only [Ev,iQ,slX,true_and,BA]
 generalize σ.e x=u
 generalize σ.e y=v
 refine propext ⟨?_,?_⟩
 ·rintro ⟨r,⟨h1,h2⟩,h3,h4,h5⟩
  split at h2
  ·rename_i el rows hel
   obtain⟨h6,z,h7⟩:=h2
   rw [hel]
   refine⟨h1,h6,z,bH (fun rows h8=>?_) h7⟩
   obtain⟨h9,rfl⟩:=h8
   refine⟨h9,h3.1,?_⟩
   cases dst <;> exact h5
  ·exact h2.elim
 ·intro h
  generalize hti:ti P t=q at h ⊢
  cases q with
  | sl el=>
   cases v with
   | ro rows=>
    obtain⟨h1,h6,z,h7⟩:=h
    cases z with
    |false=>
     obtain⟨h8,h9,h10,h5⟩:=h7
     exact⟨_,⟨h1,h6,false,h8,h9,rfl⟩,⟨h10,trivial⟩,trivial,by cases dst <;> exact h5⟩
    |true=>
     obtain⟨h8,h9,h10,h5⟩:=h7
     exact⟨_,⟨h1,h6,true,h8,h9,rfl⟩,⟨h10,trivial⟩,trivial,by cases dst <;> exact h5⟩
   |_=>exact h.2.elim
  |_=>exact h.elim
@[go_sem ↓] theorem mg {e:TypeId} {u v:AV}:apX P pos e u v dst σ K=Ac (0<tsz P e∧(tz P e).length =tsz P e) (zX fun z=>Qz z e (tsz P e) u σ fun rows σ1=>QO z (tsz P e) v σ1 fun rows2 σ2=>
   Ac ((rows.length+rows2.length)*P.bytesOf e≤140737488355328∧rows.length+rows2.length≤maxLen) (Ac (look σ2.t (pos*16)=none) (OW (rows++rows2) fun rows=>K ((σ2.setT (pos*16) ⟨rows,some (tsz P e),0,z⟩).put dst (.own (pos*16)))))):=by simp only [Jh]; rfl
end
attribute [go_sem] zAV
section
variable {P:Program} {σ:St} {K:St→Prop} {ops:Array Oper} {base cut i:Nat}
@[go_sem] theorem gD {x} {xs b} {w1} {w2} {w3} {w4}:Lz P ops base cut i (List.append (x::xs) b) σ K w1 w2 w3 w4=Lz P ops base cut i (x::List.append xs b) σ K w1 ⟨⟩ w3 w4:=rfl
@[go_sem] theorem iK {b} {w1} {w2} {w3} {w4}:Lz P ops base cut i (List.append [] b) σ K w1 w2 w3 w4=Lz P ops base cut i b σ K w1 ⟨⟩ w3 w4:=rfl
@[go_sem ↓] theorem cM {b} {j} {K}:OU (List.toArray (List.append [] b)) j K=OU b.toArray j K:=rfl
end
end Go.Proofs.YtckcfdggbbabfaaGreat.Ab
namespace Go.Proofs.YtckcfdggbbabfaaGreat.Ab
set_option linter.unusedVariables false
open Go.RowKit
def pos (P:Program):Code→List Nat→(AE→St→Prop)→St→Prop
 |c,[],Q=>awp P c Q
 | .seq a b,0::p,Q=>pos P a p (AE.then (cd (Iu a) (awp P b Q)) Q)
 | .seq a b,_::p,Q=>pos P b p Q
 | .cond _ a b,0::p,Q=>pos P a p Q
 | .cond _ a b,_::p,Q=>pos P b p Q
 | .block id c,_::p,Q=>pos P c p (AE.inBlock id Q)
 | .loop c,_::p,Q=>pos P c p (AE.then (lpX P c Q) Q)
 |_,_,_=>fun _=>False
def Al (P:Program) (fn:Func) (p:List Nat) (r:RV) (σ:St):Prop:=pos P (fn.body.getD .skip) p (endX P fn.results.toList r) σ
def bI (r:AV) (qt:List (Nat × Tok)) (qb:List (Nat × List AV)) (v:AV) (σ:St):Prop:=Wk ⟨[(0,v)],σ.t,σ.b⟩ ⟨[(0,r)],Lx qt,Ly qb⟩
def TU (r:AV) (qt:List (Nat × Tok)) (qb:List (Nat × List AV)) (σ:St) (vs:List AV):Prop:=bI r qt qb (oneA vs) σ
@[go_sem ↓] theorem ji {r} {qt} {qb} {σ}:TU r qt qb σ [] =bI r qt qb (.tup []) σ:=rfl
@[go_sem ↓] theorem jj {r v} {qt} {qb} {σ}:TU r qt qb σ [v] =bI r qt qb v σ:=rfl
@[go_sem ↓] theorem jk {r v u} {vs} {qt} {qb} {σ}:TU r qt qb σ (v::u::vs)=bI r qt qb (.tup (v::u::vs)) σ:=rfl
def L4 (P:Program) (l:List ResultVar) (r:AV) (qt:List (Nat × Tok)) (qb:List (Nat × List AV)) (q:AE) (σ:St):Prop:=match q with| .exit _=>False|_=>M1 P σ l (TU r qt qb σ)
@[go_sem ↓] theorem ej {P} {l} {r} {qt} {qb} {σ}:L4 P l r qt qb .normal σ=M1 P σ l (TU r qt qb σ):=rfl
@[go_sem ↓] theorem jl {P} {l} {r} {qt} {qb} {σ}:L4 P l r qt qb .ret σ=M1 P σ l (TU r qt qb σ):=rfl
theorem A7 {r v} {qt} {qb} {σ σ1} (hn:Nils ⟨[(0,v)],σ.t,σ.b⟩ σ1) (rt rb:List (Nat × Nat)) (h:Kq rt rb σ1 ⟨[(0,r)],Lx qt,Ly qb⟩):bI r qt qb v σ:=.one ⟨σ1,hn,rt,rb,h⟩
attribute [go_sem] Lx Ly stG Zv Zw oneA
theorem jm {P} (hm:P.follows .mixedOrders =true) {f} {fn} {c} {l} {args} {pt} {pb} {r} {qt} {qb} (hf:P.funcs[f]? =some fn) (hb:fn.body=some c) (hr:fn.results=l.toArray) (hnm:(fn.name == "runtime.NumGoroutine")=false)
  (hn:decide (args.length≤fn.ntmps)=true) (hok:F2 fn.ntmps c=true) (h:awp P c (L4 P l r qt qb) (stG args pt pb)):AG P f args pt pb r qt qb:=by
 refine Wp hm hf hb hnm (of_decide_eq_true hn) hok ?_
 have e:endG P fn.results.toList r qt qb=L4 P l r qt qb:=by
  rw [hr]
  funext q σ
  cases q <;> rfl
 rw [e]
 exact h
def DA (P:Program) (fn:Func) (p:List Nat) (r:AV) (qt:List (Nat × Tok)) (qb:List (Nat × List AV)) (σ:St):Prop:=pos P (fn.body.getD .skip) p (L4 P fn.results.toList r qt qb) σ
section
variable {P:Program} {σ:St} {Q:AE→St→Prop}
theorem Av {fn} {c} {l} {p} {r} {qt} {qb} (hb:fn.body=some c) (hr:fn.results=l.toArray) (h:pos P c p (L4 P l r qt qb) σ):DA P fn p r qt qb σ:=by
 unfold DA; rw [hb,hr]; exact h
theorem Gy {fn} {c} {l} {p} {r} {qt} {qb} (hb:fn.body=some c) (hr:fn.results=l.toArray) (h:DA P fn p r qt qb σ):pos P c p (L4 P l r qt qb) σ:=by
 unfold DA at h; rw [hb,hr] at h; exact h
theorem AN {fn} {c} {l} {p} {r} (hb:fn.body=some c) (hr:fn.results=l.toArray) (h:pos P c p (endX P l r) σ):Al P fn p r σ:=by
 unfold Al; rw [hb,hr]; exact h
theorem DK {fn} {c} {l} {p} {r} (hb:fn.body=some c) (hr:fn.results=l.toArray) (h:Al P fn p r σ):pos P c p (endX P l r) σ:=by
 unfold Al at h; rw [hb,hr] at h; exact h
@[go_sem ↓] theorem ll {c}:pos P c [] Q σ=awp P c Q σ:=by cases c <;> rfl
@[go_sem ↓] theorem jo {a b} {p}:pos P (.seq a b) (0::p) Q σ=pos P a p (AE.then (cd (Iu a) (awp P b Q)) Q) σ:=rfl
@[go_sem ↓] theorem jp {a b} {p}:pos P (.seq a b) (1::p) Q σ=pos P b p Q σ:=rfl
@[go_sem ↓] theorem iL {c} {a b} {p}:pos P (.cond c a b) (0::p) Q σ=pos P a p Q σ:=rfl
@[go_sem ↓] theorem iM {c} {a b} {p}:pos P (.cond c a b) (1::p) Q σ=pos P b p Q σ:=rfl
@[go_sem ↓] theorem iN {id} {c} {p}:pos P (.block id c) (0::p) Q σ=pos P c p (AE.inBlock id Q) σ:=rfl
@[go_sem ↓] theorem jq {c} {p}:pos P (.loop c) (0::p) Q σ=pos P c p (AE.then (lpX P c Q) Q) σ:=rfl
theorem gE {c} {σ σ1} (hw:Wk σ σ1) (h:awp P (.loop c) Q σ1):awp P (.loop c) Q σ:=by
 rw [awp] at h ⊢
 intro L hL
 obtain⟨σ0,h1,h2⟩:=h L hL
 exact⟨σ0,hw.trans h1,h2⟩
theorem Ch {b} {w1} {w2} {σ1} (h:awp P (.loop b) Q σ1) (hw:Wk σ σ1):VT P b Q σ w1 w2:=gE hw h
end
mutual
theorem W3 {rt rb}:∀ {a},HQ a=true→F7 rt rb a=true∧ren rt rb a=a
 | .int _ _,_=>⟨rfl,rfl⟩
 | .bool _,_=>⟨rfl,rfl⟩
 | .str _,_=>⟨rfl,rfl⟩
 | .ro _,_=>⟨rfl,rfl⟩
 | .nilp,_=>⟨rfl,rfl⟩
 | .rop vs off,h=>by
  simp only [HQ] at h
  obtain⟨h1,h2⟩:=Ge (rt:=rt) (rb:=rb) h
  simp only [F7,ren]
  exact⟨h1,by rw [h2]⟩
 | .fn f vs,h=>by
  simp only [HQ] at h
  obtain⟨h1,h2⟩:=Ge (rt:=rt) (rb:=rb) h
  simp only [F7,ren]
  exact⟨h1,by rw [h2]⟩
 | .agg vs,h=>by
  simp only [HQ] at h
  obtain⟨h1,h2⟩:=Ge (rt:=rt) (rb:=rb) h
  simp only [F7,ren]
  exact⟨h1,by rw [h2]⟩
theorem Ge {rt rb}:∀ {as},GQ as=true→Gu rt rb as=true∧rens rt rb as=as
 | [],_=>⟨rfl,rfl⟩
 |a::as,h=>by
  simp only [GQ,Bool.and_eq_true] at h
  obtain⟨h1,h2⟩:=W3 (rt:=rt) (rb:=rb) h.1
  obtain⟨h3,h4⟩:=Ge (rt:=rt) (rb:=rb) h.2
  simp only [Gu,rens,h1,h2,h3,h4,Bool.and_self,and_self]
end
mutual
theorem dl {T} {B}:∀ {a},HQ a=true→cl T B a=some a
 | .int _ _,_=>rfl
 | .bool _,_=>rfl
 | .str _,_=>rfl
 | .ro _,_=>rfl
 | .nilp,_=>rfl
 | .rop vs off,h=>by simp only [HQ] at h; simp only [cl,L5 h,Option.map_some]
 | .fn f vs,h=>by simp only [HQ] at h; simp only [cl,L5 h,Option.map_some]
 | .agg vs,h=>by simp only [HQ] at h; simp only [cl,L5 h,Option.map_some]
theorem L5 {T} {B}:∀ {as},GQ as=true→cls T B as=some as
 | [],_=>rfl
 |a::as,h=>by
  simp only [GQ,Bool.and_eq_true] at h
  simp only [cls,dl h.1,L5 h.2]
end
structure Still (vs:List AV):Prop where
 p:GQ vs=true
 k:∀rt rb,Gu rt rb vs=true
 r:∀rt rb,rens rt rb vs=vs
 c:∀T B,cls T B vs=some vs
theorem Still.of {vs} (h:GQ vs=true):Still vs:=⟨h,fun _ _=>(Ge h).1,fun _ _=>(Ge h).2,fun _ _=>L5 h⟩
def Sub (a b:AV):Prop:=∀w v,VSim w Gh.none a v→VSim w Gh.none b v
theorem Sub.refl (a:AV):Sub a a:=fun _ _ h=>h
theorem Sub.rop {vs us} {off} (h:(vs.drop off).take us.length=us):Sub (.rop vs off) (.rop us 0):=fun w v hv=>by
 simp only [VSim] at hv ⊢
 obtain⟨b,o,xs,rfl,h1,h2⟩:=hv
 refine⟨b,o+off,(xs.drop off).take us.length,rfl,?_,fun j u hu=>?_⟩
 ·have:=h1.take_drop off us.length
  unfold F1 at this
  rw [h] at this; exact this
 ·rw [List.getElem?_take] at hu
  split at hu
  ·rw [List.getElem?_drop] at hu
   rw [Nat.add_assoc]; exact h2 _ _ hu
  ·cases hu
def SX:List AV→List AV→Prop
 | [],[] =>True
 |a::as,b::bs=>Sub a b∧SX as bs
 |_,_=>False
theorem SX.nil:SX [] [] :=trivial
theorem SX.cons {a b} {as bs} (h:Sub a b) (k:SX as bs):SX (a::as) (b::bs):=⟨h,k⟩
theorem SX.vsims {w}:∀ {as bs} {us},SX as bs→AK w Gh.none as us→AK w Gh.none bs us
 | [],[],us,_,h=>h
 |a::as,b::bs,us,h,hv=>by
  simp only [AK] at hv ⊢
  obtain⟨u,us',rfl,h1,h2⟩:=hv
  exact⟨u,us',rfl,h.1 _ _ h1,SX.vsims h.2 h2⟩
 | [],_::_,_,h,_=>h.elim
 |_::_,[],_,h,_=>h.elim
theorem Nk {P} {f} {as bs} {r} (k:AC P f bs r) (h:SX as bs):AC P f as r:=
 ⟨k.1,fun w us h1 h2 ha h3=>k.2 w us h1 h2 ha (h.vsims h3)⟩
def prB (p:Int × Bool):List D:=[.int .i64 p.1,.bool p.2]
def prI (p:Int × Int):List D:=[.int .i64 p.1,.int .i64 p.2]
def I3 {β:Type}:List (Int × β)→Int→Option β
 | [],_=>none
 |p::l,k=>if k=p.1 then some p.2 else I3 l k
def L6 {β:Type}:List (Int × β)→Int→β→List (Int × β)
 | [],k,v=>[(k,v)]
 |p::l,k,v=>if k=p.1 then (k,v)::l else p::L6 l k v
def QF {β:Type} (l:List (Int × β)) (k:Int) (v:β):Option (List (Int × β)):=if l.length<68719476736 then some (L6 l k v) else none
theorem TV {β:Type} {l r:List (Int × β)} {k:Int} {v:β} (h:QF l k v=some r):l.length<68719476736∧L6 l k v=r:=by
 unfold QF at h
 split at h
 ·exact⟨‹_›,Option.some.inj h⟩
 ·cases h
theorem ZJ {l} {k}:Is (.int .i64 k) (List.map prB l)=(I3 l k).map D.bool:=by
 induction l with
 |nil=>rfl
 |cons p l ih=>
  simp only [List.map_cons,prB,Is,I3,Hr,beq_self_eq_true,Bool.true_and,decide_eq_true_eq]
  split
  ·rfl
  ·exact ih
theorem ZK {l} {k}:Is (.int .i64 k) (List.map prI l)=(I3 l k).map (D.int .i64):=by
 induction l with
 |nil=>rfl
 |cons p l ih=>
  simp only [List.map_cons,prI,Is,I3,Hr,beq_self_eq_true,Bool.true_and,decide_eq_true_eq]
  split
  ·rfl
  ·exact ih
theorem bJ {l} {k} {v}:mput (.int .i64 k) (.bool v) (List.map prB l)=List.map prB (L6 l k v):=by
 induction l with
 |nil=>rfl
 |cons p l ih=>
  simp only [List.map_cons,prB,mput,L6,Hr,beq_self_eq_true,Bool.true_and,decide_eq_true_eq]
  split
  ·rfl
  ·rw [List.map_cons,← ih]; rfl
theorem bK {l} {k v}:mput (.int .i64 k) (.int .i64 v) (List.map prI l)=List.map prI (L6 l k v):=by
 induction l with
 |nil=>rfl
 |cons p l ih=>
  simp only [List.map_cons,prI,mput,L6,Hr,beq_self_eq_true,Bool.true_and,decide_eq_true_eq]
  split
  ·rfl
  ·rw [List.map_cons,← ih]; rfl
attribute [go_sem] ZJ ZK
@[go_sem] theorem mh {o:Option Bool} {z:Bool}:((o.map D.bool).map ofD).getD (.bool z)= .bool (o.getD z):=by cases o <;> rfl
@[go_sem] theorem mi {o:Option Int} {z:Int}:((o.map (D.int .i64)).map ofD).getD (.int .i64 z)= .int .i64 (o.getD z):=by cases o <;> rfl
@[irreducible] def fuel:Nat:=4611686018427387904
theorem Ah:fuel=4611686018427387904:=by unfold fuel; rfl
def at? {α:Type} (l:List α) (i:Int):Option α:=if 0≤i then l[i.toNat]? else none
def app? {α:Type} (a b:List α):Option (List α):=if a.length+b.length≤68719476736 then some (a++b) else none
def rep? {α:Type} (n:Int) (z:α):Option (List α):=if 0≤n∧n≤68719476736 then some (List.replicate n.toNat z) else none
def Vi {α:Type} (l:List α) (i:Int) (x:α):List α:=l.set i.toNat x
def CF {α:Type} (l:List α) (i:Int) (x:α):Option (List α):=some (Vi l i x)
theorem Ao {α:Type} {l:List α} {i:Int} {x:α} {r:List α} (h:CF l i x=some r):l.set i.toNat x=r:=Option.some.inj h
def nz? (b:Int):Option Unit:=if b=0 then none else some ()
theorem X3 {b} {u} (h:nz? b=some u):b≠0:=by
 unfold nz? at h
 split at h
 ·cases h
 ·assumption
theorem AB {α β:Type} {x:Option α} {k:α→Option β} {r:β} (h:Option.bind x k=some r):∃v,x=some v∧k v=some r:=by
 cases x with
 |none=>cases h
 |some v=>exact⟨v,rfl,h⟩
theorem ifT {α:Type} {c:Bool} {a b r:α} (hb:c=true) (h:(if c=true then a else b)=r):a=r:=by rw [if_pos hb] at h; exact h
theorem ifF {α:Type} {c:Bool} {a b r:α} (hb:c=false) (h:(if c=true then a else b)=r):b=r:=by subst hb; exact h
theorem AD {b:Bool} {p q:Prop} {w:Wrap p} {w':Wrap q} {α:Type} {x y r:α} (h:(if b=true then x else y)=r) (hp:x=r→p) (hq:y=r→q):TP b p q w w':=⟨fun e=>hp (ifT e h),fun e=>hq (ifF e h)⟩
theorem A9 {α:Type} {l:List α} {i:Int} {x:α} (h:at? l i=some x):0≤i∧l[i.toNat]? =some x:=by
 unfold at? at h
 split at h
 ·exact⟨‹_›,h⟩
 ·cases h
theorem A5 {α:Type} {a b l:List α} (h:app? a b=some l):a.length+b.length≤68719476736∧a++b=l:=by
 unfold app? at h
 split at h
 ·exact⟨‹_›,Option.some.inj h⟩
 ·cases h
theorem Gz {α:Type} {n:Int} {z:α} {l:List α} (h:rep? n z=some l):0≤n∧n≤68719476736∧List.replicate n.toNat z=l:=by
 unfold rep? at h
 split at h
 ·exact⟨(‹_∧_› :_).1,(‹_∧_› :_).2,Option.some.inj h⟩
 ·cases h
theorem AM {α:Type} {f:α→List D} {l:List α} {n:Int} {sz:Nat} {K:List D→Prop} {w:Wrap K} {x:α} (h:at? l n=some x) (hl:(f x).length =sz) (hk:K (f x)):jN (List.map f l) n sz K w:=by
 obtain⟨h0,h1⟩:=A9 h
 exact⟨f x,⟨h0,by rw [List.getElem?_map,h1]; rfl,hl⟩,hk⟩
theorem T3 {α β:Type} {f:α→β} {l r:List α} {i j:Int} (h:cutL l i j=some r):cutL (List.map f l) i j=some (List.map f r):=by
 unfold cutL at h ⊢
 rw [List.length_map]
 split at h
 ·rename_i h0
  rw [if_pos h0]
  cases h
  simp only [List.map_take,List.map_drop]
 ·cases h
section
variable {P:Program} {σ:St} {Q:AE→St→Prop}
theorem BI {K} {w1} {w2} {σ1} {fn} {c} {l} {p} {r} {qt} {qb} (h:DA P fn p r qt qb σ1) (rt rb:List (Nat × Nat)) (hb:fn.body=some c:=by rfl) (hr:fn.results=l.toArray:=by rfl) (e:pos P c p (L4 P l r qt qb) σ1→K σ1:=by exact fun h=>h) (hw:Kq rt rb σ σ1:=by simp only [go_sem]):VS false K σ w1 w2:=aW (e (Gy hb hr h)) (.one ⟨_,.done _,rt,rb,hw⟩)
theorem lpG {b} {w1} {w2} {w3} {σ1} {fn} {c} {l} {p} {r} {qt} {qb} (h:DA P fn p r qt qb σ1) (rt rb:List (Nat × Nat)) (hb:fn.body=some c:=by rfl) (hr:fn.results=l.toArray:=by rfl) (e:pos P c p (L4 P l r qt qb) σ1→awp P (.loop b) Q σ1:=by exact fun h=>h) (hw:Kq rt rb σ σ1:=by simp only [go_sem]):lpY P b Q σ w1 w2 w3:=TR (e (Gy hb hr h)) (.one ⟨_,.done _,rt,rb,hw⟩)
theorem loG {b} {w1} {w2} {σ1} {fn} {c} {l} {p} {r} {qt} {qb} (h:DA P fn p r qt qb σ1) (rt rb:List (Nat × Nat)) (hb:fn.body=some c:=by rfl) (hr:fn.results=l.toArray:=by rfl) (e:pos P c p (L4 P l r qt qb) σ1→awp P (.loop b) Q σ1:=by exact fun h=>h) (hw:Kq rt rb σ σ1:=by simp only [go_sem]):VT P b Q σ w1 w2:=Ch (e (Gy hb hr h)) (.one ⟨_,.done _,rt,rb,hw⟩)
theorem AW {K} {w1} {w2} {σ1} {fn} {c} {l} {p} {r} (h:Al P fn p r σ1) (rt rb:List (Nat × Nat)) (hb:fn.body=some c:=by rfl) (hr:fn.results=l.toArray:=by rfl) (e:pos P c p (endX P l r) σ1→K σ1:=by exact fun h=>h) (hw:Kq rt rb σ σ1:=by simp only [go_sem]):VS false K σ w1 w2:=aW (e (DK hb hr h)) (.one ⟨_,.done _,rt,rb,hw⟩)
theorem lpF {b} {w1} {w2} {w3} {σ1} {fn} {c} {l} {p} {r} (h:Al P fn p r σ1) (rt rb:List (Nat × Nat)) (hb:fn.body=some c:=by rfl) (hr:fn.results=l.toArray:=by rfl) (e:pos P c p (endX P l r) σ1→awp P (.loop b) Q σ1:=by exact fun h=>h) (hw:Kq rt rb σ σ1:=by simp only [go_sem]):lpY P b Q σ w1 w2 w3:=TR (e (DK hb hr h)) (.one ⟨_,.done _,rt,rb,hw⟩)
theorem loF {b} {w1} {w2} {σ1} {fn} {c} {l} {p} {r} (h:Al P fn p r σ1) (rt rb:List (Nat × Nat)) (hb:fn.body=some c:=by rfl) (hr:fn.results=l.toArray:=by rfl) (e:pos P c p (endX P l r) σ1→awp P (.loop b) Q σ1:=by exact fun h=>h) (hw:Kq rt rb σ σ1:=by simp only [go_sem]):VT P b Q σ w1 w2:=Ch (e (DK hb hr h)) (.one ⟨_,.done _,rt,rb,hw⟩)
theorem AF {K} {w1} {w2} {q:Prop} (h:q) (e:q→K σ:=by first|(intro h; simp only [go_sem]; exact h)|exact fun h=>h):VS false K σ w1 w2:=F3 (e h)
theorem acF {f} {c} {l} {args} {r} {fn} (hf:P.funcs[f]? =some fn) (hm:P.follows .mixedOrders =true) (hb:fn.body=some c:=by rfl) (hr:fn.results=l.toArray:=by rfl) (hnm:(fn.name == "runtime.NumGoroutine")=false:=by rfl)
  (hn:decide (args.length≤fn.ntmps)=true:=by kernel_rfl) (hok:F2 fn.ntmps c=true:=by kernel_rfl) (h:awp P c (endX P l r) (st0 args)):AC P f args r:=jL hm hf hb hr hnm hn hok h
theorem agF {f} {c} {l} {args} {pt} {pb} {r} {qt} {qb} {fn} (hf:P.funcs[f]? =some fn) (hm:P.follows .mixedOrders =true) (hb:fn.body=some c:=by rfl) (hr:fn.results=l.toArray:=by rfl) (hnm:(fn.name == "runtime.NumGoroutine")=false:=by rfl)
  (hn:decide (args.length≤fn.ntmps)=true:=by kernel_rfl) (hok:F2 fn.ntmps c=true:=by kernel_rfl) (h:awp P c (L4 P l r qt qb) (stG args pt pb)):AG P f args pt pb r qt qb:=jm hm hf hb hr hnm hn hok h
theorem caG {K} {pos} {dst} {L} {wL} {f} {args} {o} {w} {as} {pt} {pb} {r} {qt} {qb} (y:Way) (h:AG P f as pt pb r qt qb)
  (hc:Cs y.cv σ fun σ1=>Ac (Vg y args as pt pb σ1) (Bu y.cv (σ1.after y qt qb) fun σ2=>K (σ2.put dst (bak y r)))) (hL:L=true:=by kernel_rfl) (hB:Vf y as pt pb qt qb=true:=by kernel_rfl):QD P L pos f args o dst σ K w wL:=gA y hL h hB hc
end
theorem Z {P Q:Prop} (h:Q) (e:Q→P:=by first|(intro h; simp only [go_sem]; exact h)|exact fun h=>h):P:=e h
theorem jr {α:Type} {f:α→List D} {xs ys:List α} {i j:Int} {sz:Nat} (h:cutL xs i j=some ys) (hf:∀x,(f x).length =sz):parR sz i.toNat (j - i).toNat (List.map f xs)=some (List.map f ys):=by
 unfold cutL at h
 unfold parR
 split at h
 ·rename_i h0
  cases h
  rw [if_pos ⟨fun row hr=>by obtain⟨x,-,rfl⟩:=List.mem_map.1 hr; exact hf x,by rw [List.length_map]; omega⟩]
  simp only [List.map_take,List.map_drop]
 ·cases h
theorem T4 {σ:St} {t g:Nat} {q:Pth} {tk:Tok} {r:List (List D)} (hT:σ.T t=some tk) (hg:tk.gen=g) (h:getP q tk.rows=some r):subR σ.T t g q=some r:=by
 unfold subR
 rw [hT]
 simp [hg,h]
attribute [go_sem] List.length_replicate
theorem AP {α:Type} {f:α→List D} {l:List α} {n:Int} {x:α} (h:at? l n=some x):(List.map f l)[n.toNat]? =some (f x):=by
 rw [List.getElem?_map,(A9 h).2]; rfl
def AO (n:Int):List D:=[.int .i64 n]
def u8D (n:Int):List D:=[.int .u8 n]
def js (b:Bool):List D:=[.bool b]
def mj (s:ByteArray):List D:=[.str s]
def slD {α:Type} (f:α→List D) (l:List α):List D:=[.sl (List.map f l)]
attribute [go_sem] AO u8D js mj slD List.map_cons List.map_nil List.length_map List.nodup_cons List.mem_cons List.not_mem_nil not_or or_false or_true true_or false_or not_false_eq_true
end Go.Proofs.YtckcfdggbbabfaaGreat.Ab
namespace Go.Proofs.YtckcfdggbbabfaaGreat.Ab
set_option linter.unusedVariables false
theorem G0 {α:Type} {f:α→List D} {sz:Nat} (h:∀x,(f x).length =sz∧∀d ∈ f x,d.flat=true) (l:List α):∀row ∈ List.map f l,row.length=sz∧∀d ∈ row,d.flat=true:=by
 intro row hr
 obtain⟨x,-,rfl⟩:=List.mem_map.1 hr
 exact h x
theorem L7 {α:Type} {f:α→List D} {sz:Nat} (h:∀x,(f x).length =sz) (l:List α):∀row ∈ List.map f l,row.length=sz:=by
 intro row hr
 obtain⟨x,-,rfl⟩:=List.mem_map.1 hr
 exact h x
theorem Ms {α:Type} {f g} (h:∀x,erC (f x)=g x):∀l:List α,erR (List.map f l)=List.map g l
 | [] =>by simp only [List.map_nil,erR]
 |x::xs=>by rw [List.map_cons,List.map_cons,erR,h x,Ms h xs]
attribute [go_sem] rpS rpB It F8 only Ur
end Go.Proofs.YtckcfdggbbabfaaGreat.Ab
