/- The abstract walk as rules, third part. -/
import Derived.Test.YthenkmapmnkelaaGreatDoorAbU
import Derived.IntWalk
namespace Go.Proofs.YthenkmapmnkelaaGreatDoor.Ab
set_option linter.unusedVariables false
set_option maxHeartbeats 1000000
open Go.RowKit
section
variable {P:Program} {σ:St} {K:St→Prop} {Q:AE→St→Prop}
def v6 (t:TI):Prop:=match t with| .str =>True|_=>False
@[go_sem] theorem qi:v6 .str =True:=rfl
@[go_sem] theorem nK {t} {rows} {K}:U0 P t (.ro rows) σ K=slX (ti P t) fun _=>K (.int .i64 rows.length):=by
 simp only [U0,SB,slX]
 generalize ti P t=q
 cases q <;> simp
@[go_sem] theorem kN {t} {t'} {K}:U0 P t (.own t') σ K=slX (ti P t) fun _=>optX (σ.T t') fun tk=>K (.int .i64 tk.rows.length):=by
 simp only [U0,SB,slX,optX]
 grind
@[go_sem] theorem kO {t} {t' g} {p} {K}:U0 P t (.sub t' g p) σ K=slX (ti P t) fun _=>optX (subR σ.T t' g p) fun j=>K (.int .i64 j.length):=by
 simp only [U0,SB,slX,optX]
 grind
def aS (t:TI) (K:TypeId→TypeId→Prop):Prop:=match t with| .map k e=>K k e|_=>False
@[go_sem] theorem qj {k e} {K}:aS (.map k e) K=K k e:=rfl
def Yj (o:Option (List AV)) (K:KT→List (List D)→Prop):Prop:=∃q rows,o=some [.mpc q rows] ∧K q rows
@[go_sem] theorem pA {q} {rows} {K}:Yj (some [.mpc q rows]) K=K q rows:=by
 grind [Yj]
@[go_sem] theorem kP {t} {b} {K}:U0 P t (.mpr b) σ K=aS (ti P t) fun _ _=>Yj (σ.B b) fun _ j=>K (.int .i64 j.length):=by
 simp only [U0,SB,aS,Yj]
 grind
def Mh {α:Type} (v:α) (K:α→Prop):Prop:=∃y,v=y∧K y
theorem G6 {α:Type} {v:α} {K:α→Prop}:Mh v K=K v:=by simp [Mh]
def bxX (pos:Nat) (cs:Option (List AV)) (dst:Option Tmp) (v:AV) (σ:St) (K:St→Prop):Prop:=optX cs fun vs=>AN (look σ.b pos=none) (K ((σ.put dst v).setB pos vs))
def bxZ (pos:Nat) (cs:Option (List AV)) (dst:Option Tmp) (v:AV) (σ:St) (K:St→Prop):Prop:=bxX pos cs dst v σ K
theorem nL {pos} {cs} {dst} {v}:bxX pos cs dst v σ K=Ax cs fun o=>bxZ pos o dst v σ K:=rfl
@[go_sem ↓] theorem qk {pos} {vs} {dst} {v}:bxZ pos (some vs) dst v σ K=AN (look σ.b pos=none) (K ((σ.put dst v).setB pos vs)):=by simp [bxZ,bxX,optX]
theorem Jy {dst} {v} {pos} {vs}:σ.add dst ⟨v,[],[(pos,vs)]⟩=(σ.put dst v).setB pos vs:=by cases dst <;> rfl
@[go_sem] theorem v7 {vs}:cellsOf (.agg vs)=if PD vs=true then some vs else none:=rfl
@[go_sem] theorem v8:cellsOf .any =none:=rfl
@[go_sem] theorem wA {vs}:cellsOf (.tup vs)=none:=rfl
@[go_sem] theorem wB {q} {r}:cellsOf (.mpc q r)=none:=rfl
@[go_sem] theorem wC {k} {n}:cellsOf (.int k n)=some [.int k n] :=rfl
@[go_sem] theorem tu {b}:cellsOf (.bool b)=some [.bool b] :=rfl
@[go_sem] theorem wD {s}:cellsOf (.str s)=some [.str s] :=rfl
@[go_sem] theorem x7 {r}:cellsOf (.ro r)=some [.ro r] :=rfl
@[go_sem] theorem wE {t}:cellsOf (.own t)=some [.own t] :=rfl
@[go_sem] theorem wF {b o}:cellsOf (.box b o)=some [.box b o] :=rfl
@[go_sem] theorem wG {vs} {o}:cellsOf (.rop vs o)=some [.rop vs o] :=rfl
@[go_sem] theorem wH {b n z}:cellsOf (.bsl b n z)=some [.bsl b n z] :=rfl
@[go_sem] theorem wI {t z i o}:cellsOf (.elt t z i o)=some [.elt t z i o] :=rfl
@[go_sem] theorem wJ {t g} {p}:cellsOf (.sub t g p)=some [.sub t g p] :=rfl
@[go_sem] theorem wK {t g} {p} {z i o}:cellsOf (.els t g p z i o)=some [.els t g p z i o] :=rfl
@[go_sem] theorem wM {t z i n}:cellsOf (.par t z i n)=some [.par t z i n] :=rfl
@[go_sem] theorem x8 {f} {c}:cellsOf (.fn f c)=some [.fn f c] :=rfl
@[go_sem] theorem tw:cellsOf .nilp =some [.nilp] :=rfl
@[go_sem] theorem tx:cellsOf .nils =some [.nils] :=rfl
@[go_sem] theorem wN {b}:cellsOf (.mpr b)=some [.mpr b] :=rfl
theorem ql {pos} {dst} {t} {x}:opX P pos dst (.box t x) σ K=bxX pos (cellsOf (σ.e x)) dst (.box pos 0) σ K:=by
 rw [Qy (fun _=>by rfl)]
 simp only [Ev,bxX]
 split
 ·rename_i vs h
  rw [h,Hr]
  refine propext ⟨?_,?_⟩
  ·rintro ⟨r,rfl,-,h1,h2⟩
   exact⟨h1.1,by rw [← Jy]; exact h2⟩
  ·rintro ⟨h1,h2⟩
   exact⟨_,rfl,trivial,⟨h1,trivial⟩,by rw [Jy]; exact h2⟩
 grind [V8]
theorem kQ {pos} {dst} {t}:opX P pos dst (.alloc t) σ K=AN (0<(tz P t).length) (bxX pos (some ((tz P t).map zAV)) dst (.box pos 0) σ K):=by
 rw [Qy (fun _=>by rfl)]
 simp only [Ev,bxX,Hr,AN]
 refine propext ⟨?_,?_⟩
 ·rintro ⟨r,⟨vs,rfl,j,rfl⟩,-,h1,h2⟩
  exact⟨j,h1.1,by rw [← Jy]; exact h2⟩
 ·rintro ⟨j,h1,h2⟩
  exact⟨_,⟨_,rfl,j,rfl⟩,trivial,⟨h1,trivial⟩,by rw [Jy]; exact h2⟩
attribute [go_sem] zAV
def pvs (σ:St):List (Nat × Operand)→List (Nat × AV)
 | [] =>[]
 |x::xs=>(x.1,σ.e x.2)::pvs σ xs
theorem cK {xs}:pvs σ xs=xs.map fun x=>(x.1,σ.e x.2):=by induction xs with|nil=>rfl|cons x xs ih=>simp [pvs,ih]
attribute [go_sem] pvs Du
def bsX (P:Program) (pos:Nat) (e:TypeId) (n:Nat) (parts:List (Nat × AV)) (dst:Option Tmp) (σ:St) (K:St→Prop):Prop:=
 AN (parts.length=n∧n*tsz P e≤16777216∧0<tsz P e∧(tz P e).length =tsz P e) (bxX pos (Du (tsz P e) 0 parts) dst (.bsl pos n (tsz P e)) σ K)
@[go_sem ↓] theorem kR {pos} {dst} {t} {n} {parts}:opX P pos dst (.buildSlice t n parts.toArray) σ K=slX (ti P t) fun e=>Ax (pvs σ parts) fun F=>bsX P pos e n F dst σ K:=by
 rw [Qy (fun _=>by rfl)]
 simp only [Ev,slX,Ax,cK]
 generalize ti P t=q
 split
 ·simp only [fY,bsX,bxX,AN]
  refine propext ⟨?_,?_⟩
  ·rintro ⟨r,⟨h1,h2,h3,v,C⟩,-,p,j⟩
   split at C
   ·rename_i vs u
    subst C
    rw [u,Hr]
    exact⟨⟨h1,h2,h3,v⟩,p.1,by rw [← Jy]; exact j⟩
   grind
  ·rintro ⟨⟨h1,h2,h3,v⟩,vs,u,p,j⟩
   exact⟨⟨_,[],[(pos,vs)]⟩,⟨h1,h2,h3,v,by rw [u]⟩,trivial,⟨p,trivial⟩,by rw [Jy]; exact j⟩
 ·simp
attribute [go_sem] bsX
attribute [go_sem] MN
def Yk (P:Program) (t:TI) (K:List (Nat × TypeId)→Prop):Prop:=match t with| .st fs=>K fs| .arr n el=>AN (0<tsz P el) (K (MN (tsz P el) el n 0))|_=>False
@[go_sem] theorem kS {fs} {K}:Yk P (.st fs) K=K fs:=rfl
def bpX (P:Program) (fs:List (Nat × TypeId)) (vs:List AV) (ps:List (Nat × AV)) (K:AV→Prop):Prop:=∃ws,LK P fs vs ps=some ws∧K (.agg ws)
@[go_sem] theorem kU {fs} {vs} {K}:bpX P fs vs [] K=K (.agg vs):=by simp [bpX,LK]
@[go_sem] theorem gr {fs} {vs} {f} {v} {ps} {K}:bpX P fs vs ((f,v)::ps) K=optX fs[f]? fun q=>optX (cellsOf v) fun cs=>AN (cs.length=tsz P q.2 ∧q.1 +cs.length≤vs.length) (Ax (splice vs q.1 cs) fun vs=>bpX P fs vs ps K):=by
 unfold bpX optX AN Ax
 rw [LK]
 grind
theorem kV {pos} {dst} {t} {parts}:opX P pos dst (.build t parts.toArray) σ K=Yk P (ti P t) fun fs=>AN ((fs.all fun q=>decide (0<tsz P q.2))=true∧0<(tz P t).length) (bpX P fs ((tz P t).map zAV) (pvs σ parts) fun v=>K (σ.put dst v)):=by
 rw [IC (p:=fun v=>Yk P (ti P t) fun fs=>AN ((fs.all fun q=>decide (0<tsz P q.2))=true∧0<(tz P t).length) (bpX P fs ((tz P t).map zAV) (pvs σ parts) fun u=>v=u)) (fun _=>by rfl) (fun r=>by
  simp only [Ev,Yk,AN,bpX,cK]
  grind)]
 unfold Yk AN bpX
 grind
attribute [go_sem] zD zDs
@[go_sem] theorem qm {n}:leX n n=True:=eq_true (Int.le_refl n)
def zX (K:ZK→Prop):Prop:=∃z,K z
def zY (K:ZK→Prop) (_:Wrap K):Prop:=∃z,K z
@[go_sem ↓] theorem x9 {K}:zX K=zY K ⟨⟩:=rfl
theorem BO {K} {w} (z:ZK) (h:K z):zY K w:=⟨z,h⟩
def mkX (P:Program) (pos:Nat) (e:TypeId) (n m:AV) (dst:Option Tmp) (σ:St) (K:St→Prop):Prop:=match n,m with
 | .int .i64 n,.int .i64 m=>AN (leX n m) (AN (0≤n∧m.toNat*P.bytesOf e≤281474976710656∧m≤4611686018427387904) (AN (0<tsz P e∧(tz P e).length =tsz P e) (zX fun q=>optX (zDs q (tz P e)) fun z=>AN (look σ.t (pos*16)=none) (Mh (List.replicate n.toNat z) fun rows=>K ((σ.put dst (.own (pos*16))).setT (pos*16) ⟨rows,some (tsz P e),0,q⟩)))))
 |_,_=>False
@[go_sem] theorem kW {pos} {e} {n m} {dst}:mkX P pos e (.int .i64 n) (.int .i64 m) dst σ K=AN (leX n m) (AN (0≤n∧m.toNat*P.bytesOf e≤281474976710656∧m≤4611686018427387904) (AN (0<tsz P e∧(tz P e).length =tsz P e) (zX fun q=>optX (zDs q (tz P e)) fun z=>AN (look σ.t (pos*16)=none) (Mh (List.replicate n.toNat z) fun j=>K ((σ.put dst (.own (pos*16))).setT (pos*16) ⟨j,some (tsz P e),0,q⟩))))):=rfl
theorem cL {dst} {v} {n} {tk}:σ.add dst ⟨v,[(n,tk)],[]⟩=(σ.put dst v).setT n tk:=by cases dst <;> rfl
theorem Yl {pos:Nat} {dst:Option Tmp} {t:TypeId} {l c:Operand}:opX P pos dst (.makeSlice t l c) σ K=slX (ti P t) fun e=>mkX P pos e (σ.e l) (σ.e c) dst σ K:=by
 rw [Qy (fun _=>by rfl)]
 simp only [Ev,slX,mkX]
 generalize ti P t=q
 cases q with
 | sl e=>
  generalize σ.e l=u
  generalize σ.e c=v
  split
  ·rename_i p n m h1
   cases h1
   simp only [lr,AN,optX,zX,G6]
   refine propext ⟨?_,?_⟩
   ·rintro ⟨r,⟨k1,k2,k3,k4,k5,k6,q,z,k7,rfl⟩,k8,-,j⟩
    exact⟨k1,⟨k2,k3,k4⟩,⟨k5,k6⟩,q,z,k7,k8.1,by rw [← cL]; exact j⟩
   ·rintro ⟨k1,⟨k2,k3,k4⟩,⟨k5,k6⟩,q,z,k7,k8,j⟩
    exact⟨⟨_,[(pos*16,⟨_,some (tsz P e),0,q⟩)],[]⟩,⟨k1,k2,k3,k4,k5,k6,q,z,k7,rfl⟩,⟨k8,trivial⟩,trivial,by rw [cL]; exact j⟩
  grind
 |_=>simp
def WB (P:Program) (L:Bool) (pos:Nat) (f:FuncId) (args:List AV) (as:Option (List AV)) (dst:Option Tmp) (σ:St) (K:St→Prop) (_:Wrap L):Prop:=
 ((∃bs rv,as=some bs∧AC P f bs rv∧Cq σ (conv (pos*16) rv).2 ∧K (σ.add dst ⟨(conv (pos*16) rv).1,(conv (pos*16) rv).2,[]⟩))∨
  ∃bs rv qt qb,AG P f bs [] [] rv qt qb∧cls (fun _=>none) (fun _=>none) args=some bs∧((qt=[] ∧VS rv=true∧K (σ.add dst ⟨rv,[],[]⟩))∨(∃q tk,qt=[(q,tk)] ∧rv= .own q∧tk.gen=0∧look σ.t (pos*16)=none∧K (σ.add dst ⟨.own (pos*16),[(pos*16,tk)],[]⟩))∨(∃q k,rv= .box q k)∧K (σ.add dst ⟨.rop [] 0,[],[]⟩)))∨
 (L=true∧bT P f args σ fun v σ'=>K (σ'.put dst v))
@[go_sem] theorem qo:N1 [] =true:=rfl
@[go_sem] theorem qp {fs cs}:N1 (.agg fs::cs)=true:=rfl
@[go_sem] theorem t6 {as}:fnA [] as=as:=List.append_nil as
@[go_sem] theorem t7 {fs cs as}:fnA (.agg fs::cs) as=fs++(as++cs):=rfl
def clX (P:Program) (L:Bool) (pos:Nat) (g:AV) (args:List AV) (dst:Option Tmp) (σ:St) (K:St→Prop) (w:Wrap L):Prop:=match g with
 | .fn f caps=>N1 caps=true∧WB P L pos f (fnA caps args) (cls σ.T σ.B (fnA caps args)) dst σ K w
 |_=>False
@[go_sem] theorem nM {L} {wL} {pos} {f} {caps args} {dst}:clX P L pos (.fn f caps) args dst σ K wL=AN (N1 caps=true) (Ax (fnA caps args) fun vs=>Ax (cls σ.T σ.B vs) fun r=>WB P L pos f vs r dst σ K wL):=rfl
theorem nO {L} {wL} {pos} {dst} {g} {args} {ts}:opL P L pos dst (.call ⟨.value g,args.toArray,ts⟩) σ K wL=clX P L pos (σ.e g) (evs σ args) dst σ K wL:=by
 have h1:opX P pos dst (.call ⟨.value g,args.toArray,ts⟩) σ K=match σ.e g with
   | .fn f caps=>N1 caps=true∧((∃bs j,cls σ.T σ.B (fnA caps (evs σ args))=some bs∧AC P f bs j∧Cq σ (conv (pos*16) j).2 ∧K (σ.add dst ⟨(conv (pos*16) j).1,(conv (pos*16) j).2,[]⟩))∨
     ∃bs j u F,AG P f bs [] [] j u F∧cls (fun _=>none) (fun _=>none) (fnA caps (evs σ args))=some bs∧((u=[] ∧VS j=true∧K (σ.add dst ⟨j,[],[]⟩))∨(∃q tk,u=[(q,tk)] ∧j= .own q∧tk.gen=0∧look σ.t (pos*16)=none∧K (σ.add dst ⟨.own (pos*16),[(pos*16,tk)],[]⟩))∨(∃q k,j= .box q k)∧K (σ.add dst ⟨.rop [] 0,[],[]⟩)))
   |_=>False:=by
  rw [Qy (fun _=>by rfl)]
  simp only [Ev,S9,Wy]
  generalize σ.e g=v
  split
  ·refine propext ⟨?_,?_⟩
   ·rintro ⟨r,⟨ho,h1⟩,h2,-,C⟩
    refine⟨ho,?_⟩
    rcases h1 with h1|h1
    ·grind
    ·obtain⟨as,j,u,F,G,I,p⟩:=h1
     rcases p with ⟨p,h8,rfl⟩|⟨q,tk,p,h8,h9,rfl⟩|⟨p,rfl⟩
     ·grind
     ·exact .inr ⟨as,j,u,F,G,I,.inr (.inl ⟨q,tk,p,h8,h9,h2.1,C⟩)⟩
     grind
   ·rintro ⟨ho,h⟩
    rcases h with (⟨bs,j,h1,G,h2,C⟩|⟨bs,j,u,F,G,I,⟨p,h8,C⟩|⟨q,tk,p,h8,h9,h2,C⟩|⟨p,C⟩⟩)
    ·exact⟨⟨(conv (pos*16) j).1,(conv (pos*16) j).2,[]⟩,⟨ho,.inl (by rw [h1]; grind)⟩,h2,trivial,C⟩
    ·exact⟨⟨j,[],[]⟩,⟨ho,.inr ⟨bs,j,u,F,G,I,.inl ⟨p,h8,rfl⟩⟩⟩,trivial,trivial,C⟩
    ·exact⟨⟨.own (pos*16),[(pos*16,tk)],[]⟩,⟨ho,.inr ⟨bs,j,u,F,G,I,.inr (.inl ⟨q,tk,p,h8,h9,rfl⟩)⟩⟩,⟨h2,trivial⟩,trivial,C⟩
    ·exact⟨⟨.rop [] 0,[],[]⟩,⟨ho,.inr ⟨bs,j,u,F,G,I,.inr (.inr ⟨p,rfl⟩)⟩⟩,trivial,trivial,C⟩
  ·simp
 have h2:opL P L pos dst (.call ⟨.value g,args.toArray,ts⟩) σ K wL=(opX P pos dst (.call ⟨.value g,args.toArray,ts⟩) σ K∨(L=true∧MP P ⟨dst,.call ⟨.value g,args.toArray,ts⟩,0, "",#[],none⟩ σ K)):=by
  have h3:TF σ ⟨dst,.call ⟨.value g,args.toArray,ts⟩,0, "",#[],none⟩=false:=rfl
  grind [PM,SliK,opL,TG,opX]
 rw [h2,h1]
 grind [clX,WB,MP,Wy]
@[go_sem] theorem wO {T:Nat→Option Tok} {B:Nat→Option (List AV)} {t}:toA T B (.own t)=(T t).map fun tk=>.ro tk.rd:=rfl
@[go_sem] theorem t8 {T:Nat→Option Tok} {B:Nat→Option (List AV)}:toA T B .nils =some (.ro []):=rfl
@[go_sem] theorem wP {T:Nat→Option Tok} {B:Nat→Option (List AV)} {k} {n}:toA T B (.int k n)=some (.int k n):=rfl
@[go_sem] theorem uA {T:Nat→Option Tok} {B:Nat→Option (List AV)} {b}:toA T B (.bool b)=some (.bool b):=rfl
@[go_sem] theorem wQ {T:Nat→Option Tok} {B:Nat→Option (List AV)} {s}:toA T B (.str s)=some (.str s):=rfl
@[go_sem] theorem yA {T:Nat→Option Tok} {B:Nat→Option (List AV)} {r}:toA T B (.ro r)=some (.ro r):=rfl
@[go_sem] theorem uB {T:Nat→Option Tok} {B:Nat→Option (List AV)}:toA T B .nilp =some .nilp :=rfl
@[go_sem] theorem wR {T:Nat→Option Tok} {B:Nat→Option (List AV)} {vs} {o}:toA T B (.rop vs o)=if Cp vs=true then some (.rop vs o) else none:=rfl
@[go_sem] theorem yB {T:Nat→Option Tok} {B:Nat→Option (List AV)} {f} {vs}:toA T B (.fn f vs)=if Cp vs=true then some (.fn f vs) else none:=rfl
@[go_sem] theorem wS {T:Nat→Option Tok} {B:Nat→Option (List AV)} {b}:toA T B (.mpr b)=some .any :=rfl
@[go_sem] theorem wT {T:Nat→Option Tok} {B:Nat→Option (List AV)} {t g} {p}:toA T B (.sub t g p)=(subE T t g p).map .ro :=rfl
@[go_sem] theorem wU {T:Nat→Option Tok} {B:Nat→Option (List AV)} {b n sz}:toA T B (.bsl b n sz)=match B b with
  |some vs=>match toDs T vs with
   |some ds=>if ds.length=n*sz then some (.ro (BD sz n ds)) else none
   |none=>none
  |none=>none:=rfl
@[go_sem] theorem wV {T:Nat→Option Tok} {B:Nat→Option (List AV)}:toA T B .any =none:=rfl
@[go_sem] theorem wW {T:Nat→Option Tok} {B:Nat→Option (List AV)} {b o}:toA T B (.box b o)=none:=rfl
@[go_sem] theorem wX {T:Nat→Option Tok} {B:Nat→Option (List AV)} {t z i o}:toA T B (.elt t z i o)=none:=rfl
@[go_sem] theorem wY {T:Nat→Option Tok} {B:Nat→Option (List AV)} {t g} {p} {z i o}:toA T B (.els t g p z i o)=none:=rfl
@[go_sem] theorem wZ {T:Nat→Option Tok} {B:Nat→Option (List AV)} {t z i n}:toA T B (.par t z i n)=none:=rfl
@[go_sem] theorem wa {T:Nat→Option Tok} {B:Nat→Option (List AV)} {vs}:toA T B (.agg vs)=none:=rfl
@[go_sem] theorem wb {T:Nat→Option Tok} {B:Nat→Option (List AV)} {vs}:toA T B (.tup vs)=none:=rfl
@[go_sem] theorem wc {T:Nat→Option Tok} {B:Nat→Option (List AV)} {q} {r}:toA T B (.mpc q r)=none:=rfl
@[go_sem] theorem wd {T:Nat→Option Tok} {k} {n}:toD T (.int k n)=some (.int k n):=rfl
@[go_sem] theorem uC {T:Nat→Option Tok} {b}:toD T (.bool b)=some (.bool b):=rfl
@[go_sem] theorem wg {T:Nat→Option Tok} {s}:toD T (.str s)=some (.str s):=rfl
@[go_sem] theorem yC {T:Nat→Option Tok} {r}:toD T (.ro r)=some (.sl r):=rfl
@[go_sem] theorem uD {T:Nat→Option Tok}:toD T .nils =some (.sl []):=rfl
@[go_sem] theorem wh {T:Nat→Option Tok} {t}:toD T (.own t)=(T t).map fun tk=>.sl tk.rd:=rfl
@[go_sem] theorem uE {T:Nat→Option Tok}:toD T .nilp =some .nilp :=rfl
@[go_sem] theorem wi {T:Nat→Option Tok} {vs} {o}:toD T (.rop vs o)=unD (.rop vs o):=rfl
@[go_sem] theorem wj {T:Nat→Option Tok}:toD T .any =none:=rfl
@[go_sem] theorem wl {T:Nat→Option Tok} {b o}:toD T (.box b o)=none:=rfl
@[go_sem] theorem wm {T:Nat→Option Tok} {b n z}:toD T (.bsl b n z)=none:=rfl
@[go_sem] theorem wn {T:Nat→Option Tok} {t z i o}:toD T (.elt t z i o)=none:=rfl
@[go_sem] theorem wo {T:Nat→Option Tok} {t g} {p}:toD T (.sub t g p)=none:=rfl
@[go_sem] theorem wq {T:Nat→Option Tok} {t g} {p} {z i o}:toD T (.els t g p z i o)=none:=rfl
@[go_sem] theorem wt {T:Nat→Option Tok} {t z i n}:toD T (.par t z i n)=none:=rfl
@[go_sem] theorem yD {T:Nat→Option Tok} {f} {vs}:toD T (.fn f vs)=none:=rfl
@[go_sem] theorem wu {T:Nat→Option Tok} {vs}:toD T (.agg vs)=none:=rfl
@[go_sem] theorem wv {T:Nat→Option Tok} {vs}:toD T (.tup vs)=none:=rfl
@[go_sem] theorem ww {T:Nat→Option Tok} {b}:toD T (.mpr b)=none:=rfl
@[go_sem] theorem wx {T:Nat→Option Tok} {q} {r}:toD T (.mpc q r)=none:=rfl
attribute [go_sem] cl cls toDs toAs CC Cp Option.map_some Option.map_none
theorem cM {pos} {f} {args bs} {dst} {rv} (h:AC P f bs rv) (hf:Cq σ (conv (pos*16) rv).2) (hk:K (σ.add dst ⟨(conv (pos*16) rv).1,(conv (pos*16) rv).2,[]⟩)) {L} {wL}:WB P L pos f args (some bs) dst σ K wL:=
 .inl (.inl ⟨bs,rv,rfl,h,hf,hk⟩)
@[go_sem] theorem nP:Cq σ [] =True:=rfl
@[go_sem] theorem mB {n} {tk} {l}:Cq σ ((n,tk)::l)=(look σ.t n=none∧Cq σ l):=rfl
attribute [go_sem] conv G4 addT addB
@[go_sem] theorem qq {s t b} {d} {r}:St.add ⟨s,t,b⟩ (some d) r=⟨(d,r.v)::s,addT t r.t,addB b r.b⟩:=rfl
@[go_sem] theorem qr {s t b} {r}:St.add ⟨s,t,b⟩ none r=⟨s,addT t r.t,addB b r.b⟩:=rfl
section
variable {z:ZK}
@[go_sem] theorem kX {K}:BR z [] σ K=K [] σ:=by rw [BR]
@[go_sem] theorem kY {k} {n} {vs} {K}:BR z (.int k n::vs) σ K=BR z vs σ fun j σ'=>K (.int k n::j) σ':=by rw [BR]
@[go_sem] theorem kZ {s} {vs} {K}:BR z (.str s::vs) σ K=BR z vs σ fun j σ'=>K (.str s::j) σ':=by rw [BR]
@[go_sem] theorem gu {vs} {K}:BR z (.nils ::vs) σ K=BR z vs σ fun j σ'=>K (Ft z::j) σ':=by rw [BR]
@[go_sem] theorem wy:Ft .no = .sl [] :=rfl
@[go_sem] theorem wz:Ft .yes = .fz [] :=rfl
@[go_sem] theorem w7:Ft .nl = .nl :=rfl
@[go_sem] theorem nQ {rows} {vs} {K}:BR z (.ro rows::vs) σ K=AN (z= .yes) (BR z vs σ fun j σ'=>K (.fz rows::j) σ'):=by rw [BR]; rfl
@[go_sem] theorem kc {b n sz} {vs} {K}:BR z (.bsl b n sz::vs) σ K=if n=0 then BR z vs σ fun p σ'=>K (Ft z::p) σ' else dB z b n sz σ fun j σ1=>BR z vs σ1 fun p σ'=>K (.sl j::p) σ':=by rw [BR]
@[go_sem ↓] theorem uF {b n sz} {K}:dB z b n sz σ K=AN (1000≤b) (AN (0<sz) (optX (σ.B b) fun vs=>optX (KU z vs) fun p=>AN (p.length=n*sz) (Ax (BD sz n p) fun j=>K j (σ.killB b)))):=rfl
@[go_sem] theorem qu {s t b} {x}:St.killB ⟨s,t,b⟩ x=⟨s,t,(x,none)::b⟩:=rfl
attribute [go_sem] LM litD KU unD unDs
@[go_sem] theorem ke {t} {vs} {K}:BR z (.own t::vs) σ K=optX (σ.T t) fun tk=>AN (okZ z tk=true) (BR z vs (σ.killT t) fun j σ'=>K (.sl tk.rows::j) σ'):=by rw [BR]; rfl
end
def stX (P:Program) (t:TypeId) (a:AV) (cs:Option (List AV)) (σ:St) (K:St→Prop):Prop:=
 optX cs fun cs=>AN (cs.length=tsz P t∧0<tsz P t∧cs.all AV.one=true) (match a with
  | .box b off=>∃vs,σ.B b=some vs∧isMp vs=false∧off+cs.length≤vs.length∧K (σ.setB b (splice vs off cs))
  | .elt t' sz i off=>∃tk0,σ.T t'=some tk0∧BR tk0.z cs σ fun ds σ'=>∃tk row,(σ'.T t'=some tk∧tk.z=tk0.z)∧tk.rows[i]? =some row∧row.length=sz∧off+ds.length≤sz∧K (σ'.setT t' ⟨tk.rows.set i (splice row off ds),tk.sz,if EH row off ds=true then tk.gen else tk.gen+1,tk.z⟩)
  | .els t' g p sz i off=>BR .no cs σ fun ds σ'=>∃rows,subR σ'.T t' g p=some rows∧∃row,rows[i]? =some row∧(p≠ [] ∧row.length=sz∧off+ds.length≤sz∧EH row off ds=true)∧∃tk,σ'.T t'=some tk∧K (σ'.setT t' ⟨putR p tk.rows (.sl (rows.set i (splice row off ds))),tk.sz,tk.gen,tk.z⟩)
  |_=>False)
theorem kf {pos} {dst} {t} {a x}:opX P pos dst (.store t a x) σ K=stX P t (σ.e a) (cellsOf (σ.e x)) σ fun σ'=>K (σ'.put dst .any):=by
 grind [opX,aop,OE,stX,Hr,AN,V8]
@[go_sem] theorem cN {t} {b off} {cs}:stX P t (.box b off) (some cs) σ K=AN (cs.length=tsz P t∧0<tsz P t∧cs.all AV.one=true) (optX (σ.B b) fun vs=>AN (isMp vs=false) (AN (off+cs.length≤vs.length) (Ax (splice vs off cs) fun j=>K (σ.setB b j)))):=by
 rw [stX,Hr]; rfl
@[go_sem] theorem kh {t:TypeId} {t' g sz i off:Nat} {p:Pth} {cs:List AV}:stX P t (.els t' g p sz i off) (some cs) σ K=AN (cs.length=tsz P t∧0<tsz P t∧cs.all AV.one=true) (BR .no cs σ fun u σ'=>optX (subR σ'.T t' g p) fun rows=>optX rows[i]? fun q=>AN (p≠ [] ∧q.length=sz∧off+u.length≤sz∧EH q off u=true) (optX (σ'.T t') fun tk=>Mh (putR p tk.rows (.sl (rows.set i (splice q off u)))) fun j=>K (σ'.setT t' ⟨j,tk.sz,tk.gen,tk.z⟩))):=by
 rw [stX,Hr]
 grind [AN,optX,G6]
@[go_sem] theorem kj {t:TypeId} {t' sz i off:Nat} {cs:List AV}:stX P t (.elt t' sz i off) (some cs) σ K=AN (cs.length=tsz P t∧0<tsz P t∧cs.all AV.one=true) (optX (σ.T t') fun p=>BR p.z cs σ fun q σ'=>optX (σ'.T t') fun tk=>AN (tk.z=p.z) (optX tk.rows[i]? fun j=>AN (j.length=sz∧off+q.length≤sz) (Mh (tk.rows.set i (splice j off q)) fun rows=>K (σ'.setT t' ⟨rows,tk.sz,if EH j off q=true then tk.gen else tk.gen+1,tk.z⟩)))):=by
 rw [stX,Hr]
 grind [AN,optX,G6]
section
variable {z:ZK}
@[go_sem] theorem eL {e} {sz} {K}:TA z e sz .nils σ K=K [] σ:=rfl
@[go_sem] theorem gv {e} {sz b n sz'} {K}:TA z e sz (.bsl b n sz') σ K=if n=0 then K [] σ else AN (sz'=sz) (dB z b n sz σ K):=rfl
@[go_sem] theorem gw {e} {sz t} {K}:TA z e sz (.own t) σ K=optX (σ.T t) fun tk=>AN (tk.sz=some sz∧okZ z tk=true) (K tk.rows (σ.killT t)):=rfl
@[go_sem] theorem eM {sz} {K}:OF z sz .nils σ K=K [] σ:=rfl
@[go_sem] theorem gy {sz b n sz'} {K}:OF z sz (.bsl b n sz') σ K=optX (σ.B b) fun vs=>AN (sz'=sz∧vs.length=n*sz∧vs.all AV.one=true) (BR z vs σ fun p σ'=>Ax (BD sz n p) fun j=>K j σ'):=by
 simp only [OF,optX,AN,Ax]
 grind
@[go_sem] theorem kl {sz} {rows} {K}:OF .no sz (.ro rows) σ K=AN (∀row ∈ rows,row.length=sz∧∀d ∈ row,d.flat=true) (K rows σ):=rfl
@[go_sem] theorem qv {sz} {rows} {K}:OF .nl sz (.ro rows) σ K=AN (∀row ∈ rows,row.length=sz∧∀d ∈ row,d.flat=true) (K rows σ):=rfl
@[go_sem] theorem gz {sz:Nat} {rows:List (List D)} {K:List (List D)→St→Prop}:OF .yes sz (.ro rows) σ K=AN (∀row ∈ rows,row.length=sz∧∀d ∈ row,d≠ .gone) (Mh (fzR rows) fun r=>K r σ):=by
 grind [OF,AN,G6]
end
attribute [go_sem] BD
def apX (P:Program) (pos:Nat) (e:TypeId) (x y:AV) (dst:Option Tmp) (σ:St) (K:St→Prop):Prop:=
 AN (0<tsz P e∧(tz P e).length =tsz P e) (zX fun z=>TA z e (tsz P e) x σ fun rows σ1=>OF z (tsz P e) y σ1 fun rows2 σ2=>
   AN ((rows.length+rows2.length)*P.bytesOf e≤140737488355328∧rows.length+rows2.length≤maxLen) (AN (look σ2.t (pos*16)=none) (K ((σ2.setT (pos*16) ⟨rows++rows2,some (tsz P e),0,z⟩).put dst (.own (pos*16))))))
theorem g7 {pos} {dst} {x y} {t}:opX P pos dst (.call ⟨.builtin .append,List.toArray [x,y],List.toArray [t,t]⟩) σ K=slX (ti P t) fun e=>apX P pos e (σ.e x) (σ.e y) dst σ K:=by
 unfold opX
 simp only [aop,Zl,slX,true_and]
 generalize ti P t=q
 split
 ·rename_i e
  show (0<tsz P e∧(tz P e).length =tsz P e∧_)=((0<tsz P e∧(tz P e).length =tsz P e)∧_)
  rw [and_assoc]
  congr 1
  congr 1
  show (∃z,_)=(∃z,_)
  congr 1
  funext z
  congr 1
  funext rows σ1
  congr 1
  funext rows2 σ2
  show (_∧_∧_∧_)=((_∧_)∧_∧_)
  rw [and_assoc]
 grind
end
attribute [go_sem ↓] nL
attribute [go_sem ↓] nK kN kO kP kS kU gr kW nM kX kY kZ gu nQ kc ke cN kj kh eL gv gw eM gy kl gz
section
variable {P:Program} {σ:St} {K:St→Prop} {Q:AE→St→Prop}
@[go_sem] theorem nR {n} (h1: -9223372036854775808≤n) (h2:n≤9223372036854775807):IntKind.i64.wrap n=n:=Go.IntWalk.i64_in n ⟨h1,h2⟩
@[go_sem ↓] theorem qw {K}:Np P σ [] K=K [] :=rfl
@[go_sem ↓] theorem qx {t} {l} {K}:Np P σ (.tmp t::l) K=Ax (σ.g t) fun v=>Np P σ l fun vs=>K (v::vs):=rfl
@[go_sem ↓] theorem pB {a} {t} {l} {K}:Np P σ (.cell a t::l) K=Pj P t (σ.g a) σ fun v=>Np P σ l fun vs=>K (v::vs):=rfl
@[go_sem] theorem km {k} {n m}:Dp (.int k n) (.int k m) σ K=AN (n=m) (K σ):=by simp [Dp,AN]
@[go_sem] theorem g8 {b c}:Dp (.bool b) (.bool c) σ K=AN (b=c) (K σ):=by rfl
@[go_sem] theorem ko {s s'}:Dp (.str s) (.str s') σ K=AN (s=s') (K σ):=by rfl
@[go_sem] theorem g9:Dp .nilp .nilp σ K=K σ:=by rfl
@[go_sem] theorem hD {ap} {rows}:Dp .nils (.ow ap rows) σ K=AN (rows=[]) (K σ):=by rfl
@[go_sem] theorem kq {b n sz} {ap} {rows}:Dp (.bsl b n sz) (.ow ap rows) σ K=AN (n=0) (AN (rows=[]) (K σ)):=by rfl
@[go_sem] theorem kr {t} {ap} {rows}:Dp (.own t) (.ow ap rows) σ K=optX (σ.T t) fun tk=>AN (tk.rows=rows) (AN (ap=none∨tk.sz=ap) (AN (tk.z= .no) (K (σ.killT t)))):=by rfl
@[go_sem] theorem kw {rows rows'}:Dp (.ro rows) (.ro rows') σ K=AN (rows=rows') (K σ):=by rfl
@[go_sem] theorem kx {vs} {rs}:Dp (.agg vs) (.agg rs) σ K=KV vs rs σ K:=by rfl
@[go_sem] theorem ky {vs} {rs}:Dp (.tup vs) (.tup rs) σ K=KV vs rs σ K:=by rfl
@[go_sem] theorem hH:KV [] [] σ K=K σ:=by rfl
@[go_sem] theorem eN {v} {vs} {r} {rs}:KV (v::vs) (r::rs) σ K=Dp v r σ fun σ'=>KV vs rs σ' K:=by rfl
def eO (r:RV) (σ:St) (vs:List AV):Prop:=match vs with
 | [v] =>Dp v r σ fun _=>True
 |vs=>Dp (.tup vs) r σ fun _=>True
@[go_sem ↓] theorem uG {r}:eO r σ [] =Dp (.tup []) r σ fun _=>True:=rfl
@[go_sem ↓] theorem uH {r} {v}:eO r σ [v] =Dp v r σ fun _=>True:=rfl
@[go_sem ↓] theorem uI {r} {v u} {vs}:eO r σ (v::u::vs)=Dp (.tup (v::u::vs)) r σ fun _=>True:=rfl
def endX (P:Program) (l:List ResultVar) (r:RV) (q:AE) (σ:St):Prop:=match q with| .exit _=>False|_=>Np P σ l (eO r σ)
@[go_sem ↓] theorem nT {l} {r}:endX P l r .normal σ=Np P σ l (eO r σ):=rfl
@[go_sem ↓] theorem uJ {l} {r}:endX P l r .ret σ=Np P σ l (eO r σ):=rfl
theorem qy (hm:P.follows .mixedOrders =true) {f} {fn} {c} {l} {args} {r} (hf:P.funcs[f]? =some fn) (hb:fn.body=some c) (hr:fn.results=l.toArray) (hnm:(fn.name == "runtime.NumGoroutine")=false)
  (hn:decide (args.length≤fn.ntmps)=true) (hok:GS fn.ntmps c=true) (h:awp P c (endX P l r) (st0 args)):AC P f args r:=by
 refine aD hm hf hb hnm (of_decide_eq_true hn) hok ?_
 have e:endQ P fn.results.toList r=endX P l r:=by
  rw [hr]
  funext q σ
  cases q <;> rfl
 rw [e]
 exact h
attribute [go_sem] st0 Tw
def hI {X:Type} (R:X→Prop) (inv:X→St) (μ:X→Nat) (x:X) (σ:St):Prop:=∃x',jS σ (inv x')∧R x'∧μ x'<μ x
def nU {X:Type} (R:X→Prop) (inv:X→St) (μ:X→Nat) (x:X) (σ:St) (_:Wrap R) (_:Wrap inv) (_:Wrap μ) (_:Wrap x):Prop:=hI R inv μ x σ
@[go_sem ↓] theorem pC {X:Type} {R:X→Prop} {inv:X→St} {μ:X→Nat} {x:X} {σ:St}:hI R inv μ x σ=nU R inv μ x σ ⟨⟩ ⟨⟩ ⟨⟩ ⟨⟩:=rfl
attribute [go_sem] I8 Xx TH TJ ren rens FR GR List.nodup_nil List.all_nil List.all_cons AV.int.injEq AV.bool.injEq AV.str.injEq AV.ro.injEq AV.rop.injEq AV.agg.injEq AV.fn.injEq AV.own.injEq AV.box.injEq AV.bsl.injEq AV.elt.injEq List.cons.injEq Tok.mk.injEq Option.isSome_some exists_eq_left' exists_eq_left
end
attribute [go_sem ↓] km g8 ko g9 hD kq kr kw kx ky hH eN
section
variable {P:Program} {σ:St} {K:St→Prop} {pos:Nat} {dst:Option Tmp} {t t' s d:TypeId} {x y a b c g l:Operand} {f i:Nat} {op:BinOp}
def slY (t:TI) (K:TypeId→Prop) (_:Wrap K):Prop:=slX t K
@[go_sem ↓] theorem w8 {t} {K}:slX t K=slY t K ⟨⟩:=rfl
@[go_sem] theorem w9 {e} {K} {w}:slY (.sl e) K w=K e:=rfl
def mC (t:TI) (K:IntKind→Prop) (_:Wrap K):Prop:=Yf t K
@[go_sem ↓] theorem qz {t} {K}:Yf t K=mC t K ⟨⟩:=rfl
@[go_sem] theorem pE {k} {K} {w}:mC (.int k) K w=K k:=rfl
def stY (P:Program) (t:TI) (K:List (Nat × TypeId)→Prop) (_:Wrap K):Prop:=Yk P t K
@[go_sem ↓] theorem xA {t} {K}:Yk P t K=stY P t K ⟨⟩:=rfl
@[go_sem] theorem xB {fs} {K} {w}:stY P (.st fs) K w=K fs:=rfl
@[go_sem] theorem uK {n} {el} {K} {w}:stY P (.arr n el) K w=AN (0<tsz P el) (Ax (MN (tsz P el) el n 0) K):=rfl
def eP (rows:List (List D)) (n:Int) (sz:Nat) (K:List D→Prop) (_:Wrap K):Prop:=Yh rows n sz K
@[go_sem ↓] theorem uL {rows} {n} {sz} {K}:Yh rows n sz K=eP rows n sz K ⟨⟩:=rfl
def nV {α:Type} (v:α) (K:α→Prop) (_:Wrap K):Prop:=Mh v K
@[go_sem ↓] theorem uM {α:Type} {v:α} {K:α→Prop}:Mh v K=nV v K ⟨⟩:=rfl
theorem Ar {α:Type} {v} {K} {w} (y:α) (h:v=y) (hk:K y):nV v K w:=⟨y,h,hk⟩
theorem hJ {P:Program} {σ:St} {K:St→Prop} {t} {b o s:Nat} {n:Int} {cs}:stX P t (.box b (o+Int.toNat n*s)) (some cs) σ K=AN (cs.length=tsz P t∧0<tsz P t∧cs.all AV.one=true) (optX (σ.B b) fun vs=>AN (isMp vs=false) (AN (o+Int.toNat n*s+cs.length≤vs.length) (Mh (splice vs (o+Int.toNat n*s) cs) fun j=>K (σ.setB b j)))):=by
 rw [cN]; simp only [G6]; rfl
attribute [go_sem ↓ high] hJ
def KF (n:Nat) (rs:List RV) (K:List AV→List (Nat × Tok)→Prop) (_:Wrap K):Prop:=K (G4 n rs).1 (G4 n rs).2
def cv1 (n:Nat) (r:RV) (K:AV→List (Nat × Tok)→Prop):Prop:=K (conv n r).1 (conv n r).2
section
variable {n:Nat} {rs us:List RV} {L:List AV→List (Nat × Tok)→Prop} {L1:AV→List (Nat × Tok)→Prop} {w:Wrap L}
@[go_sem] theorem kz:KF n [] L w=L [] [] :=rfl
@[go_sem] theorem lA {k} {x}:KF n (.int k x::rs) L w=KF n rs (fun vs ts=>L (.int k x::vs) ts) ⟨⟩:=by rfl
@[go_sem] theorem hU {b}:KF n (.bool b::rs) L w=KF n rs (fun vs ts=>L (.bool b::vs) ts) ⟨⟩:=by rfl
@[go_sem] theorem lC {x}:KF n (.str x::rs) L w=KF n rs (fun vs ts=>L (.str x::vs) ts) ⟨⟩:=by rfl
@[go_sem] theorem nW {x}:KF n (.ro x::rs) L w=KF n rs (fun vs ts=>L (.any ::vs) ts) ⟨⟩:=by rfl
@[go_sem] theorem hZ:KF n (.nilp ::rs) L w=KF n rs (fun vs ts=>L (.nilp ::vs) ts) ⟨⟩:=by rfl
@[go_sem] theorem nX {ap} {x}:KF n (.ow ap x::rs) L w=KF (n+1) rs (fun vs ts=>L (.own n::vs) ((n,⟨x,ap,0,.no⟩)::ts)) ⟨⟩:=by rfl
@[go_sem] theorem lD:KF n (.agg us::rs) L w=KF n us (fun p ts=>KF (n+ts.length) rs (fun vs j=>L (.agg p::vs) (ts++j)) ⟨⟩) ⟨⟩:=by rfl
@[go_sem] theorem lE:KF n (.tup us::rs) L w=KF n us (fun p ts=>KF (n+ts.length) rs (fun vs j=>L (.tup p::vs) (ts++j)) ⟨⟩) ⟨⟩:=by rfl
@[go_sem ↓] theorem uN {k} {x}:cv1 n (.int k x) L1=L1 (.int k x) [] :=rfl
@[go_sem ↓] theorem q9 {b}:cv1 n (.bool b) L1=L1 (.bool b) [] :=rfl
@[go_sem ↓] theorem uO {x}:cv1 n (.str x) L1=L1 (.str x) [] :=rfl
@[go_sem ↓] theorem xC {x}:cv1 n (.ro x) L1=L1 .any [] :=rfl
@[go_sem ↓] theorem rA:cv1 n .nilp L1=L1 .nilp [] :=rfl
@[go_sem ↓] theorem xD {ap} {x}:cv1 n (.ow ap x) L1=L1 (.own n) [(n,⟨x,ap,0,.no⟩)] :=rfl
@[go_sem ↓] theorem uP:cv1 n (.agg us) L1=KF n us (fun j ts=>L1 (.agg j) ts) ⟨⟩:=by rfl
@[go_sem ↓] theorem uQ:cv1 n (.tup us) L1=KF n us (fun j ts=>L1 (.tup j) ts) ⟨⟩:=by rfl
end
attribute [go_sem ↓] kz lA hU lC nW hZ nX lD lE
def Kh (P:Program) (L:Bool) (pos:Nat) (f:FuncId) (args:List AV) (as:Option (List AV)) (dst:Option Tmp) (σ:St) (K:St→Prop) (_:Wrap K) (w:Wrap L):Prop:=WB P L pos f args as dst σ K w
@[go_sem ↓] theorem rB {L} {wL} {f} {args} {as}:WB P L pos f args as dst σ K wL=Kh P L pos f args as dst σ K ⟨⟩ wL:=rfl
theorem AL {f} {args bs} {w} {rv} (h:AC P f bs rv) (hk:Ax (pos*16) fun m=>cv1 m rv fun v ts=>AN (Cq σ ts) (K (σ.add dst ⟨v,ts,[]⟩))) {L} {wL}:Kh P L pos f args (some bs) dst σ K w wL:=cM h hk.1 hk.2
theorem Qz {f} {args bs} {w} {rv} {o} (e:o=some bs) (h:AC P f bs rv) (hk:Ax (pos*16) fun m=>cv1 m rv fun v ts=>AN (Cq σ ts) (K (σ.add dst ⟨v,ts,[]⟩))) {L} {wL}:Kh P L pos f args o dst σ K w wL:=by
 subst e; exact cM h hk.1 hk.2
theorem IW {f} {args bs} {w} {rv} {o} (h:AG P f bs [] [] rv [] []) (e:cls (fun _=>none) (fun _=>none) args=some bs) (hp:VS rv=true) (hk:K (σ.add dst ⟨rv,[],[]⟩)) {L} {wL}:Kh P L pos f args o dst σ K w wL:=.inl (.inr ⟨bs,rv,[],[],h,e,.inl ⟨rfl,hp,hk⟩⟩)
theorem nY {f} {args bs} {w} {q k} {qt} {qb} {o} (h:AG P f bs [] [] (.box q k) qt qb) (e:cls (fun _=>none) (fun _=>none) args=some bs) (hk:K (σ.add dst ⟨.rop [] 0,[],[]⟩)) {L} {wL}:Kh P L pos f args o dst σ K w wL:=.inl (.inr ⟨bs,.box q k,qt,qb,h,e,.inr (.inr ⟨⟨q,k,rfl⟩,hk⟩)⟩)
attribute [go_sem] VS bQ bP AV.isNils AV.aggN AV.tupN Bool.or_true Bool.true_or Bool.or_false Bool.false_or
def Ym (y:Way) (as:List AV) (pt:List (Nat × Tok)) (pb:List (Nat × List AV)) (qt:List (Nat × Tok)) (qb:List (Nat × List AV)):Bool:=
 decide (((y.rt++y.nt).map (·.2)).Nodup)&&decide (((y.rt++y.nt).map (·.1)).Nodup)&&decide (((y.rb.map (·.2.1))++y.nb.map (·.2)).Nodup)&&decide (((y.rb.map (·.1))++y.nb.map (·.1)).Nodup)&&
 (y.rt.all fun p=>(look pt p.1).isSome)&&(y.rb.all fun p=>(look pb p.1).isSome)&&(y.nt.all fun p=>(look pt p.1).isNone)&&(y.nb.all fun p=>(look pb p.1).isNone)&&decide ((pt.map (·.1)).Nodup)&&decide ((pb.map (·.1)).Nodup)&&
 (pb.all fun p=>(look qb p.1).isSome)&&MO y.rt y.cv&&(y.md||noZ qt)&&fZ as pt pb&&(y.rt.all fun p=>decide (p.1 <1000)||(look qt p.1).isNone)
def T8:List (Nat × Nat)→List (Nat × Option Tok)→Prop
 | [],_=>True
 |(_,n)::r,t=>look t n=none∧T8 r t
def Pk:List (Nat × Nat)→List (Nat × Option (List AV))→Prop
 | [],_=>True
 |(_,n)::r,t=>look t n=none∧Pk r t
def Yn (y:Way) (args as:List AV) (pt:List (Nat × Tok)) (pb:List (Nat × List AV)) (σ1:St):Prop:=
 T8 y.nt σ1.t∧Pk y.nb σ1.b∧Rc y.rt σ1 pt∧G5 y σ1 (σ1.less y) pb∧PasL y (σ1.less y) args as
theorem Rw {t}:∀ {l},T8 l t→∀p ∈ l,(look t p.2).isNone =true
 | [],_,p,h=>by cases h
 |(c,n)::l,hf,p,h=>by
  simp only [T8] at hf
  rcases List.mem_cons.1 h with rfl|h
  ·rw [hf.1]; rfl
  ·exact Rw hf.2 p h
theorem Pl {t}:∀ {l},Pk l t→∀p ∈ l,(look t p.2).isNone =true
 | [],_,p,h=>by cases h
 |(c,n)::l,hf,p,h=>by
  simp only [Pk] at hf
  rcases List.mem_cons.1 h with rfl|h
  ·rw [hf.1]; rfl
  ·exact Pl hf.2 p h
theorem Yo {f} {args} {σ} {as} {pt} {pb} {r} {qt} {qb} {K} (y:Way) (h:AG P f as pt pb r qt qb) (hB:Ym y as pt pb qt qb=true)
  (hc:CT y.cv σ fun σ1=>AN (Yn y args as pt pb σ1) (Bk y.cv (σ1.after y qt qb) fun σ2=>K (bak y r) σ2)):VV P f args σ K:=by
 refine⟨y,as,pt,pb,r,qt,qb,h,JI (fun σ1 h=>?_) hc⟩
 unfold Ym at hB
 simp only [Bool.and_eq_true,decide_eq_true_eq,and_assoc] at hB
 obtain⟨b1,b2,O,Y,b5,J,G,F,I,C,q,u,U,j,v⟩:=hB
 obtain⟨⟨h1,h2,h3,h4,W⟩,h6⟩:=h
 refine⟨⟨b1,b2,O,Y,b5,J,?_,?_,I,C⟩,h3,h4,W,q,⟨u,U⟩,j,v,h6⟩
 ·rw [List.all_eq_true] at G ⊢
  intro p hp
  rw [G p hp,Rw h1 p hp]; rfl
 ·rw [List.all_eq_true] at F ⊢
  intro p hp
  rw [F p hp,Pl h2 p hp]; rfl
theorem nZ {L} {wL} {f} {args} {o} {w} {as} {pt} {pb} {r} {qt} {qb} (y:Way) (hL:L=true) (h:AG P f as pt pb r qt qb) (hB:Ym y as pt pb qt qb=true)
  (hc:CT y.cv σ fun σ1=>AN (Yn y args as pt pb σ1) (Bk y.cv (σ1.after y qt qb) fun σ2=>K (σ2.put dst (bak y r)))):Kh P L pos f args o dst σ K w wL:=.inr ⟨hL,[],Yo (K:=fun v σ'=>K (σ'.put dst v)) y h hB hc⟩
theorem aT {L} {wL} {f} {j} {o} {w} {as} {pt} {pb} {r} {qt} {qb} (bs:List Nat) (y:Way) (hL:L=true) (h:AG P f as pt pb r qt qb) (hB:Ym y as pt pb qt qb=true)
  (p:FzK bs j σ fun j σ=>CT y.cv σ fun σ1=>AN (Yn y j as pt pb σ1) (Bk y.cv (σ1.after y qt qb) fun σ2=>K (σ2.put dst (bak y r)))):Kh P L pos f j o dst σ K w wL:=.inr ⟨hL,bs,Ty (fun j σ p=>Yo (K:=fun v σ'=>K (σ'.put dst v)) y h hB p) p⟩
@[go_sem ↓] theorem uR {args} {K}:FzK [] args σ K=K args σ:=rfl
@[go_sem ↓] theorem rC {b} {r} {args} {s} {t} {bb} {K}:FzK (b::r) args ⟨s,t,bb⟩ K=optX ((look bb b).join) fun vs=>AN (1000≤b∧isMp vs=false) (Ax (args.map (fzA b vs)) fun j=>FzK r j ⟨s,t,(b,none)::bb⟩ K):=rfl
section
variable {b:Nat} {vs:List AV}
@[go_sem] theorem uS {x n sz}:fzA b vs (.bsl x n sz)=(cl (fun _=>none) (only b vs) (.bsl x n sz)).getD (.bsl x n sz):=rfl
@[go_sem] theorem uT {x off}:fzA b vs (.box x off)=(cl (fun _=>none) (only b vs) (.box x off)).getD (.box x off):=rfl
@[go_sem] theorem uU {us}:fzA b vs (.agg us)=(cl (fun _=>none) (only b vs) (.agg us)).getD (.agg us):=rfl
@[go_sem] theorem uV {k} {n}:fzA b vs (.int k n)= .int k n:=rfl
@[go_sem] theorem rD {x}:fzA b vs (.bool x)= .bool x:=rfl
@[go_sem] theorem uW {x}:fzA b vs (.str x)= .str x:=rfl
@[go_sem] theorem xE {x}:fzA b vs (.ro x)= .ro x:=rfl
@[go_sem] theorem uX {x}:fzA b vs (.own x)= .own x:=rfl
@[go_sem] theorem uY {x} {off}:fzA b vs (.rop x off)= .rop x off:=rfl
@[go_sem] theorem uZ {t sz i off}:fzA b vs (.elt t sz i off)= .elt t sz i off:=rfl
@[go_sem] theorem xF {f} {x}:fzA b vs (.fn f x)= .fn f x:=rfl
@[go_sem] theorem rE:fzA b vs .nilp = .nilp :=rfl
@[go_sem] theorem rF:fzA b vs .nils = .nils :=rfl
@[go_sem] theorem ua {x}:fzA b vs (.mpr x)= .mpr x:=rfl
@[go_sem] theorem ub:fzA b vs .any = .any :=rfl
end
attribute [go_sem] Option.getD_some Option.getD_none Option.join_some Option.bind_some Option.bind_none only
attribute [go_sem] ne_eq true_imp_iff implies_true false_imp_iff EH D.flat kept Yn T8 Pk Rc St.less Rd TB TC TD Zm Zn St.after bak baks G5
@[go_sem ↓] theorem pF:CT [] σ K=K σ:=by rw [CT]
@[go_sem ↓] theorem na {n} {z} {r} {s} {t} {b}:CT ((n,.nils,z)::r) ⟨s,t,b⟩ K=AN (look t n=none) (CT r ⟨s,(n,some ⟨[],z,0,.no⟩)::t,b⟩ K):=by rw [CT]; rfl
@[go_sem ↓] theorem pG {n t' g sz i j:Nat} {r:List (Nat × AV × Option Nat)} {s:List (Nat × AV)} {t:List (Nat × Option Tok)} {b:List (Nat × Option (List AV))}:CT ((n,.sub t' g [(sz,i,j)],none)::r) ⟨s,t,b⟩ K=
  AN (look t n=none∧n≠t') (optX (look t t').join fun tk=>AN (tk.gen=g) (optX (getP [(sz,i,j)] tk.rows) fun rows=>Mh (putR [(sz,i,j)] tk.rows .gone) fun p=>CT r ⟨s,(n,some ⟨rows,none,0,tk.z⟩)::(t',some ⟨p,tk.sz,g,tk.z⟩)::t,b⟩ K)):=by
 rw [CT]
 simp only [AN,optX,G6,List.length_cons,List.length_nil,true_and,Nat.zero_add]
 refine propext ⟨?_,?_⟩
 ·rintro ⟨h2,tk,rows,F,u,v,q,C⟩; exact⟨⟨h2,q⟩,tk,F,u,rows,v,C⟩
 ·rintro ⟨⟨h2,q⟩,tk,F,u,rows,v,C⟩; exact⟨h2,tk,rows,F,u,v,q,C⟩
@[go_sem ↓] theorem uc:Bk [] σ K=K σ:=by rw [Bk]
def unX (n:Nat) (K:St→Prop) (σ:St):Prop:=K {σ with t:=(n,none)::σ.t}
@[go_sem ↓] theorem xG {n} {s} {t} {b}:unX n K ⟨s,t,b⟩=K ⟨s,(n,none)::t,b⟩:=rfl
@[go_sem ↓] theorem rG {n} {z} {r}:Bk ((n,.nils,z)::r) σ K=Bk r σ (unX n K):=by rw [Bk]; rfl; grind
def unS (n t' g:Nat) (p:Pth) (K:St→Prop) (σ:St):Prop:=match σ.T n with
 |some tn=>∃tk,σ.T t'=some tk∧PK p tk.rows=some .gone ∧(n≠t'∧okZ tk.z tn=true)∧K {σ with t:=(n,none)::(t',some ⟨putR p tk.rows (.sl tn.rows),tk.sz,if tn.gen=0∧tk.gen=g then g else tk.gen+tn.gen+1,tk.z⟩)::σ.t}
 |none=>K σ
@[go_sem ↓] theorem ud {n t' g} {p} {z} {r}:Bk ((n,.sub t' g p,z)::r) σ K=Bk r σ (unS n t' g p K):=by rw [Bk]; rfl
def unO (o:Option Tok) (n t' g:Nat) (p:Pth) (K:St→Prop) (σ:St):Prop:=match o with
 |some tn=>AN (n≠t') (optX (σ.T t') fun tk=>AN (okZ tk.z tn=true) (AN (PK p tk.rows=some .gone) (Mh (putR p tk.rows (.sl tn.rows)) fun rows=>K ⟨σ.s,(n,none)::(t',some ⟨rows,tk.sz,if tn.gen=0∧tk.gen=g then g else tk.gen+tn.gen+1,tk.z⟩)::σ.t,σ.b⟩)))
 |none=>K σ
@[go_sem ↓] theorem xH {n t' g:Nat} {p:Pth} {s:List (Nat × AV)} {t:List (Nat × Option Tok)} {b:List (Nat × Option (List AV))}:unS n t' g p K ⟨s,t,b⟩=unO (look t n).join n t' g p K ⟨s,t,b⟩:=by
 grind [unS,unO,St.T,AN,optX,G6]
@[go_sem] theorem rH {n t' g} {p} {tn}:unO (some tn) n t' g p K σ=AN (n≠t') (optX (σ.T t') fun tk=>AN (okZ tk.z tn=true) (AN (PK p tk.rows=some .gone) (Mh (putR p tk.rows (.sl tn.rows)) fun rows=>K ⟨σ.s,(n,none)::(t',some ⟨rows,tk.sz,if tn.gen=0∧tk.gen=g then g else tk.gen+tn.gen+1,tk.z⟩)::σ.t,σ.b⟩))):=rfl
@[go_sem] theorem rI {n t' g} {p}:unO none n t' g p K σ=K σ:=rfl
theorem OZ {α:Type} {l:List α} {i:Nat} {x y:α} (h:l[i]? =some x):(l.set i y)[i]? =some y:=List.getElem?_set_self (BU h)
theorem nc {rows r} {sz i j} {row} {d} (h:rows[i]? =some row) (hl:row.length=sz) (hj:row[j]? =some d) (hd:Hf d=some r):getP [(sz,i,j)] rows=some r:=by
 rw [getP,h]
 simp [hl,hj,hd,getP]
theorem Es {rows r} {sz i j} {row} (h:rows[i]? =some row) (hl:row.length=sz) (hj:row[j]? =some (.sl r)):getP [(sz,i,j)] rows=some r:=nc h hl hj rfl
theorem aU {rows} {sz i j} {row} {d} (h:rows[i]? =some row) (hl:row.length=sz) (hj:row[j]? =some d):PK [(sz,i,j)] rows=some d:=by
 grind [PK]
theorem Hs {rows} {sz i j} {row} {d d'} (h:rows[i]? =some row) (hj:row[j]? =some d'):putR [(sz,i,j)] rows d=rows.set i (row.set j d):=by
 grind [putR,Ab.put]
theorem lF {rows:List (List D)} {sz i j:Nat} {row:List D} {d d':D} (h:rows[i]? =some row) (hj:row[j]? =some d'):(putR [(sz,i,j)] rows d)[i]? =some (row.set j d):=by
 rw [Hs h hj]; grind
section
variable {y:Way} {σ0:St}
@[go_sem] theorem rJ:PasL y σ0 [] [] =True:=by rfl
@[go_sem] theorem pH {a b} {as bs}:PasL y σ0 (a::as) (b::bs)=(E2 y σ0 a b∧PasL y σ0 as bs):=by rfl
@[go_sem] theorem ue {n c}:E2 y σ0 (.own n) (.own c)=(look y.rt c=some n∨∃z,∃m,look y.rt c=some m∧look y.cv m=some (.own n,z)):=by
 grind [E2]
def cvX (o:Option (AV × Option Nat)) (a:AV):Prop:=match o with|some x=>x.1 =a|none=>False
theorem cO {o} {a}:(∃z,o=some (a,z))=cvX o a:=by
 unfold cvX
 grind
def rtX (o:Option Nat) (K:Nat→Prop):Prop:=match o with|some n=>K n|none=>False
@[go_sem] theorem rK {n} {K}:rtX (some n) K=K n:=rfl
@[go_sem] theorem rL {x} {a}:cvX (some x) a=(x.1 =a):=rfl
theorem cP {o} {p}:(∃n,o=some n∧p n)=rtX o p:=by
 cases o <;> simp [rtX]
@[go_sem] theorem uf {t g c} {p}:E2 y σ0 (.sub t g p) (.own c)=rtX (look y.rt c) fun n=>cvX (look y.cv n) (.sub t g p):=by
 rw [← cP]
 grind [E2,cO]
@[go_sem] theorem rM {c}:E2 y σ0 .nils (.own c)=rtX (look y.rt c) fun n=>cvX (look y.cv n) .nils :=by
 rw [← cP]
 grind [E2,cO]
@[go_sem] theorem ug {n off b off'}:E2 y σ0 (.box n off) (.box b off')=match look y.rb b with|some q=>n=q.1 ∧off=q.2 +off'|none=>False:=by
 simp only [E2,AV.box.injEq]
 cases look y.rb b <;> simp
@[go_sem] theorem ui {vs us}:E2 y σ0 (.agg vs) (.agg us)=PasL y σ0 vs us:=by rfl
@[go_sem] theorem xI {f f'} {vs us}:E2 y σ0 (.fn f vs) (.fn f' us)=(f=f'∧PasL y σ0 vs us):=by rfl
@[go_sem] theorem uj {n b}:E2 y σ0 (.mpr n) (.mpr b)=match look y.rb b with|some q=>n=q.1 |none=>False:=by
 simp only [E2,AV.mpr.injEq]
 cases look y.rb b <;> simp
def clW (y:Way) (σ0:St) (a:AV):Option AV:=cl (if y.md=true then fun _=>none else σ0.T) (if y.md=true then fun _=>none else σ0.B) a
@[go_sem] theorem uk {a} {k} {n}:E2 y σ0 a (.int k n)=(clW y σ0 a=some (.int k n)):=by cases a <;> simp only [E2,clW]
@[go_sem] theorem um {a} {s}:E2 y σ0 a (.str s)=(clW y σ0 a=some (.str s)):=by cases a <;> simp only [E2,clW]
@[go_sem] theorem xJ {a} {rows}:E2 y σ0 a (.ro rows)=(clW y σ0 a=some (.ro rows)):=by cases a <;> simp only [E2,clW]
@[go_sem] theorem lG {a} {vs} {off}:E2 y σ0 a (.rop vs off)=narR (clW y σ0 a) vs off:=by cases a <;> simp only [E2,clW]
@[go_sem] theorem iA {us} {o'} {vs} {off}:narR (some (.rop us o')) vs off=((us=vs∧o'=off)∨(off=0∧Fs us o' vs.length=vs)):=rfl
@[go_sem] theorem iB {a}:E2 y σ0 a .nilp =(clW y σ0 a=some .nilp):=by cases a <;> simp only [E2,clW]
@[go_sem] theorem uo {a} {q} {rows}:E2 y σ0 a (.mpc q rows)=(clW y σ0 a=some (.mpc q rows)):=by cases a <;> simp only [E2,clW]
@[go_sem] theorem xK {cv rt rb nt nb} {a}:clW ⟨cv,rt,rb,nt,nb,true⟩ σ0 a=cl (fun _=>none) (fun _=>none) a:=by rfl
@[go_sem] theorem xL {cv rt rb nt nb} {a}:clW ⟨cv,rt,rb,nt,nb,false⟩ σ0 a=cl σ0.T σ0.B a:=by rfl
end
def rN (P:Program) (t:TypeId) (v:AV) (σ:St) (K:Bool→Prop) (_:Wrap K):Prop:=m9 P t v σ K
theorem iC {rows} {K} {w} (h:slP (ti P t)) (h0:rows=[] →K true) (h1:K false):rN P t (.ro rows) σ K w:=jp h h0 h1
@[go_sem ↓] theorem pI:opX P pos dst (.makeMap t none) σ K=optX (bR P t) fun q=>AN (look σ.b pos=none) (K ((σ.put dst (.mpr pos)).setB pos [.mpc q []])):=by
 rw [Qy (fun _=>by rfl)]
 simp only [Ev,optX,AN]
 refine propext ⟨?_,?_⟩
 ·rintro ⟨r,⟨q,h1,rfl⟩,-,h2,h3⟩
  exact⟨q,h1,h2.1,by rw [← Jy]; exact h3⟩
 ·rintro ⟨q,h1,h2,h3⟩
  exact⟨_,⟨q,h1,rfl⟩,trivial,⟨h2,trivial⟩,by rw [Jy]; exact h3⟩
def lkR (ok:Bool) (o:Option D) (z:AV) (K:AV→Prop):Prop:=K (if ok=true then .tup [(o.map ofD).getD z,.bool o.isSome] else (o.map ofD).getD z)
@[go_sem] theorem xM {o} {z} {K}:lkR false o z K=Ax ((o.map ofD).getD z) K:=by rfl
@[go_sem] theorem xN {o} {z} {K}:lkR true o z K=Ax ((o.map ofD).getD z) fun v=>Ax o.isSome fun b=>K (.tup [v,.bool b]):=by rfl
def lkX (P:Program) (t:TypeId) (u v:AV) (ok:Bool) (σ:St) (K:AV→Prop):Prop:=∃r,Ra P σ.B t u v ok r∧K r
@[go_sem] theorem up {b} {v} {ok} {K}:lkX P t (.mpr b) v ok σ K=aS (ti P t) fun u C=>Yj (σ.B b) fun q j=>AN (SD P u=some q) (optX (keyD v) fun k=>AN (Ux q k=true) (optX (tz1 P C) fun z=>Ax (zAV z) fun p=>Ax (GQ k j) fun o=>lkR ok o p K)):=by
 simp only [lkX,Ra,aS,Yj,AN,optX,Ax,lkR]
 grind
@[go_sem ↓] theorem rO {ok}:opX P pos dst (.lookup t x y ok) σ K=Ax (σ.e x) fun u=>Ax (σ.e y) fun v=>lkX P t u v ok σ fun r=>K (σ.put dst r):=
 IC (p:=fun v=>Ra P σ.B t (σ.e x) (σ.e y) ok v) (fun _=>by rfl) (fun r=>by rfl)
def WC (a:AV):Option D:=match LM [a] with|some [d] =>some d|_=>none
@[go_sem] theorem pJ {k} {n}:WC (.int k n)=some (.int k n):=rfl
@[go_sem] theorem nf {b}:WC (.bool b)=some (.bool b):=rfl
@[go_sem] theorem pK {s}:WC (.str s)=some (.str s):=rfl
theorem iD {a} {d}:LM [a] =some [d] ↔WC a=some d:=by
 unfold WC
 cases a <;> simp [LM]
def muX (P:Program) (t:TypeId) (u v x:AV) (σ:St) (K:St→Prop):Prop:=Wb P t u v x σ K
@[go_sem] theorem uq {b:Nat} {v x:AV}:muX P t (.mpr b) v x σ K=aS (ti P t) fun u C=>Yj (σ.B b) fun q j=>AN (j.length<68719476736) (AN (SD P u=some q) (optX (keyD v) fun k=>AN (Ux q k=true) (optX (WC x) fun d=>Mh (mput k d j) fun p=>K (σ.setB b [.mpc q p])))):=by
 simp only [muX,Wb,aS,Yj,AN,optX,G6]
 grind [iD]
@[go_sem ↓] theorem mD {m i}:opX P pos dst (.mapUpdate t m i x) σ K=Ax (σ.e m) fun u=>Ax (σ.e i) fun v=>Ax (σ.e x) fun z=>muX P t u v z σ fun σ'=>K (σ'.put dst .any):=by
 rfl
@[go_sem ↓] theorem rP {m i}:opX P pos dst (.insert t m i x) σ K=Ax (σ.e m) fun u=>Ax (σ.e i) fun v=>Ax (σ.e x) fun z=>muX P t u v z σ fun σ'=>K (σ'.put dst .any):=by
 rfl
attribute [go_sem] keyD VT
@[go_sem] theorem pL {ks} {ds}:Ux (.wide ks) (.ptr ds)=RZ ks ds:=rfl
@[go_sem] theorem pM:RZ [] [] =true:=rfl
@[go_sem] theorem rQ {k} {n}:Ux (.int k) (.int k n)=true:=by simp [Ux]
@[go_sem] theorem rR {s}:Ux .str (.str s)=true:=rfl
@[go_sem ↓] theorem xO:opX P pos dst (.pick c a b) σ K=Ax (σ.e c) fun u=>Ax (σ.e a) fun v=>Ax (σ.e b) fun w=>T7 u v w fun v=>K (σ.put dst v):=mz
@[go_sem ↓] theorem xP:opX P pos dst (.load t a) σ K=Ax (σ.e a) fun u=>Pj P t u σ fun v=>K (σ.put dst v):=m5
@[go_sem ↓] theorem ng:opX P pos dst (.nilCheck x) σ K=Ax (σ.e x) fun u=>Ww u fun v=>K (σ.put dst v):=aQ
@[go_sem ↓] theorem pN {y}:opX P pos dst (.binOp op t x (.tmp y) t') σ K=Ax (σ.e x) fun u=>Ax (σ.g y) fun v=>Dw P op t u v fun v=>K (σ.put dst v):=eA
@[go_sem ↓] theorem pO {k} {n}:opX P pos dst (.binOp op t x (.const (.int k n)) t') σ K=Ax (σ.e x) fun u=>Dw P op t u (.int k n) fun v=>K (σ.put dst v):=eC
@[go_sem ↓] theorem pP {b}:opX P pos dst (.binOp op t x (.const (.string b)) t') σ K=Ax (σ.e x) fun u=>Dw P op t u (.str b) fun v=>K (σ.put dst v):=eD
@[go_sem ↓] theorem nh:opX P pos dst (.binOp op t x (.const (.pointer none)) t') σ K=Ax (σ.e x) fun u=>Dw P op t u .nilp fun v=>K (σ.put dst v):=aR
@[go_sem ↓] theorem rS:opX P pos dst (.binOp .eql t x (.const (.slice none 0 0)) t') σ K=Ax (σ.e x) fun u=>rN P t u σ (fun b=>K (σ.put dst (.bool b))) ⟨⟩:=gZ
@[go_sem ↓] theorem xQ {op}:opX P pos dst (.unOp op t x) σ K=Ax (σ.e x) fun u=>eF op u fun v=>K (σ.put dst v):=nD
@[go_sem ↓] theorem pQ:opX P pos dst (.convert s d x) σ K=Ax (σ.e x) fun u=>Rv P s d u σ fun v=>K (σ.put dst v):=eG
@[go_sem ↓] theorem mE:opX P pos dst (.fieldAddr s x f) σ K=Ax (σ.e x) fun u=>faX P s u f fun v=>K (σ.put dst v):=Yg
@[go_sem ↓] theorem mF:opX P pos dst (.indexAddr t x y) σ K=Ax (σ.e x) fun u=>Ax (σ.e y) fun v=>iaX P t u v σ fun v=>K (σ.put dst v):=Yi
@[go_sem ↓] theorem ur {l h}:opX P pos dst (.slice t x l h none) σ K=Ax (σ.e x) fun u=>kJ P σ.T t u (l.map σ.e) (h.map σ.e) fun v=>K (σ.put dst v):=kK
@[go_sem ↓] theorem ut:opX P pos dst (.index t x y) σ K=Ax (σ.e x) fun u=>Ax (σ.e y) fun v=>elX P t u v fun v=>K (σ.put dst v):=kI
@[go_sem ↓] theorem pR:opX P pos dst (.extract x i) σ K=Ax (σ.e x) fun u=>eJ u i fun v=>K (σ.put dst v):=eK
@[go_sem ↓] theorem yE:opX P pos dst (.call ⟨.builtin .len,List.toArray [x],List.toArray [t]⟩) σ K=Ax (σ.e x) fun u=>U0 P t u σ fun v=>K (σ.put dst v):=qh
@[go_sem ↓] theorem yF:opX P pos dst (.box t x) σ K=Ax (cellsOf (σ.e x)) fun cs=>bxX pos cs dst (.box pos 0) σ K:=ql
@[go_sem ↓] theorem uu:opX P pos dst (.alloc t) σ K=AN (0<(tz P t).length) (Ax ((tz P t).map zAV) fun vs=>bxX pos (some vs) dst (.box pos 0) σ K):=kQ
@[go_sem ↓] theorem uv {parts}:opX P pos dst (.build t parts.toArray) σ K=Yk P (ti P t) fun fs=>AN ((fs.all fun q=>decide (0<tsz P q.2))=true∧0<(tz P t).length) (Ax ((tz P t).map zAV) fun vs=>Ax (pvs σ parts) fun j=>bpX P fs vs j fun v=>K (σ.put dst v)):=kV
@[go_sem ↓] theorem mG:opX P pos dst (.makeSlice t l c) σ K=slX (ti P t) fun e=>Ax (σ.e l) fun u=>Ax (σ.e c) fun v=>mkX P pos e u v dst σ K:=Yl
@[go_sem ↓] theorem xR {L} {wL} {args} {ts}:opL P L pos dst (.call ⟨.value g,args.toArray,ts⟩) σ K wL=Ax (σ.e g) fun u=>Ax (evs σ args) fun vs=>clX P L pos u vs dst σ K wL:=nO
@[go_sem ↓] theorem uw:opX P pos dst (.store t a x) σ K=Ax (σ.e a) fun u=>Ax (cellsOf (σ.e x)) fun cs=>stX P t u cs σ fun σ'=>K (σ'.put dst .any):=kf
@[go_sem ↓] theorem rT:opX P pos dst (.call ⟨.builtin .append,List.toArray [x,y],List.toArray [t,t]⟩) σ K=slX (ti P t) fun e=>Ax (σ.e x) fun u=>Ax (σ.e y) fun v=>apX P pos e u v dst σ K:=g7
def apE (P:Program) (pos:Nat) (e:TypeId) (u v:AV) (dst:Option Tmp) (σ:St) (K:St→Prop):Prop:=bS u=true∧match v with
 | .ro rows=>(0<tsz P e∧(tz P e).length =tsz P e)∧∃z,roZ z (tsz P e) rows fun rows=>(rows.length*P.bytesOf e≤140737488355328∧rows.length≤maxLen)∧look σ.t (pos*16)=none∧K ((σ.setT (pos*16) ⟨rows,some (tsz P e),0,z⟩).put dst (.own (pos*16)))
 |_=>False
theorem iE {z} {sz} {rows} {K K'} (h:∀r,K r→K' r) (k:roZ z sz rows K):roZ z sz rows K':=by
 cases z
 ·exact⟨k.1,h _ k.2⟩
 ·exact⟨k.1,h _ k.2⟩
 ·exact⟨k.1,h _ k.2⟩
def roX (z:ZK) (sz:Nat) (rows:List (List D)) (K:List (List D)→Prop):Prop:=roZ z sz rows K
@[go_sem] theorem yG {sz} {rows} {K}:roX .no sz rows K=AN (∀row ∈ rows,row.length=sz∧∀d ∈ row,d.flat=true) (K rows):=rfl
@[go_sem] theorem yH {sz:Nat} {rows:List (List D)} {K:List (List D)→Prop}:roX .yes sz rows K=AN (∀row ∈ rows,row.length=sz∧∀d ∈ row,d≠ .gone) (Mh (fzR rows) fun r=>K r):=by
 grind [roX,roZ,AN,G6]
@[go_sem] theorem xS {e:TypeId} {u:AV} {j:List (List D)}:apE P pos e u (.ro j) dst σ K=AN (bS u=true) (AN (0<tsz P e∧(tz P e).length =tsz P e) (zX fun z=>roX z (tsz P e) j fun j=>AN (j.length*P.bytesOf e≤140737488355328∧j.length≤maxLen) (AN (look σ.t (pos*16)=none) (Mh j fun j=>K ((σ.setT (pos*16) ⟨j,some (tsz P e),0,z⟩).put dst (.own (pos*16))))))):=by simp only [G6]; rfl
@[go_sem ↓] theorem xT:opE P pos dst (.call ⟨.builtin .append,List.toArray [x,y],List.toArray [t,t]⟩) σ K=slX (ti P t) fun e=>Ax (σ.e x) fun u=>Ax (σ.e y) fun v=>apE P pos e u v dst σ K:=by
 unfold opE
 simp only [Ev,pZ,slX,true_and,Ax]
 generalize σ.e x=u
 generalize σ.e y=v
 refine propext ⟨?_,?_⟩
 ·rintro ⟨r,⟨h1,h2⟩,h3,W,F⟩
  split at h2
  ·rename_i U p O
   obtain⟨J,z,I⟩:=h2
   rw [O]
   refine⟨h1,J,z,iE (fun p G=>?_) I⟩
   obtain⟨C,rfl⟩:=G
   refine⟨C,h3.1,?_⟩
   cases dst <;> exact F
  grind
 ·intro h
  generalize hti:ti P t=q at h ⊢
  cases q with
  | sl U=>
   cases v with
   | ro p=>
    obtain⟨h1,J,z,I⟩:=h
    cases z with
    |no=>
     obtain⟨G,C,j,F⟩:=I
     exact⟨_,⟨h1,J,.no,G,C,rfl⟩,⟨j,trivial⟩,trivial,by cases dst <;> exact F⟩
    |nl=>
     obtain⟨G,C,j,F⟩:=I
     exact⟨_,⟨h1,J,.nl,G,C,rfl⟩,⟨j,trivial⟩,trivial,by cases dst <;> exact F⟩
    |yes=>
     obtain⟨G,C,j,F⟩:=I
     exact⟨_,⟨h1,J,.yes,G,C,rfl⟩,⟨j,trivial⟩,trivial,by cases dst <;> exact F⟩
   |_=>exact h.2.elim
  |_=>exact h.elim
@[go_sem ↓] theorem xU {e:TypeId} {u v:AV}:apX P pos e u v dst σ K=AN (0<tsz P e∧(tz P e).length =tsz P e) (zX fun z=>TA z e (tsz P e) u σ fun j σ1=>OF z (tsz P e) v σ1 fun rows2 σ2=>
   AN ((j.length+rows2.length)*P.bytesOf e≤140737488355328∧j.length+rows2.length≤maxLen) (AN (look σ2.t (pos*16)=none) (Mh (j++rows2) fun j=>K ((σ2.setT (pos*16) ⟨j,some (tsz P e),0,z⟩).put dst (.own (pos*16)))))):=by simp only [G6]; rfl
end
attribute [go_sem] zAV
section
variable {P:Program} {σ:St} {K:St→Prop} {ops:Array Oper} {base cut i:Nat}
@[go_sem] theorem ni {x} {xs b} {w1} {w2} {w3} {w4}:Mf P ops base cut i (List.append (x::xs) b) σ K w1 w2 w3 w4=Mf P ops base cut i (x::List.append xs b) σ K w1 ⟨⟩ w3 w4:=rfl
@[go_sem] theorem pS {b} {w1} {w2} {w3} {w4}:Mf P ops base cut i (List.append [] b) σ K w1 w2 w3 w4=Mf P ops base cut i b σ K w1 ⟨⟩ w3 w4:=rfl
@[go_sem ↓] theorem jP {b} {j} {K}:Ru (List.toArray (List.append [] b)) j K=Ru b.toArray j K:=rfl
end
end Go.Proofs.YthenkmapmnkelaaGreatDoor.Ab
