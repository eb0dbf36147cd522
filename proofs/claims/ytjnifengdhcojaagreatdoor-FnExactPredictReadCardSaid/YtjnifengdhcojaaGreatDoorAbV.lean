/- The abstract walk as rules, third part. -/
import Derived.Test.YtjnifengdhcojaaGreatDoorAbU
import Derived.IntWalk
namespace Go.Proofs.YtjnifengdhcojaaGreatDoor.Ab
set_option linter.unusedVariables false
set_option maxHeartbeats 1000000
open Go.RowKit
section
variable {P:Program} {σ:St} {K:St→Prop} {Q:AE→St→Prop}
def wG (t:TI):Prop:=match t with| .str =>True|_=>False
@[go_sem] theorem rK:wG .str =True:=rfl
@[go_sem] theorem oO {t} {rows} {K}:fl P t (.ro rows) σ K=slX (ti P t) fun _=>K (.int .i64 rows.length):=by
 simp only [fl,Vi,slX]
 generalize ti P t=q
 cases q <;> simp
@[go_sem] theorem lc {t} {t'} {K}:fl P t (.own t') σ K=slX (ti P t) fun _=>optX (σ.T t') fun tk=>K (.int .i64 tk.rows.length):=by
 simp only [fl,Vi,slX,optX]
 grind
def wH (t:TI) (K:TypeId→TypeId→Prop):Prop:=match t with| .map k e=>K k e|_=>False
@[go_sem] theorem rL {k e} {K}:wH (.map k e) K=K k e:=rfl
def OZ {α:Type} (v:α) (K:α→Prop):Prop:=∃y,v=y∧K y
theorem In {α:Type} {v:α} {K:α→Prop}:OZ v K=K v:=by simp [OZ]
def bxX (pos:Nat) (cs:Option (List AV)) (dst:Option Tmp) (v:AV) (σ:St) (K:St→Prop):Prop:=optX cs fun vs=>AP (look σ.b pos=none) (K ((σ.put dst v).setB pos vs))
def bxZ (pos:Nat) (cs:Option (List AV)) (dst:Option Tmp) (v:AV) (σ:St) (K:St→Prop):Prop:=bxX pos cs dst v σ K
theorem oP {pos} {cs} {dst} {v}:bxX pos cs dst v σ K=Ar cs fun o=>bxZ pos o dst v σ K:=rfl
@[go_sem ↓] theorem rM {pos} {vs} {dst} {v}:bxZ pos (some vs) dst v σ K=AP (look σ.b pos=none) (K ((σ.put dst v).setB pos vs)):=by simp [bxZ,bxX,optX]
theorem NO {dst} {v} {pos} {vs}:σ.add dst ⟨v,[],[(pos,vs)]⟩=(σ.put dst v).setB pos vs:=by cases dst <;> rfl
@[go_sem] theorem wI {vs}:cellsOf (.agg vs)=if PA vs=true then some vs else none:=rfl
@[go_sem] theorem wJ:cellsOf .any =none:=rfl
@[go_sem] theorem wK {vs}:cellsOf (.tup vs)=none:=rfl
@[go_sem] theorem wM {q} {r}:cellsOf (.mpc q r)=none:=rfl
@[go_sem] theorem wN {k} {n}:cellsOf (.int k n)=some [.int k n] :=rfl
@[go_sem] theorem uG {b}:cellsOf (.bool b)=some [.bool b] :=rfl
@[go_sem] theorem wO {s}:cellsOf (.str s)=some [.str s] :=rfl
@[go_sem] theorem yJ {r}:cellsOf (.ro r)=some [.ro r] :=rfl
@[go_sem] theorem wP {t}:cellsOf (.own t)=some [.own t] :=rfl
@[go_sem] theorem wQ {b o}:cellsOf (.box b o)=some [.box b o] :=rfl
@[go_sem] theorem wR {vs} {o}:cellsOf (.rop vs o)=some [.rop vs o] :=rfl
@[go_sem] theorem wS {b n z}:cellsOf (.bsl b n z)=some [.bsl b n z] :=rfl
@[go_sem] theorem wT {t z i o}:cellsOf (.elt t z i o)=some [.elt t z i o] :=rfl
@[go_sem] theorem wU {t g} {p}:cellsOf (.sub t g p)=some [.sub t g p] :=rfl
@[go_sem] theorem wV {t g} {p} {z i o}:cellsOf (.els t g p z i o)=some [.els t g p z i o] :=rfl
@[go_sem] theorem wW {t z i n}:cellsOf (.par t z i n)=some [.par t z i n] :=rfl
@[go_sem] theorem yK {f} {c}:cellsOf (.fn f c)=some [.fn f c] :=rfl
@[go_sem] theorem uH:cellsOf .nilp =some [.nilp] :=rfl
@[go_sem] theorem uI:cellsOf .nils =some [.nils] :=rfl
@[go_sem] theorem wX {b}:cellsOf (.mpr b)=some [.mpr b] :=rfl
theorem rN {pos} {dst} {t} {x}:opX P pos dst (.box t x) σ K=bxX pos (cellsOf (σ.e x)) dst (.box pos 0) σ K:=by
 rw [Uh (fun _=>by rfl)]
 simp only [Ev,bxX]
 split
 ·rename_i vs h
  rw [h,Iy]
  refine propext ⟨?_,?_⟩
  ·rintro ⟨r,rfl,-,h1,h2⟩
   exact⟨h1.1,by rw [← NO]; exact h2⟩
  ·rintro ⟨h1,h2⟩
   exact⟨_,rfl,trivial,⟨h1,trivial⟩,by rw [NO]; exact h2⟩
 grind [W1]
theorem ld {pos} {dst} {t}:opX P pos dst (.alloc t) σ K=AP (0<(tz P t).length) (bxX pos (some ((tz P t).map zAV)) dst (.box pos 0) σ K):=by
 rw [Uh (fun _=>by rfl)]
 simp only [Ev,bxX,Iy,AP]
 refine propext ⟨?_,?_⟩
 ·rintro ⟨r,⟨vs,rfl,h0,rfl⟩,-,h1,h2⟩
  exact⟨h0,h1.1,by rw [← NO]; exact h2⟩
 ·rintro ⟨h0,h1,h2⟩
  exact⟨_,⟨_,rfl,h0,rfl⟩,trivial,⟨h1,trivial⟩,by rw [NO]; exact h2⟩
attribute [go_sem] zAV
def pvs (σ:St):List (Nat × Operand)→List (Nat × AV)
 | [] =>[]
 |x::xs=>(x.1,σ.e x.2)::pvs σ xs
theorem dc {xs}:pvs σ xs=xs.map fun x=>(x.1,σ.e x.2):=by induction xs with|nil=>rfl|cons x xs ih=>simp [pvs,ih]
attribute [go_sem] pvs DP
def bsX (P:Program) (pos:Nat) (e:TypeId) (n:Nat) (parts:List (Nat × AV)) (dst:Option Tmp) (σ:St) (K:St→Prop):Prop:=
 AP (parts.length=n∧n*tsz P e≤16777216∧0<tsz P e∧(tz P e).length =tsz P e) (bxX pos (DP (tsz P e) 0 parts) dst (.bsl pos n (tsz P e)) σ K)
@[go_sem ↓] theorem lf {pos} {dst} {t} {n} {parts}:opX P pos dst (.buildSlice t n parts.toArray) σ K=slX (ti P t) fun e=>Ar (pvs σ parts) fun F=>bsX P pos e n F dst σ K:=by
 rw [Uh (fun _=>by rfl)]
 simp only [Ev,slX,Ar,dc]
 generalize ti P t=q
 split
 ·simp only [gr,bsX,bxX,AP]
  refine propext ⟨?_,?_⟩
  ·rintro ⟨r,⟨h1,h2,h3,j,C⟩,-,u,v⟩
   split at C
   ·rename_i vs p
    subst C
    rw [p,Iy]
    exact⟨⟨h1,h2,h3,j⟩,u.1,by rw [← NO]; exact v⟩
   grind
  ·rintro ⟨⟨h1,h2,h3,j⟩,vs,p,u,v⟩
   exact⟨⟨_,[],[(pos,vs)]⟩,⟨h1,h2,h3,j,by rw [p]⟩,trivial,⟨u,trivial⟩,by rw [NO]; exact v⟩
 ·simp
attribute [go_sem] bsX
attribute [go_sem] MK
def Zf (P:Program) (t:TI) (K:List (Nat × TypeId)→Prop):Prop:=match t with| .st fs=>K fs| .arr n el=>AP (0<tsz P el) (K (MK (tsz P el) el n 0))|_=>False
@[go_sem] theorem lg {fs} {K}:Zf P (.st fs) K=K fs:=rfl
def bpX (P:Program) (fs:List (Nat × TypeId)) (vs:List AV) (ps:List (Nat × AV)) (K:AV→Prop):Prop:=∃ws,K9 P fs vs ps=some ws∧K (.agg ws)
@[go_sem] theorem lh {fs} {vs} {K}:bpX P fs vs [] K=K (.agg vs):=by simp [bpX,K9]
@[go_sem] theorem ir {fs} {vs} {f} {v} {ps} {K}:bpX P fs vs ((f,v)::ps) K=optX fs[f]? fun q=>optX (cellsOf v) fun cs=>AP (cs.length=tsz P q.2 ∧q.1 +cs.length≤vs.length) (Ar (splice vs q.1 cs) fun vs=>bpX P fs vs ps K):=by
 unfold bpX optX AP Ar
 rw [K9]
 grind
theorem lj {pos} {dst} {t} {parts}:opX P pos dst (.build t parts.toArray) σ K=Zf P (ti P t) fun fs=>AP ((fs.all fun q=>decide (0<tsz P q.2))=true∧0<(tz P t).length) (bpX P fs ((tz P t).map zAV) (pvs σ parts) fun v=>K (σ.put dst v)):=by
 rw [II (p:=fun v=>Zf P (ti P t) fun fs=>AP ((fs.all fun q=>decide (0<tsz P q.2))=true∧0<(tz P t).length) (bpX P fs ((tz P t).map zAV) (pvs σ parts) fun u=>v=u)) (fun _=>by rfl) (fun r=>by
  simp only [Ev,Zf,AP,bpX,dc]
  grind)]
 unfold Zf AP bpX
 grind
attribute [go_sem] zD zDs
@[go_sem] theorem rO {n}:leX n n=True:=eq_true (Int.le_refl n)
def zX (K:ZK→Prop):Prop:=∃z,K z
def zY (K:ZK→Prop) (_:Wrap K):Prop:=∃z,K z
@[go_sem ↓] theorem yL {K}:zX K=zY K ⟨⟩:=rfl
theorem Bp {K} {w} (z:ZK) (h:K z):zY K w:=⟨z,h⟩
def mkX (P:Program) (pos:Nat) (e:TypeId) (n m:AV) (dst:Option Tmp) (σ:St) (K:St→Prop):Prop:=match n,m with
 | .int .i64 n,.int .i64 m=>AP (leX n m) (AP (0≤n∧m.toNat*P.bytesOf e≤281474976710656∧m≤4611686018427387904) (AP (0<tsz P e∧(tz P e).length =tsz P e) (zX fun q=>optX (zDs q (tz P e)) fun z=>AP (look σ.t (pos*16)=none) (OZ (List.replicate n.toNat z) fun rows=>K ((σ.put dst (.own (pos*16))).setT (pos*16) ⟨rows,some (tsz P e),0,q⟩)))))
 |_,_=>False
@[go_sem] theorem ll {pos} {e} {n m} {dst}:mkX P pos e (.int .i64 n) (.int .i64 m) dst σ K=AP (leX n m) (AP (0≤n∧m.toNat*P.bytesOf e≤281474976710656∧m≤4611686018427387904) (AP (0<tsz P e∧(tz P e).length =tsz P e) (zX fun q=>optX (zDs q (tz P e)) fun z=>AP (look σ.t (pos*16)=none) (OZ (List.replicate n.toNat z) fun j=>K ((σ.put dst (.own (pos*16))).setT (pos*16) ⟨j,some (tsz P e),0,q⟩))))):=rfl
theorem dd {dst} {v} {n} {tk}:σ.add dst ⟨v,[(n,tk)],[]⟩=(σ.put dst v).setT n tk:=by cases dst <;> rfl
theorem Zg {pos:Nat} {dst:Option Tmp} {t:TypeId} {l c:Operand}:opX P pos dst (.makeSlice t l c) σ K=slX (ti P t) fun e=>mkX P pos e (σ.e l) (σ.e c) dst σ K:=by
 rw [Uh (fun _=>by rfl)]
 simp only [Ev,slX,mkX]
 generalize ti P t=q
 cases q with
 | sl e=>
  generalize σ.e l=u
  generalize σ.e c=v
  split
  ·rename_i p n m h1
   cases h1
   simp only [mq,AP,optX,zX,In]
   refine propext ⟨?_,?_⟩
   ·rintro ⟨r,⟨k1,k2,k3,k4,k5,k6,q,z,k7,rfl⟩,k8,-,j⟩
    exact⟨k1,⟨k2,k3,k4⟩,⟨k5,k6⟩,q,z,k7,k8.1,by rw [← dd]; exact j⟩
   ·rintro ⟨k1,⟨k2,k3,k4⟩,⟨k5,k6⟩,q,z,k7,k8,j⟩
    exact⟨⟨_,[(pos*16,⟨_,some (tsz P e),0,q⟩)],[]⟩,⟨k1,k2,k3,k4,k5,k6,q,z,k7,rfl⟩,⟨k8,trivial⟩,trivial,by rw [dd]; exact j⟩
  grind
 |_=>simp
def W4 (P:Program) (L:Bool) (pos:Nat) (f:FuncId) (args:List AV) (as:Option (List AV)) (dst:Option Tmp) (σ:St) (K:St→Prop) (_:Wrap L):Prop:=
 ((∃bs rv,as=some bs∧AC P f bs rv∧CY σ (conv (pos*16) rv).2 ∧K (σ.add dst ⟨(conv (pos*16) rv).1,(conv (pos*16) rv).2,[]⟩))∨
  ∃bs rv qt qb,AG P f bs [] [] rv qt qb∧cls (fun _=>none) (fun _=>none) args=some bs∧((qt=[] ∧WM rv=true∧K (σ.add dst ⟨rv,[],[]⟩))∨(∃q tk,qt=[(q,tk)] ∧rv= .own q∧tk.gen=0∧look σ.t (pos*16)=none∧K (σ.add dst ⟨.own (pos*16),[(pos*16,tk)],[]⟩))∨(∃q k,rv= .box q k)∧K (σ.add dst ⟨.rop [] 0,[],[]⟩)))∨
 (L=true∧c9 P f args σ fun v σ'=>K (σ'.put dst v))
@[go_sem] theorem rP:Nl [] =true:=rfl
@[go_sem] theorem rQ {fs cs}:Nl (.agg fs::cs)=true:=rfl
@[go_sem] theorem uJ {as}:fnA [] as=as:=List.append_nil as
@[go_sem] theorem uK {fs cs as}:fnA (.agg fs::cs) as=fs++(as++cs):=rfl
def clX (P:Program) (L:Bool) (pos:Nat) (g:AV) (args:List AV) (dst:Option Tmp) (σ:St) (K:St→Prop) (w:Wrap L):Prop:=match g with
 | .fn f caps=>Nl caps=true∧W4 P L pos f (fnA caps args) (cls σ.T σ.B (fnA caps args)) dst σ K w
 |_=>False
@[go_sem] theorem oQ {L} {wL} {pos} {f} {caps args} {dst}:clX P L pos (.fn f caps) args dst σ K wL=AP (Nl caps=true) (Ar (fnA caps args) fun vs=>Ar (cls σ.T σ.B vs) fun r=>W4 P L pos f vs r dst σ K wL):=rfl
theorem oR {L} {wL} {pos} {dst} {g} {args} {ts}:opL P L pos dst (.call ⟨.value g,args.toArray,ts⟩) σ K wL=clX P L pos (σ.e g) (evs σ args) dst σ K wL:=by
 have h1:opX P pos dst (.call ⟨.value g,args.toArray,ts⟩) σ K=match σ.e g with
   | .fn f caps=>Nl caps=true∧((∃bs j,cls σ.T σ.B (fnA caps (evs σ args))=some bs∧AC P f bs j∧CY σ (conv (pos*16) j).2 ∧K (σ.add dst ⟨(conv (pos*16) j).1,(conv (pos*16) j).2,[]⟩))∨
     ∃bs j C F,AG P f bs [] [] j C F∧cls (fun _=>none) (fun _=>none) (fnA caps (evs σ args))=some bs∧((C=[] ∧WM j=true∧K (σ.add dst ⟨j,[],[]⟩))∨(∃q tk,C=[(q,tk)] ∧j= .own q∧tk.gen=0∧look σ.t (pos*16)=none∧K (σ.add dst ⟨.own (pos*16),[(pos*16,tk)],[]⟩))∨(∃q k,j= .box q k)∧K (σ.add dst ⟨.rop [] 0,[],[]⟩)))
   |_=>False:=by
  rw [Uh (fun _=>by rfl)]
  simp only [Ev,Tk,Xn]
  generalize σ.e g=v
  split
  ·refine propext ⟨?_,?_⟩
   ·rintro ⟨r,⟨ho,h1⟩,h2,-,u⟩
    refine⟨ho,?_⟩
    rcases h1 with h1|h1
    ·grind
    ·obtain⟨as,j,C,F,G,I,p⟩:=h1
     rcases p with ⟨p,h8,rfl⟩|⟨q,tk,p,h8,h9,rfl⟩|⟨p,rfl⟩
     ·grind
     ·exact .inr ⟨as,j,C,F,G,I,.inr (.inl ⟨q,tk,p,h8,h9,h2.1,u⟩)⟩
     grind
   ·rintro ⟨ho,h⟩
    rcases h with (⟨bs,j,h1,G,h2,u⟩|⟨bs,j,C,F,G,I,⟨p,h8,u⟩|⟨q,tk,p,h8,h9,h2,u⟩|⟨p,u⟩⟩)
    ·exact⟨⟨(conv (pos*16) j).1,(conv (pos*16) j).2,[]⟩,⟨ho,.inl (by rw [h1]; grind)⟩,h2,trivial,u⟩
    ·exact⟨⟨j,[],[]⟩,⟨ho,.inr ⟨bs,j,C,F,G,I,.inl ⟨p,h8,rfl⟩⟩⟩,trivial,trivial,u⟩
    ·exact⟨⟨.own (pos*16),[(pos*16,tk)],[]⟩,⟨ho,.inr ⟨bs,j,C,F,G,I,.inr (.inl ⟨q,tk,p,h8,h9,rfl⟩)⟩⟩,⟨h2,trivial⟩,trivial,u⟩
    ·exact⟨⟨.rop [] 0,[],[]⟩,⟨ho,.inr ⟨bs,j,C,F,G,I,.inr (.inr ⟨p,rfl⟩)⟩⟩,trivial,trivial,u⟩
  ·simp
 have h2:opL P L pos dst (.call ⟨.value g,args.toArray,ts⟩) σ K wL=(opX P pos dst (.call ⟨.value g,args.toArray,ts⟩) σ K∨(L=true∧MM P ⟨dst,.call ⟨.value g,args.toArray,ts⟩,0, "",#[],none⟩ σ K)):=by
  have h3:Tq σ ⟨dst,.call ⟨.value g,args.toArray,ts⟩,0, "",#[],none⟩=false:=rfl
  grind [PJ,SliK,opL,Ts,opX]
 rw [h2,h1]
 grind [clX,W4,MM,Xn]
@[go_sem] theorem wY {T:Nat→Option Tok} {B:Nat→Option (List AV)} {t}:toA T B (.own t)=(T t).map fun tk=>.ro tk.rd:=rfl
@[go_sem] theorem uL {T:Nat→Option Tok} {B:Nat→Option (List AV)}:toA T B .nils =some (.ro []):=rfl
@[go_sem] theorem wZ {T:Nat→Option Tok} {B:Nat→Option (List AV)} {k} {n}:toA T B (.int k n)=some (.int k n):=rfl
@[go_sem] theorem uM {T:Nat→Option Tok} {B:Nat→Option (List AV)} {b}:toA T B (.bool b)=some (.bool b):=rfl
@[go_sem] theorem wa {T:Nat→Option Tok} {B:Nat→Option (List AV)} {s}:toA T B (.str s)=some (.str s):=rfl
@[go_sem] theorem yM {T:Nat→Option Tok} {B:Nat→Option (List AV)} {r}:toA T B (.ro r)=some (.ro r):=rfl
@[go_sem] theorem uN {T:Nat→Option Tok} {B:Nat→Option (List AV)}:toA T B .nilp =some .nilp :=rfl
@[go_sem] theorem wc {T:Nat→Option Tok} {B:Nat→Option (List AV)} {vs} {o}:toA T B (.rop vs o)=if BR vs=true then some (.rop vs o) else none:=rfl
@[go_sem] theorem yN {T:Nat→Option Tok} {B:Nat→Option (List AV)} {f} {vs}:toA T B (.fn f vs)=if BR vs=true then some (.fn f vs) else none:=rfl
@[go_sem] theorem wd {T:Nat→Option Tok} {B:Nat→Option (List AV)} {b}:toA T B (.mpr b)=some .any :=rfl
@[go_sem] theorem wg {T:Nat→Option Tok} {B:Nat→Option (List AV)} {t g} {p}:toA T B (.sub t g p)=(subE T t g p).map .ro :=rfl
@[go_sem] theorem wh {T:Nat→Option Tok} {B:Nat→Option (List AV)} {b n sz}:toA T B (.bsl b n sz)=match B b with
  |some vs=>match toDs T vs with
   |some ds=>if ds.length=n*sz then some (.ro (Ax sz n ds)) else none
   |none=>none
  |none=>none:=rfl
@[go_sem] theorem wi {T:Nat→Option Tok} {B:Nat→Option (List AV)}:toA T B .any =none:=rfl
@[go_sem] theorem wj {T:Nat→Option Tok} {B:Nat→Option (List AV)} {b o}:toA T B (.box b o)=none:=rfl
@[go_sem] theorem wl {T:Nat→Option Tok} {B:Nat→Option (List AV)} {t z i o}:toA T B (.elt t z i o)=none:=rfl
@[go_sem] theorem wm {T:Nat→Option Tok} {B:Nat→Option (List AV)} {t g} {p} {z i o}:toA T B (.els t g p z i o)=none:=rfl
@[go_sem] theorem wn {T:Nat→Option Tok} {B:Nat→Option (List AV)} {t z i n}:toA T B (.par t z i n)=none:=rfl
@[go_sem] theorem wo {T:Nat→Option Tok} {B:Nat→Option (List AV)} {vs}:toA T B (.agg vs)=none:=rfl
@[go_sem] theorem wq {T:Nat→Option Tok} {B:Nat→Option (List AV)} {vs}:toA T B (.tup vs)=none:=rfl
@[go_sem] theorem wt {T:Nat→Option Tok} {B:Nat→Option (List AV)} {q} {r}:toA T B (.mpc q r)=none:=rfl
@[go_sem] theorem wu {T:Nat→Option Tok} {k} {n}:toD T (.int k n)=some (.int k n):=rfl
@[go_sem] theorem uO {T:Nat→Option Tok} {b}:toD T (.bool b)=some (.bool b):=rfl
@[go_sem] theorem wv {T:Nat→Option Tok} {s}:toD T (.str s)=some (.str s):=rfl
@[go_sem] theorem yO {T:Nat→Option Tok} {r}:toD T (.ro r)=some (.sl r):=rfl
@[go_sem] theorem uP {T:Nat→Option Tok}:toD T .nils =some (.sl []):=rfl
@[go_sem] theorem ww {T:Nat→Option Tok} {t}:toD T (.own t)=(T t).map fun tk=>.sl tk.rd:=rfl
@[go_sem] theorem uQ {T:Nat→Option Tok}:toD T .nilp =some .nilp :=rfl
@[go_sem] theorem wx {T:Nat→Option Tok} {vs} {o}:toD T (.rop vs o)=unD (.rop vs o):=rfl
@[go_sem] theorem wy {T:Nat→Option Tok}:toD T .any =none:=rfl
@[go_sem] theorem wz {T:Nat→Option Tok} {b o}:toD T (.box b o)=none:=rfl
@[go_sem] theorem w7 {T:Nat→Option Tok} {b n z}:toD T (.bsl b n z)=none:=rfl
@[go_sem] theorem w8 {T:Nat→Option Tok} {t z i o}:toD T (.elt t z i o)=none:=rfl
@[go_sem] theorem w9 {T:Nat→Option Tok} {t g} {p}:toD T (.sub t g p)=none:=rfl
@[go_sem] theorem xA {T:Nat→Option Tok} {t g} {p} {z i o}:toD T (.els t g p z i o)=none:=rfl
@[go_sem] theorem xB {T:Nat→Option Tok} {t z i n}:toD T (.par t z i n)=none:=rfl
@[go_sem] theorem yP {T:Nat→Option Tok} {f} {vs}:toD T (.fn f vs)=none:=rfl
@[go_sem] theorem xC {T:Nat→Option Tok} {vs}:toD T (.agg vs)=none:=rfl
@[go_sem] theorem xD {T:Nat→Option Tok} {vs}:toD T (.tup vs)=none:=rfl
@[go_sem] theorem xE {T:Nat→Option Tok} {b}:toD T (.mpr b)=none:=rfl
@[go_sem] theorem xF {T:Nat→Option Tok} {q} {r}:toD T (.mpc q r)=none:=rfl
attribute [go_sem] cl cls toDs toAs BC BR Option.map_some Option.map_none
theorem lm {pos} {f} {args bs} {dst} {rv} (h:AC P f bs rv) (hf:CY σ (conv (pos*16) rv).2) (hk:K (σ.add dst ⟨(conv (pos*16) rv).1,(conv (pos*16) rv).2,[]⟩)) {L} {wL}:W4 P L pos f args (some bs) dst σ K wL:=
 .inl (.inl ⟨bs,rv,rfl,h,hf,hk⟩)
@[go_sem] theorem oS:CY σ [] =True:=rfl
@[go_sem] theorem m9 {n} {tk} {l}:CY σ ((n,tk)::l)=(look σ.t n=none∧CY σ l):=rfl
attribute [go_sem] conv G0 addT addB
@[go_sem] theorem rR {s t b} {d} {r}:St.add ⟨s,t,b⟩ (some d) r=⟨(d,r.v)::s,addT t r.t,addB b r.b⟩:=rfl
@[go_sem] theorem rS {s t b} {r}:St.add ⟨s,t,b⟩ none r=⟨s,addT t r.t,addB b r.b⟩:=rfl
section
variable {z:ZK}
@[go_sem] theorem ln {K}:A6 z [] σ K=K [] σ:=by rw [A6]
@[go_sem] theorem lo {k} {n} {vs} {K}:A6 z (.int k n::vs) σ K=A6 z vs σ fun j σ'=>K (.int k n::j) σ':=by rw [A6]
@[go_sem] theorem lp {s} {vs} {K}:A6 z (.str s::vs) σ K=A6 z vs σ fun j σ'=>K (.str s::j) σ':=by rw [A6]
@[go_sem] theorem it {vs} {K}:A6 z (.nils ::vs) σ K=A6 z vs σ fun j σ'=>K (EQ z::j) σ':=by rw [A6]
@[go_sem] theorem xG:EQ .no = .sl [] :=rfl
@[go_sem] theorem xH:EQ .yes = .fz [] :=rfl
@[go_sem] theorem xI:EQ .nl = .nl :=rfl
@[go_sem] theorem oU {rows} {vs} {K}:A6 z (.ro rows::vs) σ K=AP (z= .yes) (A6 z vs σ fun j σ'=>K (.fz rows::j) σ'):=by rw [A6]; rfl
@[go_sem] theorem lq {b n sz} {vs} {K}:A6 z (.bsl b n sz::vs) σ K=if n=0 then A6 z vs σ fun p σ'=>K (EQ z::p) σ' else eO z b n sz σ fun j σ1=>A6 z vs σ1 fun p σ'=>K (.sl j::p) σ':=by rw [A6]
@[go_sem ↓] theorem uR {b n sz} {K}:eO z b n sz σ K=AP (1000≤b) (AP (0<sz) (optX (σ.B b) fun vs=>optX (KP z vs) fun p=>AP (p.length=n*sz) (Ar (Ax sz n p) fun j=>K j (σ.killB b)))):=rfl
@[go_sem] theorem rT {s t b} {x}:St.killB ⟨s,t,b⟩ x=⟨s,t,(x,none)::b⟩:=rfl
attribute [go_sem] OD litD KP unD unDs
@[go_sem] theorem lr {t} {vs} {K}:A6 z (.own t::vs) σ K=optX (σ.T t) fun tk=>AP (okZ z tk=true) (A6 z vs (σ.killT t) fun j σ'=>K (.sl tk.rows::j) σ'):=by rw [A6]; rfl
end
def stX (P:Program) (t:TypeId) (a:AV) (cs:Option (List AV)) (σ:St) (K:St→Prop):Prop:=
 optX cs fun cs=>AP (cs.length=tsz P t∧0<tsz P t∧cs.all AV.one=true) (match a with
  | .box b off=>∃vs,σ.B b=some vs∧isMp vs=false∧off+cs.length≤vs.length∧K (σ.setB b (splice vs off cs))
  | .elt t' sz i off=>∃tk0,σ.T t'=some tk0∧A6 tk0.z cs σ fun ds σ'=>∃tk row,(σ'.T t'=some tk∧tk.z=tk0.z)∧tk.rows[i]? =some row∧row.length=sz∧off+ds.length≤sz∧K (σ'.setT t' ⟨tk.rows.set i (splice row off ds),tk.sz,if EB row off ds=true then tk.gen else tk.gen+1,tk.z⟩)
  | .els t' g p sz i off=>A6 .no cs σ fun ds σ'=>∃rows,subR σ'.T t' g p=some rows∧∃row,rows[i]? =some row∧(p≠ [] ∧row.length=sz∧off+ds.length≤sz∧EB row off ds=true)∧∃tk,σ'.T t'=some tk∧K (σ'.setT t' ⟨putR p tk.rows (.sl (rows.set i (splice row off ds))),tk.sz,tk.gen,tk.z⟩)
  |_=>False)
theorem lw {pos} {dst} {t} {a x}:opX P pos dst (.store t a x) σ K=stX P t (σ.e a) (cellsOf (σ.e x)) σ fun σ'=>K (σ'.put dst .any):=by
 grind [opX,aop,OE,stX,Iy,AP,W1]
@[go_sem] theorem de {t} {b off} {cs}:stX P t (.box b off) (some cs) σ K=AP (cs.length=tsz P t∧0<tsz P t∧cs.all AV.one=true) (optX (σ.B b) fun vs=>AP (isMp vs=false) (AP (off+cs.length≤vs.length) (Ar (splice vs off cs) fun j=>K (σ.setB b j)))):=by
 rw [stX,Iy]; rfl
@[go_sem] theorem lx {t:TypeId} {t' sz i off:Nat} {cs:List AV}:stX P t (.elt t' sz i off) (some cs) σ K=AP (cs.length=tsz P t∧0<tsz P t∧cs.all AV.one=true) (optX (σ.T t') fun p=>A6 p.z cs σ fun q σ'=>optX (σ'.T t') fun tk=>AP (tk.z=p.z) (optX tk.rows[i]? fun j=>AP (j.length=sz∧off+q.length≤sz) (OZ (tk.rows.set i (splice j off q)) fun rows=>K (σ'.setT t' ⟨rows,tk.sz,if EB j off q=true then tk.gen else tk.gen+1,tk.z⟩)))):=by
 rw [stX,Iy]
 grind [AP,optX,In]
section
variable {z:ZK}
@[go_sem] theorem fo {e} {sz} {K}:Tl z e sz .nils σ K=K [] σ:=rfl
@[go_sem] theorem iu {e} {sz b n sz'} {K}:Tl z e sz (.bsl b n sz') σ K=if n=0 then K [] σ else AP (sz'=sz) (eO z b n sz σ K):=rfl
@[go_sem] theorem iw {e} {sz t} {K}:Tl z e sz (.own t) σ K=optX (σ.T t) fun tk=>AP (tk.sz=some sz∧okZ z tk=true) (K tk.rows (σ.killT t)):=rfl
@[go_sem] theorem ft {sz} {K}:OF z sz .nils σ K=K [] σ:=rfl
@[go_sem] theorem ix {sz b n sz'} {K}:OF z sz (.bsl b n sz') σ K=optX (σ.B b) fun vs=>AP (sz'=sz∧vs.length=n*sz∧vs.all AV.one=true) (A6 z vs σ fun p σ'=>Ar (Ax sz n p) fun j=>K j σ'):=by
 simp only [OF,optX,AP,Ar]
 grind
@[go_sem] theorem ly {sz} {rows} {K}:OF .no sz (.ro rows) σ K=AP (∀row ∈ rows,row.length=sz∧∀d ∈ row,d.flat=true) (K rows σ):=rfl
@[go_sem] theorem rU {sz} {rows} {K}:OF .nl sz (.ro rows) σ K=AP (∀row ∈ rows,row.length=sz∧∀d ∈ row,d.flat=true) (K rows σ):=rfl
@[go_sem] theorem iy {sz:Nat} {rows:List (List D)} {K:List (List D)→St→Prop}:OF .yes sz (.ro rows) σ K=AP (∀row ∈ rows,row.length=sz∧∀d ∈ row,d≠ .gone) (OZ (fzR rows) fun r=>K r σ):=by
 grind [OF,AP,In]
end
attribute [go_sem] Ax
def apX (P:Program) (pos:Nat) (e:TypeId) (x y:AV) (dst:Option Tmp) (σ:St) (K:St→Prop):Prop:=
 AP (0<tsz P e∧(tz P e).length =tsz P e) (zX fun z=>Tl z e (tsz P e) x σ fun rows σ1=>OF z (tsz P e) y σ1 fun rows2 σ2=>
   AP ((rows.length+rows2.length)*P.bytesOf e≤140737488355328∧rows.length+rows2.length≤maxLen) (AP (look σ2.t (pos*16)=none) (K ((σ2.setT (pos*16) ⟨rows++rows2,some (tsz P e),0,z⟩).put dst (.own (pos*16))))))
theorem iz {pos} {dst} {x y} {t}:opX P pos dst (.call ⟨.builtin .append,List.toArray [x,y],List.toArray [t,t]⟩) σ K=slX (ti P t) fun e=>apX P pos e (σ.e x) (σ.e y) dst σ K:=by
 unfold opX
 simp only [aop,au,slX,true_and]
 generalize ti P t=q
 split
 ·rename_i e
  show (0<tsz P e∧(tz P e).length =tsz P e∧_)=((0<tsz P e∧(tz P e).length =tsz P e)∧_)
  rw [and_assoc]
  congr 1
  congr 1
  show (∃z,_)=(∃z,_)
  congr 1
  funext z
  congr 1
  funext rows σ1
  congr 1
  funext rows2 σ2
  show (_∧_∧_∧_)=((_∧_)∧_∧_)
  rw [and_assoc]
 grind
end
attribute [go_sem ↓] oP
attribute [go_sem ↓] oO lc lg lh ir ll oQ ln lo lp it oU lq lr de lx fo iu iw ft ix ly iy
section
variable {P:Program} {σ:St} {K:St→Prop} {Q:AE→St→Prop}
@[go_sem] theorem oV {n} (h1: -9223372036854775808≤n) (h2:n≤9223372036854775807):IntKind.i64.wrap n=n:=Go.IntWalk.i64_in n ⟨h1,h2⟩
@[go_sem ↓] theorem rV {K}:NZ P σ [] K=K [] :=rfl
@[go_sem ↓] theorem rW {t} {l} {K}:NZ P σ (.tmp t::l) K=Ar (σ.g t) fun v=>NZ P σ l fun vs=>K (v::vs):=rfl
@[go_sem ↓] theorem pm {a} {t} {l} {K}:NZ P σ (.cell a t::l) K=Pg P t (σ.g a) σ fun v=>NZ P σ l fun vs=>K (v::vs):=rfl
@[go_sem] theorem lz {k} {n m}:Cy (.int k n) (.int k m) σ K=AP (n=m) (K σ):=by simp [Cy,AP]
@[go_sem] theorem i1 {b c}:Cy (.bool b) (.bool c) σ K=AP (b=c) (K σ):=by rfl
@[go_sem] theorem l0 {s s'}:Cy (.str s) (.str s') σ K=AP (s=s') (K σ):=by rfl
@[go_sem] theorem i6:Cy .nilp .nilp σ K=K σ:=by rfl
@[go_sem] theorem i7 {ap} {rows}:Cy .nils (.ow ap rows) σ K=AP (rows=[]) (K σ):=by rfl
@[go_sem] theorem l5 {b n sz} {ap} {rows}:Cy (.bsl b n sz) (.ow ap rows) σ K=AP (n=0) (AP (rows=[]) (K σ)):=by rfl
@[go_sem] theorem l6 {t} {ap} {rows}:Cy (.own t) (.ow ap rows) σ K=optX (σ.T t) fun tk=>AP (tk.rows=rows) (AP (ap=none∨tk.sz=ap) (AP (tk.z= .no) (K (σ.killT t)))):=by rfl
@[go_sem] theorem l7 {rows rows'}:Cy (.ro rows) (.ro rows') σ K=AP (rows=rows') (K σ):=by rfl
@[go_sem] theorem uS {rows rows'}:Cy (.ro rows) (.ow none rows') σ K=AP (rows=[]) (AP (rows'=[]) (K σ)):=by simp [Cy,AP]
@[go_sem] theorem l8 {vs} {rs}:Cy (.agg vs) (.agg rs) σ K=KQ vs rs σ K:=by rfl
@[go_sem] theorem l9 {vs} {rs}:Cy (.tup vs) (.tup rs) σ K=KQ vs rs σ K:=by rfl
@[go_sem] theorem i8:KQ [] [] σ K=K σ:=by rfl
@[go_sem] theorem fu {v} {vs} {r} {rs}:KQ (v::vs) (r::rs) σ K=Cy v r σ fun σ'=>KQ vs rs σ' K:=by rfl
def fv (r:RV) (σ:St) (vs:List AV):Prop:=match vs with
 | [v] =>Cy v r σ fun _=>True
 |vs=>Cy (.tup vs) r σ fun _=>True
@[go_sem ↓] theorem uT {r}:fv r σ [] =Cy (.tup []) r σ fun _=>True:=rfl
@[go_sem ↓] theorem uU {r} {v}:fv r σ [v] =Cy v r σ fun _=>True:=rfl
@[go_sem ↓] theorem uV {r} {v u} {vs}:fv r σ (v::u::vs)=Cy (.tup (v::u::vs)) r σ fun _=>True:=rfl
def endX (P:Program) (l:List ResultVar) (r:RV) (q:AE) (σ:St):Prop:=match q with| .exit _=>False|_=>NZ P σ l (fv r σ)
@[go_sem ↓] theorem oW {l} {r}:endX P l r .normal σ=NZ P σ l (fv r σ):=rfl
@[go_sem ↓] theorem uW {l} {r}:endX P l r .ret σ=NZ P σ l (fv r σ):=rfl
theorem rX (hm:P.follows .mixedOrders =true) {f} {fn} {c} {l} {args} {r} (hf:P.funcs[f]? =some fn) (hb:fn.body=some c) (hr:fn.results=l.toArray) (hnm:(fn.name == "runtime.NumGoroutine")=false)
  (hn:decide (args.length≤fn.ntmps)=true) (hok:GH fn.ntmps c=true) (h:awp P c (endX P l r) (st0 args)):AC P f args r:=by
 refine bU hm hf hb hnm (of_decide_eq_true hn) hok ?_
 have e:endQ P fn.results.toList r=endX P l r:=by
  rw [hr]
  funext q σ
  cases q <;> rfl
 rw [e]
 exact h
attribute [go_sem] st0 UX
def jA {X:Type} (R:X→Prop) (inv:X→St) (μ:X→Nat) (x:X) (σ:St):Prop:=∃x',kQ σ (inv x')∧R x'∧μ x'<μ x
def oX {X:Type} (R:X→Prop) (inv:X→St) (μ:X→Nat) (x:X) (σ:St) (_:Wrap R) (_:Wrap inv) (_:Wrap μ) (_:Wrap x):Prop:=jA R inv μ x σ
@[go_sem ↓] theorem pn {X:Type} {R:X→Prop} {inv:X→St} {μ:X→Nat} {x:X} {σ:St}:jA R inv μ x σ=oX R inv μ x σ ⟨⟩ ⟨⟩ ⟨⟩ ⟨⟩:=rfl
attribute [go_sem] JD Yu Tt Tu ren rens FD GG List.nodup_nil List.all_nil List.all_cons AV.int.injEq AV.bool.injEq AV.str.injEq AV.ro.injEq AV.rop.injEq AV.agg.injEq AV.fn.injEq AV.own.injEq AV.box.injEq AV.bsl.injEq AV.elt.injEq List.cons.injEq Tok.mk.injEq Option.isSome_some exists_eq_left' exists_eq_left
end
attribute [go_sem ↓] lz i1 l0 i6 i7 l5 l6 l7 l8 l9 i8 fu
section
variable {P:Program} {σ:St} {K:St→Prop} {pos:Nat} {dst:Option Tmp} {t t' s d:TypeId} {x y a b c g l:Operand} {f i:Nat} {op:BinOp}
def slY (t:TI) (K:TypeId→Prop) (_:Wrap K):Prop:=slX t K
@[go_sem ↓] theorem xJ {t} {K}:slX t K=slY t K ⟨⟩:=rfl
@[go_sem] theorem xK {e} {K} {w}:slY (.sl e) K w=K e:=rfl
def nA (t:TI) (K:IntKind→Prop) (_:Wrap K):Prop:=Zc t K
@[go_sem ↓] theorem rY {t} {K}:Zc t K=nA t K ⟨⟩:=rfl
@[go_sem] theorem po {k} {K} {w}:nA (.int k) K w=K k:=rfl
def stY (P:Program) (t:TI) (K:List (Nat × TypeId)→Prop) (_:Wrap K):Prop:=Zf P t K
@[go_sem ↓] theorem xL {t} {K}:Zf P t K=stY P t K ⟨⟩:=rfl
@[go_sem] theorem xM {fs} {K} {w}:stY P (.st fs) K w=K fs:=rfl
@[go_sem] theorem uX {n} {el} {K} {w}:stY P (.arr n el) K w=AP (0<tsz P el) (Ar (MK (tsz P el) el n 0) K):=rfl
def jB (rows:List (List D)) (n:Int) (sz:Nat) (K:List D→Prop) (_:Wrap K):Prop:=fh rows n sz K
@[go_sem ↓] theorem uY {rows} {n} {sz} {K}:fh rows n sz K=jB rows n sz K ⟨⟩:=rfl
def oY {α:Type} (v:α) (K:α→Prop) (_:Wrap K):Prop:=OZ v K
@[go_sem ↓] theorem uZ {α:Type} {v:α} {K:α→Prop}:OZ v K=oY v K ⟨⟩:=rfl
theorem A4 {α:Type} {v} {K} {w} (y:α) (h:v=y) (hk:K y):oY v K w:=⟨y,h,hk⟩
theorem jC {P:Program} {σ:St} {K:St→Prop} {t} {b o s:Nat} {n:Int} {cs}:stX P t (.box b (o+Int.toNat n*s)) (some cs) σ K=AP (cs.length=tsz P t∧0<tsz P t∧cs.all AV.one=true) (optX (σ.B b) fun vs=>AP (isMp vs=false) (AP (o+Int.toNat n*s+cs.length≤vs.length) (OZ (splice vs (o+Int.toNat n*s) cs) fun j=>K (σ.setB b j)))):=by
 rw [de]; simp only [In]; rfl
attribute [go_sem ↓ high] jC
def KE (n:Nat) (rs:List RV) (K:List AV→List (Nat × Tok)→Prop) (_:Wrap K):Prop:=K (G0 n rs).1 (G0 n rs).2
def cv1 (n:Nat) (r:RV) (K:AV→List (Nat × Tok)→Prop):Prop:=K (conv n r).1 (conv n r).2
section
variable {n:Nat} {rs us:List RV} {L:List AV→List (Nat × Tok)→Prop} {L1:AV→List (Nat × Tok)→Prop} {w:Wrap L}
@[go_sem] theorem mA:KE n [] L w=L [] [] :=rfl
@[go_sem] theorem mB {k} {x}:KE n (.int k x::rs) L w=KE n rs (fun vs ts=>L (.int k x::vs) ts) ⟨⟩:=by rfl
@[go_sem] theorem jD {b}:KE n (.bool b::rs) L w=KE n rs (fun vs ts=>L (.bool b::vs) ts) ⟨⟩:=by rfl
@[go_sem] theorem mC {x}:KE n (.str x::rs) L w=KE n rs (fun vs ts=>L (.str x::vs) ts) ⟨⟩:=by rfl
@[go_sem] theorem oZ {x}:KE n (.ro x::rs) L w=KE n rs (fun vs ts=>L (.any ::vs) ts) ⟨⟩:=by rfl
@[go_sem] theorem jE:KE n (.nilp ::rs) L w=KE n rs (fun vs ts=>L (.nilp ::vs) ts) ⟨⟩:=by rfl
@[go_sem] theorem oa {ap} {x}:KE n (.ow ap x::rs) L w=KE (n+1) rs (fun vs ts=>L (.own n::vs) ((n,⟨x,ap,0,.no⟩)::ts)) ⟨⟩:=by rfl
@[go_sem] theorem mD:KE n (.agg us::rs) L w=KE n us (fun p ts=>KE (n+ts.length) rs (fun vs j=>L (.agg p::vs) (ts++j)) ⟨⟩) ⟨⟩:=by rfl
@[go_sem] theorem mE:KE n (.tup us::rs) L w=KE n us (fun p ts=>KE (n+ts.length) rs (fun vs j=>L (.tup p::vs) (ts++j)) ⟨⟩) ⟨⟩:=by rfl
@[go_sem ↓] theorem ua {k} {x}:cv1 n (.int k x) L1=L1 (.int k x) [] :=rfl
@[go_sem ↓] theorem rZ {b}:cv1 n (.bool b) L1=L1 (.bool b) [] :=rfl
@[go_sem ↓] theorem ub {x}:cv1 n (.str x) L1=L1 (.str x) [] :=rfl
@[go_sem ↓] theorem xN {x}:cv1 n (.ro x) L1=L1 .any [] :=rfl
@[go_sem ↓] theorem rc:cv1 n .nilp L1=L1 .nilp [] :=rfl
@[go_sem ↓] theorem xO {ap} {x}:cv1 n (.ow ap x) L1=L1 (.own n) [(n,⟨x,ap,0,.no⟩)] :=rfl
@[go_sem ↓] theorem uc:cv1 n (.agg us) L1=KE n us (fun j ts=>L1 (.agg j) ts) ⟨⟩:=by rfl
@[go_sem ↓] theorem ud:cv1 n (.tup us) L1=KE n us (fun j ts=>L1 (.tup j) ts) ⟨⟩:=by rfl
end
attribute [go_sem ↓] mA mB jD mC oZ jE oa mD mE
def Md (P:Program) (L:Bool) (pos:Nat) (f:FuncId) (args:List AV) (as:Option (List AV)) (dst:Option Tmp) (σ:St) (K:St→Prop) (_:Wrap K) (w:Wrap L):Prop:=W4 P L pos f args as dst σ K w
@[go_sem ↓] theorem rf {L} {wL} {f} {args} {as}:W4 P L pos f args as dst σ K wL=Md P L pos f args as dst σ K ⟨⟩ wL:=rfl
theorem AK {f} {args bs} {w} {rv} (h:AC P f bs rv) (hk:Ar (pos*16) fun m=>cv1 m rv fun v ts=>AP (CY σ ts) (K (σ.add dst ⟨v,ts,[]⟩))) {L} {wL}:Md P L pos f args (some bs) dst σ K w wL:=lm h hk.1 hk.2
theorem DR {f} {args bs} {w} {rv} {o} (h:AG P f bs [] [] rv [] []) (e:cls (fun _=>none) (fun _=>none) args=some bs) (hp:WM rv=true) (hk:K (σ.add dst ⟨rv,[],[]⟩)) {L} {wL}:Md P L pos f args o dst σ K w wL:=.inl (.inr ⟨bs,rv,[],[],h,e,.inl ⟨rfl,hp,hk⟩⟩)
theorem mF {f} {args bs} {w} {q} {rows} {sz} {z} {o} (h:AG P f bs [] [] (.own q) [(q,⟨rows,sz,0,z⟩)] []) (e:cls (fun _=>none) (fun _=>none) args=some bs) (hk:AP (look σ.t (pos*16)=none) (K (σ.add dst ⟨.own (pos*16),[(pos*16,⟨rows,sz,0,z⟩)],[]⟩))) {L} {wL}:Md P L pos f args o dst σ K w wL:=.inl (.inr ⟨bs,.own q,_,[],h,e,.inr (.inl ⟨q,_,rfl,rfl,rfl,hk.1,hk.2⟩)⟩)
attribute [go_sem] WM cz cy AV.isNils AV.aggN AV.tupN Bool.or_true Bool.true_or Bool.or_false Bool.false_or
def Zh (y:Way) (as:List AV) (pt:List (Nat × Tok)) (pb:List (Nat × List AV)) (qt:List (Nat × Tok)) (qb:List (Nat × List AV)):Bool:=
 decide (((y.rt++y.nt).map (·.2)).Nodup)&&decide (((y.rt++y.nt).map (·.1)).Nodup)&&decide (((y.rb.map (·.2.1))++y.nb.map (·.2)).Nodup)&&decide (((y.rb.map (·.1))++y.nb.map (·.1)).Nodup)&&
 (y.rt.all fun p=>(look pt p.1).isSome)&&(y.rb.all fun p=>(look pb p.1).isSome)&&(y.nt.all fun p=>(look pt p.1).isNone)&&(y.nb.all fun p=>(look pb p.1).isNone)&&decide ((pt.map (·.1)).Nodup)&&decide ((pb.map (·.1)).Nodup)&&
 (pb.all fun p=>(look qb p.1).isSome)&&ML y.rt y.cv&&(y.md||noZ qt)&&gu as pt pb&&(y.rt.all fun p=>decide (p.1 <1000)||(look qt p.1).isNone)
def Ui:List (Nat × Nat)→List (Nat × Option Tok)→Prop
 | [],_=>True
 |(_,n)::r,t=>look t n=none∧Ui r t
def Ph:List (Nat × Nat)→List (Nat × Option (List AV))→Prop
 | [],_=>True
 |(_,n)::r,t=>look t n=none∧Ph r t
def Zi (y:Way) (args as:List AV) (pt:List (Nat × Tok)) (pb:List (Nat × List AV)) (σ1:St):Prop:=
 Ui y.nt σ1.t∧Ph y.nb σ1.b∧Rz y.rt σ1 pt∧G1 y σ1 (σ1.less y) pb∧PasL y (σ1.less y) args as
theorem SJ {t}:∀ {l},Ui l t→∀p ∈ l,(look t p.2).isNone =true
 | [],_,p,h=>by cases h
 |(c,n)::l,hf,p,h=>by
  simp only [Ui] at hf
  rcases List.mem_cons.1 h with rfl|h
  ·rw [hf.1]; rfl
  ·exact SJ hf.2 p h
theorem Pi {t}:∀ {l},Ph l t→∀p ∈ l,(look t p.2).isNone =true
 | [],_,p,h=>by cases h
 |(c,n)::l,hf,p,h=>by
  simp only [Ph] at hf
  rcases List.mem_cons.1 h with rfl|h
  ·rw [hf.1]; rfl
  ·exact Pi hf.2 p h
theorem Zj {f} {args} {σ} {as} {pt} {pb} {r} {qt} {qb} {K} (y:Way) (h:AG P f as pt pb r qt qb) (hB:Zh y as pt pb qt qb=true)
  (hc:B5 y.cv σ fun σ1=>AP (Zi y args as pt pb σ1) (BM y.cv (σ1.after y qt qb) fun σ2=>K (bak y r) σ2)):WP P f args σ K:=by
 refine⟨y,as,pt,pb,r,qt,qb,h,JN (fun σ1 h=>?_) hc⟩
 unfold Zh at hB
 simp only [Bool.and_eq_true,decide_eq_true_eq,and_assoc] at hB
 obtain⟨b1,b2,I,U,W,O,F,G,Y,q,u,C,bm,j,v⟩:=hB
 obtain⟨⟨h1,h2,h3,J,h5⟩,h6⟩:=h
 refine⟨⟨b1,b2,I,U,W,O,?_,?_,Y,q⟩,h3,J,h5,u,⟨C,bm⟩,j,v,h6⟩
 ·rw [List.all_eq_true] at F ⊢
  intro p hp
  rw [F p hp,SJ h1 p hp]; rfl
 ·rw [List.all_eq_true] at G ⊢
  intro p hp
  rw [G p hp,Pi h2 p hp]; rfl
theorem ob {L} {wL} {f} {args} {o} {w} {as} {pt} {pb} {r} {qt} {qb} (y:Way) (hL:L=true) (h:AG P f as pt pb r qt qb) (hB:Zh y as pt pb qt qb=true)
  (hc:B5 y.cv σ fun σ1=>AP (Zi y args as pt pb σ1) (BM y.cv (σ1.after y qt qb) fun σ2=>K (σ2.put dst (bak y r)))):Md P L pos f args o dst σ K w wL:=.inr ⟨hL,[],Zj (K:=fun v σ'=>K (σ'.put dst v)) y h hB hc⟩
theorem oc {L} {wL} {f} {j} {o} {w} {as} {pt} {pb} {r} {qt} {qb} (bs:List Nat) (y:Way) (hL:L=true) (h:AG P f as pt pb r qt qb) (hB:Zh y as pt pb qt qb=true)
  (p:FzK bs j σ fun j σ=>B5 y.cv σ fun σ1=>AP (Zi y j as pt pb σ1) (BM y.cv (σ1.after y qt qb) fun σ2=>K (σ2.put dst (bak y r)))):Md P L pos f j o dst σ K w wL:=.inr ⟨hL,bs,UZ (fun j σ p=>Zj (K:=fun v σ'=>K (σ'.put dst v)) y h hB p) p⟩
@[go_sem ↓] theorem ue {args} {K}:FzK [] args σ K=K args σ:=rfl
@[go_sem ↓] theorem rg {b} {r} {args} {s} {t} {bb} {K}:FzK (b::r) args ⟨s,t,bb⟩ K=optX ((look bb b).join) fun vs=>AP (1000≤b∧isMp vs=false) (Ar (args.map (fzA b vs)) fun j=>FzK r j ⟨s,t,(b,none)::bb⟩ K):=rfl
section
variable {b:Nat} {vs:List AV}
@[go_sem] theorem uf {x n sz}:fzA b vs (.bsl x n sz)=(cl (fun _=>none) (only b vs) (.bsl x n sz)).getD (.bsl x n sz):=rfl
@[go_sem] theorem ug {x off}:fzA b vs (.box x off)=(cl (fun _=>none) (only b vs) (.box x off)).getD (.box x off):=rfl
@[go_sem] theorem ui {us}:fzA b vs (.agg us)=(cl (fun _=>none) (only b vs) (.agg us)).getD (.agg us):=rfl
@[go_sem] theorem uj {k} {n}:fzA b vs (.int k n)= .int k n:=rfl
@[go_sem] theorem rh {x}:fzA b vs (.bool x)= .bool x:=rfl
@[go_sem] theorem uk {x}:fzA b vs (.str x)= .str x:=rfl
@[go_sem] theorem xP {x}:fzA b vs (.ro x)= .ro x:=rfl
@[go_sem] theorem um {x}:fzA b vs (.own x)= .own x:=rfl
@[go_sem] theorem uo {x} {off}:fzA b vs (.rop x off)= .rop x off:=rfl
@[go_sem] theorem up {t sz i off}:fzA b vs (.elt t sz i off)= .elt t sz i off:=rfl
@[go_sem] theorem xQ {f} {x}:fzA b vs (.fn f x)= .fn f x:=rfl
@[go_sem] theorem rj:fzA b vs .nilp = .nilp :=rfl
@[go_sem] theorem rl:fzA b vs .nils = .nils :=rfl
@[go_sem] theorem uq {x}:fzA b vs (.mpr x)= .mpr x:=rfl
@[go_sem] theorem ur:fzA b vs .any = .any :=rfl
end
attribute [go_sem] Option.getD_some Option.getD_none Option.join_some Option.bind_some Option.bind_none only
attribute [go_sem] ne_eq true_imp_iff implies_true false_imp_iff EB D.flat kept Zi Ui Ph Rz St.less R0 Tm Tn To aw ax St.after bak baks G1
@[go_sem ↓] theorem pq:B5 [] σ K=K σ:=by rw [B5]
@[go_sem ↓] theorem od {n} {z} {r} {s} {t} {b}:B5 ((n,.nils,z)::r) ⟨s,t,b⟩ K=AP (look t n=none) (B5 r ⟨s,(n,some ⟨[],z,0,.no⟩)::t,b⟩ K):=by rw [B5]; rfl
@[go_sem ↓] theorem pv {n t' g sz i j:Nat} {r:List (Nat × AV × Option Nat)} {s:List (Nat × AV)} {t:List (Nat × Option Tok)} {b:List (Nat × Option (List AV))}:B5 ((n,.sub t' g [(sz,i,j)],none)::r) ⟨s,t,b⟩ K=
  AP (look t n=none∧n≠t') (optX (look t t').join fun tk=>AP (tk.gen=g) (optX (getP [(sz,i,j)] tk.rows) fun rows=>OZ (putR [(sz,i,j)] tk.rows .gone) fun p=>B5 r ⟨s,(n,some ⟨rows,none,0,tk.z⟩)::(t',some ⟨p,tk.sz,g,tk.z⟩)::t,b⟩ K)):=by
 rw [B5]
 simp only [AP,optX,In,List.length_cons,List.length_nil,true_and,Nat.zero_add]
 refine propext ⟨?_,?_⟩
 ·rintro ⟨h2,tk,rows,q,F,v,C,u⟩; exact⟨⟨h2,C⟩,tk,q,F,rows,v,u⟩
 ·rintro ⟨⟨h2,C⟩,tk,q,F,rows,v,u⟩; exact⟨h2,tk,rows,q,F,v,C,u⟩
@[go_sem ↓] theorem ut:BM [] σ K=K σ:=by rw [BM]
def unX (n:Nat) (K:St→Prop) (σ:St):Prop:=K {σ with t:=(n,none)::σ.t}
@[go_sem ↓] theorem xR {n} {s} {t} {b}:unX n K ⟨s,t,b⟩=K ⟨s,(n,none)::t,b⟩:=rfl
@[go_sem ↓] theorem rm {n} {z} {r}:BM ((n,.nils,z)::r) σ K=BM r σ (unX n K):=by rw [BM]; rfl; grind
def unS (n t' g:Nat) (p:Pth) (K:St→Prop) (σ:St):Prop:=match σ.T n with
 |some tn=>∃tk,σ.T t'=some tk∧PH p tk.rows=some .gone ∧(n≠t'∧okZ tk.z tn=true)∧K {σ with t:=(n,none)::(t',some ⟨putR p tk.rows (.sl tn.rows),tk.sz,if tn.gen=0∧tk.gen=g then g else tk.gen+tn.gen+1,tk.z⟩)::σ.t}
 |none=>K σ
@[go_sem ↓] theorem uu {n t' g} {p} {z} {r}:BM ((n,.sub t' g p,z)::r) σ K=BM r σ (unS n t' g p K):=by rw [BM]; rfl
def unO (o:Option Tok) (n t' g:Nat) (p:Pth) (K:St→Prop) (σ:St):Prop:=match o with
 |some tn=>AP (n≠t') (optX (σ.T t') fun tk=>AP (okZ tk.z tn=true) (AP (PH p tk.rows=some .gone) (OZ (putR p tk.rows (.sl tn.rows)) fun rows=>K ⟨σ.s,(n,none)::(t',some ⟨rows,tk.sz,if tn.gen=0∧tk.gen=g then g else tk.gen+tn.gen+1,tk.z⟩)::σ.t,σ.b⟩)))
 |none=>K σ
@[go_sem ↓] theorem xS {n t' g:Nat} {p:Pth} {s:List (Nat × AV)} {t:List (Nat × Option Tok)} {b:List (Nat × Option (List AV))}:unS n t' g p K ⟨s,t,b⟩=unO (look t n).join n t' g p K ⟨s,t,b⟩:=by
 grind [unS,unO,St.T,AP,optX,In]
@[go_sem] theorem rn {n t' g} {p} {tn}:unO (some tn) n t' g p K σ=AP (n≠t') (optX (σ.T t') fun tk=>AP (okZ tk.z tn=true) (AP (PH p tk.rows=some .gone) (OZ (putR p tk.rows (.sl tn.rows)) fun rows=>K ⟨σ.s,(n,none)::(t',some ⟨rows,tk.sz,if tn.gen=0∧tk.gen=g then g else tk.gen+tn.gen+1,tk.z⟩)::σ.t,σ.b⟩))):=rfl
@[go_sem] theorem rp {n t' g} {p}:unO none n t' g p K σ=K σ:=rfl
theorem Me {α:Type} {l:List α} {i:Nat} {x y:α} (h:l[i]? =some x):(l.set i y)[i]? =some y:=List.getElem?_set_self (A7 h)
theorem oe {rows r} {sz i j} {row} {d} (h:rows[i]? =some row) (hl:row.length=sz) (hj:row[j]? =some d) (hd:Hb d=some r):getP [(sz,i,j)] rows=some r:=by
 rw [getP,h]
 simp [hl,hj,hd,getP]
theorem Xo {rows r} {sz i j} {row} (h:rows[i]? =some row) (hl:row.length=sz) (hj:row[j]? =some (.sl r)):getP [(sz,i,j)] rows=some r:=oe h hl hj rfl
theorem Xp {rows} {sz i j} {row} {d} (h:rows[i]? =some row) (hl:row.length=sz) (hj:row[j]? =some d):PH [(sz,i,j)] rows=some d:=by
 grind [PH]
theorem Mf {rows} {sz i j} {row} {d d'} (h:rows[i]? =some row) (hj:row[j]? =some d'):putR [(sz,i,j)] rows d=rows.set i (row.set j d):=by
 grind [putR,Ab.put]
section
variable {y:Way} {σ0:St}
@[go_sem] theorem rq:PasL y σ0 [] [] =True:=by rfl
@[go_sem] theorem pw {a b} {as bs}:PasL y σ0 (a::as) (b::bs)=(Fg y σ0 a b∧PasL y σ0 as bs):=by rfl
@[go_sem] theorem uv {n c}:Fg y σ0 (.own n) (.own c)=(look y.rt c=some n∨∃z,∃m,look y.rt c=some m∧look y.cv m=some (.own n,z)):=by
 grind [Fg]
def cvX (o:Option (AV × Option Nat)) (a:AV):Prop:=match o with|some x=>x.1 =a|none=>False
theorem dg {o} {a}:(∃z,o=some (a,z))=cvX o a:=by
 unfold cvX
 grind
def rtX (o:Option Nat) (K:Nat→Prop):Prop:=match o with|some n=>K n|none=>False
@[go_sem] theorem rx {n} {K}:rtX (some n) K=K n:=rfl
@[go_sem] theorem ry {x} {a}:cvX (some x) a=(x.1 =a):=rfl
theorem dh {o} {p}:(∃n,o=some n∧p n)=rtX o p:=by
 cases o <;> simp [rtX]
@[go_sem] theorem uw {t g c} {p}:Fg y σ0 (.sub t g p) (.own c)=rtX (look y.rt c) fun n=>cvX (look y.cv n) (.sub t g p):=by
 rw [← dh]
 grind [Fg,dg]
@[go_sem] theorem rz {c}:Fg y σ0 .nils (.own c)=rtX (look y.rt c) fun n=>cvX (look y.cv n) .nils :=by
 rw [← dh]
 grind [Fg,dg]
@[go_sem] theorem ux {n off b off'}:Fg y σ0 (.box n off) (.box b off')=match look y.rb b with|some q=>n=q.1 ∧off=q.2 +off'|none=>False:=by
 simp only [Fg,AV.box.injEq]
 cases look y.rb b <;> simp
@[go_sem] theorem uy {vs us}:Fg y σ0 (.agg vs) (.agg us)=PasL y σ0 vs us:=by rfl
@[go_sem] theorem xT {f f'} {vs us}:Fg y σ0 (.fn f vs) (.fn f' us)=(f=f'∧PasL y σ0 vs us):=by rfl
def clW (y:Way) (σ0:St) (a:AV):Option AV:=cl (if y.md=true then fun _=>none else σ0.T) (if y.md=true then fun _=>none else σ0.B) a
@[go_sem] theorem uz {a} {k} {n}:Fg y σ0 a (.int k n)=(clW y σ0 a=some (.int k n)):=by cases a <;> simp only [Fg,clW]
@[go_sem] theorem vA {a} {s}:Fg y σ0 a (.str s)=(clW y σ0 a=some (.str s)):=by cases a <;> simp only [Fg,clW]
@[go_sem] theorem xU {a} {rows}:Fg y σ0 a (.ro rows)=(clW y σ0 a=some (.ro rows)):=by cases a <;> simp only [Fg,clW]
@[go_sem] theorem mG {a} {vs} {off}:Fg y σ0 a (.rop vs off)=narR (clW y σ0 a) vs off:=by cases a <;> simp only [Fg,clW]
@[go_sem] theorem jF {us} {o'} {vs} {off}:narR (some (.rop us o')) vs off=((us=vs∧o'=off)∨(off=0∧Fc us o' vs.length=vs)):=rfl
@[go_sem] theorem jG {a}:Fg y σ0 a .nilp =(clW y σ0 a=some .nilp):=by cases a <;> simp only [Fg,clW]
@[go_sem] theorem xV {cv rt rb nt nb} {a}:clW ⟨cv,rt,rb,nt,nb,true⟩ σ0 a=cl (fun _=>none) (fun _=>none) a:=by rfl
@[go_sem] theorem xW {cv rt rb nt nb} {a}:clW ⟨cv,rt,rb,nt,nb,false⟩ σ0 a=cl σ0.T σ0.B a:=by rfl
end
def sA (P:Program) (t:TypeId) (v:AV) (σ:St) (K:Bool→Prop) (_:Wrap K):Prop:=oE P t v σ K
theorem nC {rows} {K} {w} (h:slP (ti P t)) (h0:rows=[] →K true) (h1:K false):sA P t (.ro rows) σ K w:=ky h h0 h1
def lkR (ok:Bool) (o:Option D) (z:AV) (K:AV→Prop):Prop:=K (if ok=true then .tup [(o.map ofD).getD z,.bool o.isSome] else (o.map ofD).getD z)
@[go_sem] theorem xX {o} {z} {K}:lkR false o z K=Ar ((o.map ofD).getD z) K:=by rfl
@[go_sem] theorem xY {o} {z} {K}:lkR true o z K=Ar ((o.map ofD).getD z) fun v=>Ar o.isSome fun b=>K (.tup [v,.bool b]):=by rfl
def jH (a:AV):Option D:=match OD [a] with|some [d] =>some d|_=>none
@[go_sem] theorem px {k} {n}:jH (.int k n)=some (.int k n):=rfl
@[go_sem] theorem oh {b}:jH (.bool b)=some (.bool b):=rfl
@[go_sem] theorem py {s}:jH (.str s)=some (.str s):=rfl
def muX (P:Program) (t:TypeId) (u v x:AV) (σ:St) (K:St→Prop):Prop:=Ys P t u v x σ K
@[go_sem ↓] theorem nD {m i}:opX P pos dst (.mapUpdate t m i x) σ K=Ar (σ.e m) fun u=>Ar (σ.e i) fun v=>Ar (σ.e x) fun z=>muX P t u v z σ fun σ'=>K (σ'.put dst .any):=by
 rfl
@[go_sem ↓] theorem sB {m i}:opX P pos dst (.insert t m i x) σ K=Ar (σ.e m) fun u=>Ar (σ.e i) fun v=>Ar (σ.e x) fun z=>muX P t u v z σ fun σ'=>K (σ'.put dst .any):=by
 rfl
attribute [go_sem] keyD WN
@[go_sem] theorem pz {ks} {ds}:eN (.wide ks) (.ptr ds)=Rx ks ds:=rfl
@[go_sem] theorem p3:Rx [] [] =true:=rfl
@[go_sem] theorem sC {s}:eN .str (.str s)=true:=rfl
@[go_sem ↓] theorem xZ:opX P pos dst (.pick c a b) σ K=Ar (σ.e c) fun u=>Ar (σ.e a) fun v=>Ar (σ.e b) fun w=>Ug u v w fun v=>K (σ.put dst v):=n9
@[go_sem ↓] theorem xa:opX P pos dst (.load t a) σ K=Ar (σ.e a) fun u=>Pg P t u σ fun v=>K (σ.put dst v):=oA
@[go_sem ↓] theorem ol:opX P pos dst (.nilCheck x) σ K=Ar (σ.e x) fun u=>Xl u fun v=>K (σ.put dst v):=bj
@[go_sem ↓] theorem p4 {y}:opX P pos dst (.binOp op t x (.tmp y) t') σ K=Ar (σ.e x) fun u=>Ar (σ.g y) fun v=>DQ P op t u v fun v=>K (σ.put dst v):=fW
@[go_sem ↓] theorem p5 {k} {n}:opX P pos dst (.binOp op t x (.const (.int k n)) t') σ K=Ar (σ.e x) fun u=>DQ P op t u (.int k n) fun v=>K (σ.put dst v):=fX
@[go_sem ↓] theorem p6 {b}:opX P pos dst (.binOp op t x (.const (.string b)) t') σ K=Ar (σ.e x) fun u=>DQ P op t u (.str b) fun v=>K (σ.put dst v):=fY
@[go_sem ↓] theorem om:opX P pos dst (.binOp op t x (.const (.pointer none)) t') σ K=Ar (σ.e x) fun u=>DQ P op t u .nilp fun v=>K (σ.put dst v):=bn
@[go_sem ↓] theorem sD:opX P pos dst (.binOp .eql t x (.const (.slice none 0 0)) t') σ K=Ar (σ.e x) fun u=>sA P t u σ (fun b=>K (σ.put dst (.bool b))) ⟨⟩:=ia
@[go_sem ↓] theorem xb {op}:opX P pos dst (.unOp op t x) σ K=Ar (σ.e x) fun u=>fc op u fun v=>K (σ.put dst v):=oH
@[go_sem ↓] theorem p7:opX P pos dst (.convert s d x) σ K=Ar (σ.e x) fun u=>SI P s d u σ fun v=>K (σ.put dst v):=fe
@[go_sem ↓] theorem nE:opX P pos dst (.fieldAddr s x f) σ K=Ar (σ.e x) fun u=>faX P s u f fun v=>K (σ.put dst v):=Zd
@[go_sem ↓] theorem nF:opX P pos dst (.indexAddr t x y) σ K=Ar (σ.e x) fun u=>Ar (σ.e y) fun v=>iaX P t u v σ fun v=>K (σ.put dst v):=Ze
@[go_sem ↓] theorem vB {l h}:opX P pos dst (.slice t x l h none) σ K=Ar (σ.e x) fun u=>lX P σ.T t u (l.map σ.e) (h.map σ.e) fun v=>K (σ.put dst v):=lY
@[go_sem ↓] theorem vC:opX P pos dst (.index t x y) σ K=Ar (σ.e x) fun u=>Ar (σ.e y) fun v=>elX P t u v fun v=>K (σ.put dst v):=lW
@[go_sem ↓] theorem p8:opX P pos dst (.extract x i) σ K=Ar (σ.e x) fun u=>fj u i fun v=>K (σ.put dst v):=fk
@[go_sem ↓] theorem yQ:opX P pos dst (.call ⟨.builtin .len,List.toArray [x],List.toArray [t]⟩) σ K=Ar (σ.e x) fun u=>fl P t u σ fun v=>K (σ.put dst v):=rI
@[go_sem ↓] theorem yR {ts}:opX P pos dst (.call ⟨.builtin .max,List.toArray [x,y],ts⟩) σ K=Ar (σ.e x) fun u=>Ar (σ.e y) fun v=>bp (fun n m=>if n<m then m else n) u v fun v=>K (σ.put dst v):=rJ
@[go_sem ↓] theorem yS:opX P pos dst (.box t x) σ K=Ar (cellsOf (σ.e x)) fun cs=>bxX pos cs dst (.box pos 0) σ K:=rN
@[go_sem ↓] theorem vD:opX P pos dst (.alloc t) σ K=AP (0<(tz P t).length) (Ar ((tz P t).map zAV) fun vs=>bxX pos (some vs) dst (.box pos 0) σ K):=ld
@[go_sem ↓] theorem vE {parts}:opX P pos dst (.build t parts.toArray) σ K=Zf P (ti P t) fun fs=>AP ((fs.all fun q=>decide (0<tsz P q.2))=true∧0<(tz P t).length) (Ar ((tz P t).map zAV) fun vs=>Ar (pvs σ parts) fun j=>bpX P fs vs j fun v=>K (σ.put dst v)):=lj
@[go_sem ↓] theorem nG:opX P pos dst (.makeSlice t l c) σ K=slX (ti P t) fun e=>Ar (σ.e l) fun u=>Ar (σ.e c) fun v=>mkX P pos e u v dst σ K:=Zg
@[go_sem ↓] theorem xc {L} {wL} {args} {ts}:opL P L pos dst (.call ⟨.value g,args.toArray,ts⟩) σ K wL=Ar (σ.e g) fun u=>Ar (evs σ args) fun vs=>clX P L pos u vs dst σ K wL:=oR
@[go_sem ↓] theorem vF:opX P pos dst (.store t a x) σ K=Ar (σ.e a) fun u=>Ar (cellsOf (σ.e x)) fun cs=>stX P t u cs σ fun σ'=>K (σ'.put dst .any):=lw
@[go_sem ↓] theorem sE:opX P pos dst (.call ⟨.builtin .append,List.toArray [x,y],List.toArray [t,t]⟩) σ K=slX (ti P t) fun e=>Ar (σ.e x) fun u=>Ar (σ.e y) fun v=>apX P pos e u v dst σ K:=iz
def apE (P:Program) (pos:Nat) (e:TypeId) (u v:AV) (dst:Option Tmp) (σ:St) (K:St→Prop):Prop:=c7 u=true∧match v with
 | .ro rows=>(0<tsz P e∧(tz P e).length =tsz P e)∧∃z,roZ z (tsz P e) rows fun rows=>(rows.length*P.bytesOf e≤140737488355328∧rows.length≤maxLen)∧look σ.t (pos*16)=none∧K ((σ.setT (pos*16) ⟨rows,some (tsz P e),0,z⟩).put dst (.own (pos*16)))
 |_=>False
theorem jI {z} {sz} {rows} {K K'} (h:∀r,K r→K' r) (k:roZ z sz rows K):roZ z sz rows K':=by
 cases z
 ·exact⟨k.1,h _ k.2⟩
 ·exact⟨k.1,h _ k.2⟩
 ·exact⟨k.1,h _ k.2⟩
def roX (z:ZK) (sz:Nat) (rows:List (List D)) (K:List (List D)→Prop):Prop:=roZ z sz rows K
@[go_sem] theorem yT {sz} {rows} {K}:roX .no sz rows K=AP (∀row ∈ rows,row.length=sz∧∀d ∈ row,d.flat=true) (K rows):=rfl
@[go_sem] theorem yU {sz:Nat} {rows:List (List D)} {K:List (List D)→Prop}:roX .yes sz rows K=AP (∀row ∈ rows,row.length=sz∧∀d ∈ row,d≠ .gone) (OZ (fzR rows) fun r=>K r):=by
 grind [roX,roZ,AP,In]
@[go_sem] theorem xd {e:TypeId} {u:AV} {j:List (List D)}:apE P pos e u (.ro j) dst σ K=AP (c7 u=true) (AP (0<tsz P e∧(tz P e).length =tsz P e) (zX fun z=>roX z (tsz P e) j fun j=>AP (j.length*P.bytesOf e≤140737488355328∧j.length≤maxLen) (AP (look σ.t (pos*16)=none) (OZ j fun j=>K ((σ.setT (pos*16) ⟨j,some (tsz P e),0,z⟩).put dst (.own (pos*16))))))):=by simp only [In]; rfl
@[go_sem ↓] theorem xe:opE P pos dst (.call ⟨.builtin .append,List.toArray [x,y],List.toArray [t,t]⟩) σ K=slX (ti P t) fun e=>Ar (σ.e x) fun u=>Ar (σ.e y) fun v=>apE P pos e u v dst σ K:=by
 unfold opE
 simp only [Ev,qH,slX,true_and,Ar]
 generalize σ.e x=u
 generalize σ.e y=v
 refine propext ⟨?_,?_⟩
 ·rintro ⟨r,⟨h1,h2⟩,h3,W,G⟩
  split at h2
  ·rename_i U p O
   obtain⟨I,z,J⟩:=h2
   rw [O]
   refine⟨h1,I,z,jI (fun p F=>?_) J⟩
   obtain⟨C,rfl⟩:=F
   refine⟨C,h3.1,?_⟩
   cases dst <;> exact G
  grind
 ·intro h
  generalize hti:ti P t=q at h ⊢
  cases q with
  | sl U=>
   cases v with
   | ro p=>
    obtain⟨h1,I,z,J⟩:=h
    cases z with
    |no=>
     obtain⟨F,C,j,G⟩:=J
     exact⟨_,⟨h1,I,.no,F,C,rfl⟩,⟨j,trivial⟩,trivial,by cases dst <;> exact G⟩
    |nl=>
     obtain⟨F,C,j,G⟩:=J
     exact⟨_,⟨h1,I,.nl,F,C,rfl⟩,⟨j,trivial⟩,trivial,by cases dst <;> exact G⟩
    |yes=>
     obtain⟨F,C,j,G⟩:=J
     exact⟨_,⟨h1,I,.yes,F,C,rfl⟩,⟨j,trivial⟩,trivial,by cases dst <;> exact G⟩
   |_=>exact h.2.elim
  |_=>exact h.elim
@[go_sem ↓] theorem xf {e:TypeId} {u v:AV}:apX P pos e u v dst σ K=AP (0<tsz P e∧(tz P e).length =tsz P e) (zX fun z=>Tl z e (tsz P e) u σ fun j σ1=>OF z (tsz P e) v σ1 fun rows2 σ2=>
   AP ((j.length+rows2.length)*P.bytesOf e≤140737488355328∧j.length+rows2.length≤maxLen) (AP (look σ2.t (pos*16)=none) (OZ (j++rows2) fun j=>K ((σ2.setT (pos*16) ⟨j,some (tsz P e),0,z⟩).put dst (.own (pos*16)))))):=by simp only [In]; rfl
end
attribute [go_sem] zAV
section
variable {P:Program} {σ:St} {K:St→Prop} {ops:Array Oper} {base cut i:Nat}
@[go_sem] theorem oq {x} {xs b} {w1} {w2} {w3} {w4}:Mc P ops base cut i (List.append (x::xs) b) σ K w1 w2 w3 w4=Mc P ops base cut i (x::List.append xs b) σ K w1 ⟨⟩ w3 w4:=rfl
@[go_sem] theorem p9 {b} {w1} {w2} {w3} {w4}:Mc P ops base cut i (List.append [] b) σ K w1 w2 w3 w4=Mc P ops base cut i b σ K w1 ⟨⟩ w3 w4:=rfl
@[go_sem ↓] theorem kN {b} {j} {K}:SH (List.toArray (List.append [] b)) j K=SH b.toArray j K:=rfl
end
end Go.Proofs.YtjnifengdhcojaaGreatDoor.Ab
