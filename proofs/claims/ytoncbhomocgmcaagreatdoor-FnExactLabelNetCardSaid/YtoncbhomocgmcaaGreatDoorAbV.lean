/-
  The abstract walk as rules, third part: memory, calls, results, loops.
-/
import Derived.Test.YtoncbhomocgmcaaGreatDoorAbU
import Derived.IntWalk
namespace Go.Proofs.YtoncbhomocgmcaaGreatDoor.Ab
set_option linter.unusedVariables false
set_option maxHeartbeats 1000000
open Go.RowKit
section
variable {P:Program} {σ:St} {K:St→Prop} {Q:AE→St→Prop}
def bn (t:TI):Prop:=match t with| .str =>True|_=>False
@[go_sem] theorem fT:bn .str =True:=rfl
@[go_sem] theorem ZI {t} {s} {K}:JI P t (.str s) σ K=AM (bn (ti P t)) (K (.int .i64 s.size)):=by
 simp only [JI,Jd,AM,bn]
 generalize ti P t=q
 cases q <;> simp
@[go_sem] theorem bp {t} {rows} {K}:JI P t (.ro rows) σ K=slX (ti P t) fun _=>K (.int .i64 rows.length):=by
 simp only [JI,Jd,slX]
 generalize ti P t=q
 cases q <;> simp
@[go_sem] theorem XP {t} {K}:JI P t .nils σ K=slX (ti P t) fun _=>K (.int .i64 0):=by
 simp only [JI,Jd,slX]
 generalize ti P t=q
 cases q <;> simp
@[go_sem] theorem ZJ {t} {b n sz} {K}:JI P t (.bsl b n sz) σ K=slX (ti P t) fun _=>K (.int .i64 n):=by
 simp only [JI,Jd,slX]
 generalize ti P t=q
 cases q <;> simp
@[go_sem] theorem ZL {t} {t'} {K}:JI P t (.own t') σ K=slX (ti P t) fun _=>optX (σ.T t') fun tk=>K (.int .i64 tk.rows.length):=by
 simp only [JI,Jd,slX,optX]
 grind
@[go_sem] theorem ZM {t} {t' g} {p} {K}:JI P t (.sub t' g p) σ K=slX (ti P t) fun _=>optX (subR σ.T t' g p) fun rows=>K (.int .i64 rows.length):=by
 simp only [JI,Jd,slX,optX]
 grind
def Tb (t:TI) (K:TypeId→TypeId→Prop):Prop:=match t with| .map k e=>K k e|_=>False
@[go_sem] theorem fU {k e} {K}:Tb (.map k e) K=K k e:=rfl
def SD (o:Option (List AV)) (K:KT→List (List D)→Prop):Prop:=∃q rows,o=some [.mpc q rows] ∧K q rows
@[go_sem] theorem dX {q} {rows} {K}:SD (some [.mpc q rows]) K=K q rows:=by
 grind [SD]
@[go_sem] theorem ZN {t} {b} {K}:JI P t (.mpr b) σ K=Tb (ti P t) fun _ _=>SD (σ.B b) fun _ rows=>K (.int .i64 rows.length):=by
 simp only [JI,Jd,Tb,SD]
 grind
def Ih {α:Type} (v:α) (K:α→Prop):Prop:=∃y,v=y∧K y
theorem EW {α:Type} {v:α} {K:α→Prop}:Ih v K=K v:=by simp [Ih]
def bxX (pos:Nat) (cs:Option (List AV)) (dst:Option Tmp) (v:AV) (σ:St) (K:St→Prop):Prop:=optX cs fun vs=>AM (look σ.b pos=none) (K ((σ.put dst v).setB pos vs))
def bxZ (pos:Nat) (cs:Option (List AV)) (dst:Option Tmp) (v:AV) (σ:St) (K:St→Prop):Prop:=bxX pos cs dst v σ K
theorem bq {pos} {cs} {dst} {v}:bxX pos cs dst v σ K=AY cs fun o=>bxZ pos o dst v σ K:=rfl
@[go_sem ↓] theorem fV {pos} {vs} {dst} {v}:bxZ pos (some vs) dst v σ K=AM (look σ.b pos=none) (K ((σ.put dst v).setB pos vs)):=by simp [bxZ,bxX,optX]
theorem GX {dst} {v} {pos} {vs}:σ.add dst ⟨v,[],[(pos,vs)]⟩=(σ.put dst v).setB pos vs:=by cases dst <;> rfl
@[go_sem] theorem lF {vs}:cellsOf (.agg vs)=if KO vs=true then some vs else none:=rfl
@[go_sem] theorem lG:cellsOf .any =none:=rfl
@[go_sem] theorem lH {vs}:cellsOf (.tup vs)=none:=rfl
@[go_sem] theorem lI {q} {r}:cellsOf (.mpc q r)=none:=rfl
@[go_sem] theorem lJ {k} {n}:cellsOf (.int k n)=some [.int k n] :=rfl
@[go_sem] theorem iq {b}:cellsOf (.bool b)=some [.bool b] :=rfl
@[go_sem] theorem lK {s}:cellsOf (.str s)=some [.str s] :=rfl
@[go_sem] theorem nF {r}:cellsOf (.ro r)=some [.ro r] :=rfl
@[go_sem] theorem lL {t}:cellsOf (.own t)=some [.own t] :=rfl
@[go_sem] theorem lM {b o}:cellsOf (.box b o)=some [.box b o] :=rfl
@[go_sem] theorem lN {vs} {o}:cellsOf (.rop vs o)=some [.rop vs o] :=rfl
@[go_sem] theorem lO {b n z}:cellsOf (.bsl b n z)=some [.bsl b n z] :=rfl
@[go_sem] theorem lP {t z i o}:cellsOf (.elt t z i o)=some [.elt t z i o] :=rfl
@[go_sem] theorem lQ {t g} {p}:cellsOf (.sub t g p)=some [.sub t g p] :=rfl
@[go_sem] theorem lR {t g} {p} {z i o}:cellsOf (.els t g p z i o)=some [.els t g p z i o] :=rfl
@[go_sem] theorem lS {t z i n}:cellsOf (.par t z i n)=some [.par t z i n] :=rfl
@[go_sem] theorem nG {f} {c}:cellsOf (.fn f c)=some [.fn f c] :=rfl
@[go_sem] theorem ir:cellsOf .nilp =some [.nilp] :=rfl
@[go_sem] theorem it:cellsOf .nils =some [.nils] :=rfl
@[go_sem] theorem lT {b}:cellsOf (.mpr b)=some [.mpr b] :=rfl
theorem fW {pos} {dst} {t} {x}:opX P pos dst (.box t x) σ K=bxX pos (cellsOf (σ.e x)) dst (.box pos 0) σ K:=by
 rw [Lk (fun _=>by rfl)]
 simp only [Ev,bxX]
 split
 ·rename_i vs h
  rw [h,Eu]
  refine propext ⟨?_,?_⟩
  ·rintro ⟨r,rfl,-,h1,h2⟩
   exact⟨h1.1,by rw [← GX]; exact h2⟩
  ·rintro ⟨h1,h2⟩
   exact⟨_,rfl,trivial,⟨h1,trivial⟩,by rw [GX]; exact h2⟩
 grind [Pr]
theorem ZO {pos} {dst} {t}:opX P pos dst (.alloc t) σ K=AM (0<(tz P t).length) (bxX pos (some ((tz P t).map zAV)) dst (.box pos 0) σ K):=by
 rw [Lk (fun _=>by rfl)]
 simp only [Ev,bxX,Eu,AM]
 refine propext ⟨?_,?_⟩
 ·rintro ⟨r,⟨vs,rfl,h0,rfl⟩,-,h1,h2⟩
  exact⟨h0,h1.1,by rw [← GX]; exact h2⟩
 ·rintro ⟨h0,h1,h2⟩
  exact⟨_,⟨_,rfl,h0,rfl⟩,trivial,⟨h1,trivial⟩,by rw [GX]; exact h2⟩
attribute [go_sem] zAV
def pvs (σ:St):List (Nat × Operand)→List (Nat × AV)
 | [] =>[]
 |x::xs=>(x.1,σ.e x.2)::pvs σ xs
theorem Ug {xs}:pvs σ xs=xs.map fun x=>(x.1,σ.e x.2):=by induction xs with|nil=>rfl|cons x xs ih=>simp [pvs,ih]
attribute [go_sem] pvs CP
def bsX (P:Program) (pos:Nat) (e:TypeId) (n:Nat) (parts:List (Nat × AV)) (dst:Option Tmp) (σ:St) (K:St→Prop):Prop:=
 AM (parts.length=n∧n*tsz P e≤16777216∧0<tsz P e∧(tz P e).length =tsz P e) (bxX pos (CP (tsz P e) 0 parts) dst (.bsl pos n (tsz P e)) σ K)
@[go_sem ↓] theorem ZP {pos} {dst} {t} {n} {parts}:opX P pos dst (.buildSlice t n parts.toArray) σ K=slX (ti P t) fun e=>AY (pvs σ parts) fun ps=>bsX P pos e n ps dst σ K:=by
 rw [Lk (fun _=>by rfl)]
 simp only [Ev,slX,AY,Ug]
 generalize ti P t=q
 split
 ·simp only [WT,bsX,bxX,AM]
  refine propext ⟨?_,?_⟩
  ·rintro ⟨r,⟨h1,h2,h3,h4,h5⟩,-,h6,h7⟩
   split at h5
   ·rename_i vs h8
    subst h5
    rw [h8,Eu]
    exact⟨⟨h1,h2,h3,h4⟩,h6.1,by rw [← GX]; exact h7⟩
   grind
  ·rintro ⟨⟨h1,h2,h3,h4⟩,vs,h8,h6,h7⟩
   exact⟨⟨_,[],[(pos,vs)]⟩,⟨h1,h2,h3,h4,by rw [h8]⟩,trivial,⟨h6,trivial⟩,by rw [GX]; exact h7⟩
 ·simp
attribute [go_sem] bsX
attribute [go_sem] IG
def SE (P:Program) (t:TI) (K:List (Nat × TypeId)→Prop):Prop:=match t with| .st fs=>K fs| .arr n el=>AM (0<tsz P el) (K (IG (tsz P el) el n 0))|_=>False
@[go_sem] theorem ZQ {fs} {K}:SE P (.st fs) K=K fs:=rfl
def bpX (P:Program) (fs:List (Nat × TypeId)) (vs:List AV) (ps:List (Nat × AV)) (K:AV→Prop):Prop:=∃ws,HN P fs vs ps=some ws∧K (.agg ws)
@[go_sem] theorem ZR {fs} {vs} {K}:bpX P fs vs [] K=K (.agg vs):=by simp [bpX,HN]
@[go_sem] theorem XQ {fs} {vs} {f} {v} {ps} {K}:bpX P fs vs ((f,v)::ps) K=optX fs[f]? fun q=>optX (cellsOf v) fun cs=>AM (cs.length=tsz P q.2 ∧q.1 +cs.length≤vs.length) (AY (splice vs q.1 cs) fun vs=>bpX P fs vs ps K):=by
 unfold bpX optX AM AY
 rw [HN]
 grind
theorem ZS {pos} {dst} {t} {parts}:opX P pos dst (.build t parts.toArray) σ K=SE P (ti P t) fun fs=>AM ((fs.all fun q=>decide (0<tsz P q.2))=true∧0<(tz P t).length) (bpX P fs ((tz P t).map zAV) (pvs σ parts) fun v=>K (σ.put dst v)):=by
 rw [EM (p:=fun v=>SE P (ti P t) fun fs=>AM ((fs.all fun q=>decide (0<tsz P q.2))=true∧0<(tz P t).length) (bpX P fs ((tz P t).map zAV) (pvs σ parts) fun u=>v=u)) (fun _=>by rfl) (fun r=>by
  simp only [Ev,SE,AM,bpX,Ug]
  grind)]
 unfold SE AM bpX
 grind
attribute [go_sem] zD zDs
@[go_sem] theorem fX {n}:leX n n=True:=eq_true (Int.le_refl n)
def zX (K:ZK→Prop):Prop:=∃z,K z
def zY (K:ZK→Prop) (_:Wrap K):Prop:=∃z,K z
@[go_sem ↓] theorem nH {K}:zX K=zY K ⟨⟩:=rfl
theorem AP {K} {w} (z:ZK) (h:K z):zY K w:=⟨z,h⟩
def mkX (P:Program) (pos:Nat) (e:TypeId) (n m:AV) (dst:Option Tmp) (σ:St) (K:St→Prop):Prop:=match n,m with
 | .int .i64 n,.int .i64 m=>AM (leX n m) (AM (0≤n∧m.toNat*P.bytesOf e≤281474976710656∧m≤4611686018427387904) (AM (0<tsz P e∧(tz P e).length =tsz P e) (zX fun q=>optX (zDs q (tz P e)) fun z=>AM (look σ.t (pos*16)=none) (Ih (List.replicate n.toNat z) fun rows=>K ((σ.put dst (.own (pos*16))).setT (pos*16) ⟨rows,some (tsz P e),0,q⟩)))))
 |_,_=>False
@[go_sem] theorem ZT {pos} {e} {n m} {dst}:mkX P pos e (.int .i64 n) (.int .i64 m) dst σ K=AM (leX n m) (AM (0≤n∧m.toNat*P.bytesOf e≤281474976710656∧m≤4611686018427387904) (AM (0<tsz P e∧(tz P e).length =tsz P e) (zX fun q=>optX (zDs q (tz P e)) fun z=>AM (look σ.t (pos*16)=none) (Ih (List.replicate n.toNat z) fun rows=>K ((σ.put dst (.own (pos*16))).setT (pos*16) ⟨rows,some (tsz P e),0,q⟩))))):=rfl
theorem Uh {dst} {v} {n} {tk}:σ.add dst ⟨v,[(n,tk)],[]⟩=(σ.put dst v).setT n tk:=by cases dst <;> rfl
theorem SF {pos:Nat} {dst:Option Tmp} {t:TypeId} {l c:Operand}:opX P pos dst (.makeSlice t l c) σ K=slX (ti P t) fun e=>mkX P pos e (σ.e l) (σ.e c) dst σ K:=by
 rw [Lk (fun _=>by rfl)]
 simp only [Ev,slX,mkX]
 generalize ti P t=q
 cases q with
 | sl e=>
  generalize σ.e l=u
  generalize σ.e c=v
  split
  ·rename_i el n m h1
   cases h1
   simp only [aA,AM,optX,zX,EW]
   refine propext ⟨?_,?_⟩
   ·rintro ⟨r,⟨k1,k2,k3,k4,k5,k6,q,z,k7,rfl⟩,k8,-,k9⟩
    exact⟨k1,⟨k2,k3,k4⟩,⟨k5,k6⟩,q,z,k7,k8.1,by rw [← Uh]; exact k9⟩
   ·rintro ⟨k1,⟨k2,k3,k4⟩,⟨k5,k6⟩,q,z,k7,k8,k9⟩
    exact⟨⟨_,[(pos*16,⟨_,some (tsz P e),0,q⟩)],[]⟩,⟨k1,k2,k3,k4,k5,k6,q,z,k7,rfl⟩,⟨k8,trivial⟩,trivial,by rw [Uh]; exact k9⟩
  grind
 |_=>simp
def Pu (P:Program) (L:Bool) (pos:Nat) (f:FuncId) (args:List AV) (as:Option (List AV)) (dst:Option Tmp) (σ:St) (K:St→Prop) (_:Wrap L):Prop:=
 ((∃bs rv,as=some bs∧AC P f bs rv∧Bt σ (conv (pos*16) rv).2 ∧K (σ.add dst ⟨(conv (pos*16) rv).1,(conv (pos*16) rv).2,[]⟩))∨
  ∃bs rv qt qb,AG P f bs [] [] rv qt qb∧cls (fun _=>none) (fun _=>none) args=some bs∧((qt=[] ∧PC rv=true∧K (σ.add dst ⟨rv,[],[]⟩))∨(∃q tk,qt=[(q,tk)] ∧rv= .own q∧tk.gen=0∧look σ.t (pos*16)=none∧K (σ.add dst ⟨.own (pos*16),[(pos*16,tk)],[]⟩))∨(∃q k,rv= .box q k)∧K (σ.add dst ⟨.rop [] 0,[],[]⟩)))∨
 (L=true∧UH P f args σ fun v σ'=>K (σ'.put dst v))
@[go_sem] theorem fY:JM [] =true:=rfl
@[go_sem] theorem fZ {fs cs}:JM (.agg fs::cs)=true:=rfl
@[go_sem] theorem iu {as}:fnA [] as=as:=List.append_nil as
@[go_sem] theorem iw {fs cs as}:fnA (.agg fs::cs) as=fs++(as++cs):=rfl
def clX (P:Program) (L:Bool) (pos:Nat) (g:AV) (args:List AV) (dst:Option Tmp) (σ:St) (K:St→Prop) (w:Wrap L):Prop:=match g with
 | .fn f caps=>JM caps=true∧Pu P L pos f (fnA caps args) (cls σ.T σ.B (fnA caps args)) dst σ K w
 |_=>False
@[go_sem] theorem bt {L} {wL} {pos} {f} {caps args} {dst}:clX P L pos (.fn f caps) args dst σ K wL=AM (JM caps=true) (AY (fnA caps args) fun vs=>AY (cls σ.T σ.B vs) fun r=>Pu P L pos f vs r dst σ K wL):=rfl
theorem bu {L} {wL} {pos} {dst} {g} {args} {ts}:opL P L pos dst (.call ⟨.value g,args.toArray,ts⟩) σ K wL=clX P L pos (σ.e g) (evs σ args) dst σ K wL:=by
 have h1:opX P pos dst (.call ⟨.value g,args.toArray,ts⟩) σ K=match σ.e g with
   | .fn f caps=>JM caps=true∧((∃bs rv,cls σ.T σ.B (fnA caps (evs σ args))=some bs∧AC P f bs rv∧Bt σ (conv (pos*16) rv).2 ∧K (σ.add dst ⟨(conv (pos*16) rv).1,(conv (pos*16) rv).2,[]⟩))∨
     ∃bs rv qt qb,AG P f bs [] [] rv qt qb∧cls (fun _=>none) (fun _=>none) (fnA caps (evs σ args))=some bs∧((qt=[] ∧PC rv=true∧K (σ.add dst ⟨rv,[],[]⟩))∨(∃q tk,qt=[(q,tk)] ∧rv= .own q∧tk.gen=0∧look σ.t (pos*16)=none∧K (σ.add dst ⟨.own (pos*16),[(pos*16,tk)],[]⟩))∨(∃q k,rv= .box q k)∧K (σ.add dst ⟨.rop [] 0,[],[]⟩)))
   |_=>False:=by
  rw [Lk (fun _=>by rfl)]
  simp only [Ev,NG,QW]
  generalize σ.e g=v
  split
  ·refine propext ⟨?_,?_⟩
   ·rintro ⟨r,⟨ho,h1⟩,h2,-,h4⟩
    refine⟨ho,?_⟩
    rcases h1 with h1|h1
    ·grind
    ·obtain⟨as,rv,qt,qb,h5,h6,h7⟩:=h1
     rcases h7 with ⟨h7,h8,rfl⟩|⟨q,tk,h7,h8,h9,rfl⟩|⟨h7,rfl⟩
     ·grind
     ·exact .inr ⟨as,rv,qt,qb,h5,h6,.inr (.inl ⟨q,tk,h7,h8,h9,h2.1,h4⟩)⟩
     grind
   ·rintro ⟨ho,h⟩
    rcases h with (⟨bs,rv,h1,h5,h2,h4⟩|⟨bs,rv,qt,qb,h5,h6,⟨h7,h8,h4⟩|⟨q,tk,h7,h8,h9,h2,h4⟩|⟨h7,h4⟩⟩)
    ·exact⟨⟨(conv (pos*16) rv).1,(conv (pos*16) rv).2,[]⟩,⟨ho,.inl (by rw [h1]; grind)⟩,h2,trivial,h4⟩
    ·exact⟨⟨rv,[],[]⟩,⟨ho,.inr ⟨bs,rv,qt,qb,h5,h6,.inl ⟨h7,h8,rfl⟩⟩⟩,trivial,trivial,h4⟩
    ·exact⟨⟨.own (pos*16),[(pos*16,tk)],[]⟩,⟨ho,.inr ⟨bs,rv,qt,qb,h5,h6,.inr (.inl ⟨q,tk,h7,h8,h9,rfl⟩)⟩⟩,⟨h2,trivial⟩,trivial,h4⟩
    ·exact⟨⟨.rop [] 0,[],[]⟩,⟨ho,.inr ⟨bs,rv,qt,qb,h5,h6,.inr (.inr ⟨h7,rfl⟩)⟩⟩,trivial,trivial,h4⟩
  ·simp
 have h2:opL P L pos dst (.call ⟨.value g,args.toArray,ts⟩) σ K wL=(opX P pos dst (.call ⟨.value g,args.toArray,ts⟩) σ K∨(L=true∧IL P ⟨dst,.call ⟨.value g,args.toArray,ts⟩,0, "",#[],none⟩ σ K)):=by
  have h3:NM σ ⟨dst,.call ⟨.value g,args.toArray,ts⟩,0, "",#[],none⟩=false:=rfl
  grind [KW,SliK,opL,NN,opX]
 rw [h2,h1]
 grind [clX,Pu,IL,QW]
@[go_sem] theorem lU {T:Nat→Option Tok} {B:Nat→Option (List AV)} {t}:toA T B (.own t)=(T t).map fun tk=>.ro tk.rd:=rfl
@[go_sem] theorem ix {T:Nat→Option Tok} {B:Nat→Option (List AV)}:toA T B .nils =some (.ro []):=rfl
@[go_sem] theorem lV {T:Nat→Option Tok} {B:Nat→Option (List AV)} {k} {n}:toA T B (.int k n)=some (.int k n):=rfl
@[go_sem] theorem iy {T:Nat→Option Tok} {B:Nat→Option (List AV)} {b}:toA T B (.bool b)=some (.bool b):=rfl
@[go_sem] theorem lW {T:Nat→Option Tok} {B:Nat→Option (List AV)} {s}:toA T B (.str s)=some (.str s):=rfl
@[go_sem] theorem nI {T:Nat→Option Tok} {B:Nat→Option (List AV)} {r}:toA T B (.ro r)=some (.ro r):=rfl
@[go_sem] theorem iz {T:Nat→Option Tok} {B:Nat→Option (List AV)}:toA T B .nilp =some .nilp :=rfl
@[go_sem] theorem lX {T:Nat→Option Tok} {B:Nat→Option (List AV)} {vs} {o}:toA T B (.rop vs o)=if Bj vs=true then some (.rop vs o) else none:=rfl
@[go_sem] theorem nJ {T:Nat→Option Tok} {B:Nat→Option (List AV)} {f} {vs}:toA T B (.fn f vs)=if Bj vs=true then some (.fn f vs) else none:=rfl
@[go_sem] theorem lY {T:Nat→Option Tok} {B:Nat→Option (List AV)} {b}:toA T B (.mpr b)=some .any :=rfl
@[go_sem] theorem lZ {T:Nat→Option Tok} {B:Nat→Option (List AV)} {t g} {p}:toA T B (.sub t g p)=(subE T t g p).map .ro :=rfl
@[go_sem] theorem lc {T:Nat→Option Tok} {B:Nat→Option (List AV)} {b n sz}:toA T B (.bsl b n sz)=match B b with
  |some vs=>match toDs T vs with
   |some ds=>if ds.length=n*sz then some (.ro (An sz n ds)) else none
   |none=>none
  |none=>none:=rfl
@[go_sem] theorem ld {T:Nat→Option Tok} {B:Nat→Option (List AV)}:toA T B .any =none:=rfl
@[go_sem] theorem lf {T:Nat→Option Tok} {B:Nat→Option (List AV)} {b o}:toA T B (.box b o)=none:=rfl
@[go_sem] theorem lg {T:Nat→Option Tok} {B:Nat→Option (List AV)} {t z i o}:toA T B (.elt t z i o)=none:=rfl
@[go_sem] theorem lh {T:Nat→Option Tok} {B:Nat→Option (List AV)} {t g} {p} {z i o}:toA T B (.els t g p z i o)=none:=rfl
@[go_sem] theorem lj {T:Nat→Option Tok} {B:Nat→Option (List AV)} {t z i n}:toA T B (.par t z i n)=none:=rfl
@[go_sem] theorem lk {T:Nat→Option Tok} {B:Nat→Option (List AV)} {vs}:toA T B (.agg vs)=none:=rfl
@[go_sem] theorem ll {T:Nat→Option Tok} {B:Nat→Option (List AV)} {vs}:toA T B (.tup vs)=none:=rfl
@[go_sem] theorem lm {T:Nat→Option Tok} {B:Nat→Option (List AV)} {q} {r}:toA T B (.mpc q r)=none:=rfl
@[go_sem] theorem ln {T:Nat→Option Tok} {k} {n}:toD T (.int k n)=some (.int k n):=rfl
@[go_sem] theorem i1 {T:Nat→Option Tok} {b}:toD T (.bool b)=some (.bool b):=rfl
@[go_sem] theorem lo {T:Nat→Option Tok} {s}:toD T (.str s)=some (.str s):=rfl
@[go_sem] theorem nK {T:Nat→Option Tok} {r}:toD T (.ro r)=some (.sl r):=rfl
@[go_sem] theorem i6 {T:Nat→Option Tok}:toD T .nils =some (.sl []):=rfl
@[go_sem] theorem lp {T:Nat→Option Tok} {t}:toD T (.own t)=(T t).map fun tk=>.sl tk.rd:=rfl
@[go_sem] theorem i7 {T:Nat→Option Tok}:toD T .nilp =some .nilp :=rfl
@[go_sem] theorem lq {T:Nat→Option Tok} {vs} {o}:toD T (.rop vs o)=unD (.rop vs o):=rfl
@[go_sem] theorem lr {T:Nat→Option Tok}:toD T .any =none:=rfl
@[go_sem] theorem lw {T:Nat→Option Tok} {b o}:toD T (.box b o)=none:=rfl
@[go_sem] theorem lx {T:Nat→Option Tok} {b n z}:toD T (.bsl b n z)=none:=rfl
@[go_sem] theorem ly {T:Nat→Option Tok} {t z i o}:toD T (.elt t z i o)=none:=rfl
@[go_sem] theorem lz {T:Nat→Option Tok} {t g} {p}:toD T (.sub t g p)=none:=rfl
@[go_sem] theorem l0 {T:Nat→Option Tok} {t g} {p} {z i o}:toD T (.els t g p z i o)=none:=rfl
@[go_sem] theorem l5 {T:Nat→Option Tok} {t z i n}:toD T (.par t z i n)=none:=rfl
@[go_sem] theorem nL {T:Nat→Option Tok} {f} {vs}:toD T (.fn f vs)=none:=rfl
@[go_sem] theorem l6 {T:Nat→Option Tok} {vs}:toD T (.agg vs)=none:=rfl
@[go_sem] theorem l7 {T:Nat→Option Tok} {vs}:toD T (.tup vs)=none:=rfl
@[go_sem] theorem l8 {T:Nat→Option Tok} {b}:toD T (.mpr b)=none:=rfl
@[go_sem] theorem l9 {T:Nat→Option Tok} {q} {r}:toD T (.mpc q r)=none:=rfl
attribute [go_sem] cl cls toDs toAs BM Bj Option.map_some Option.map_none
theorem ZU {pos} {f} {args bs} {dst} {rv} (h:AC P f bs rv) (hf:Bt σ (conv (pos*16) rv).2) (hk:K (σ.add dst ⟨(conv (pos*16) rv).1,(conv (pos*16) rv).2,[]⟩)) {L} {wL}:Pu P L pos f args (some bs) dst σ K wL:=
 .inl (.inl ⟨bs,rv,rfl,h,hf,hk⟩)
@[go_sem] theorem bv:Bt σ [] =True:=rfl
@[go_sem] theorem aM {n} {tk} {l}:Bt σ ((n,tk)::l)=(look σ.t n=none∧Bt σ l):=rfl
attribute [go_sem] conv EU addT addB
@[go_sem] theorem fc {s t b} {d} {r}:St.add ⟨s,t,b⟩ (some d) r=⟨(d,r.v)::s,addT t r.t,addB b r.b⟩:=rfl
@[go_sem] theorem fe {s t b} {r}:St.add ⟨s,t,b⟩ none r=⟨s,addT t r.t,addB b r.b⟩:=rfl
section
variable {z:ZK}
@[go_sem] theorem ZV {K}:Al z [] σ K=K [] σ:=by rw [Al]
@[go_sem] theorem ZW {k} {n} {vs} {K}:Al z (.int k n::vs) σ K=Al z vs σ fun ds σ'=>K (.int k n::ds) σ':=by rw [Al]
@[go_sem] theorem XR {b} {vs} {K}:Al z (.bool b::vs) σ K=Al z vs σ fun ds σ'=>K (.bool b::ds) σ':=by rw [Al]
@[go_sem] theorem ZX {s} {vs} {K}:Al z (.str s::vs) σ K=Al z vs σ fun ds σ'=>K (.str s::ds) σ':=by rw [Al]
@[go_sem] theorem XS {vs} {K}:Al z (.nils ::vs) σ K=Al z vs σ fun ds σ'=>K (Dc z::ds) σ':=by rw [Al]
@[go_sem] theorem mA:Dc .no = .sl [] :=rfl
@[go_sem] theorem mB:Dc .yes = .fz [] :=rfl
@[go_sem] theorem mC:Dc .nl = .nl :=rfl
@[go_sem] theorem XT {vs} {K}:Al z (.nilp ::vs) σ K=Al z vs σ fun ds σ'=>K (.nilp ::ds) σ':=by rw [Al]
@[go_sem] theorem bw {rows} {vs} {K}:Al z (.ro rows::vs) σ K=AM (z= .yes) (Al z vs σ fun ds σ'=>K (.fz rows::ds) σ'):=by rw [Al]; rfl
@[go_sem] theorem ZY {ws} {off} {vs} {K}:Al z (.rop ws off::vs) σ K=AM (z= .yes) (optX (unD (.rop ws off)) fun d=>Al z vs σ fun ds σ'=>K (d::ds) σ'):=by rw [Al]; rfl
@[go_sem] theorem ZZ {b n sz} {vs} {K}:Al z (.bsl b n sz::vs) σ K=if n=0 then Al z vs σ fun ds σ'=>K (Dc z::ds) σ' else U1 z b n sz σ fun rows σ1=>Al z vs σ1 fun ds σ'=>K (.sl rows::ds) σ':=by rw [Al]
@[go_sem ↓] theorem i8 {b n sz} {K}:U1 z b n sz σ K=AM (1000≤b) (AM (0<sz) (optX (σ.B b) fun vs=>optX (Hu z vs) fun ds=>AM (ds.length=n*sz) (AY (An sz n ds) fun rows=>K rows (σ.killB b)))):=rfl
@[go_sem] theorem ff {s t b} {x}:St.killB ⟨s,t,b⟩ x=⟨s,t,(x,none)::b⟩:=rfl
attribute [go_sem] HO litD Hu unD unDs
@[go_sem] theorem Za {t} {vs} {K}:Al z (.own t::vs) σ K=optX (σ.T t) fun tk=>AM (okZ z tk=true) (Al z vs (σ.killT t) fun ds σ'=>K (.sl tk.rows::ds) σ'):=by rw [Al]; rfl
end
def stX (P:Program) (t:TypeId) (a:AV) (cs:Option (List AV)) (σ:St) (K:St→Prop):Prop:=
 optX cs fun cs=>AM (cs.length=tsz P t∧0<tsz P t∧cs.all AV.one=true) (match a with
  | .box b off=>∃vs,σ.B b=some vs∧isMp vs=false∧off+cs.length≤vs.length∧K (σ.setB b (splice vs off cs))
  | .elt t' sz i off=>∃tk0,σ.T t'=some tk0∧Al tk0.z cs σ fun ds σ'=>∃tk row,(σ'.T t'=some tk∧tk.z=tk0.z)∧tk.rows[i]? =some row∧row.length=sz∧off+ds.length≤sz∧K (σ'.setT t' ⟨tk.rows.set i (splice row off ds),tk.sz,if Cg row off ds=true then tk.gen else tk.gen+1,tk.z⟩)
  | .els t' g p sz i off=>Al .no cs σ fun ds σ'=>∃rows,subR σ'.T t' g p=some rows∧∃row,rows[i]? =some row∧(p≠ [] ∧row.length=sz∧off+ds.length≤sz∧Cg row off ds=true)∧∃tk,σ'.T t'=some tk∧K (σ'.setT t' ⟨putR p tk.rows (.sl (rows.set i (splice row off ds))),tk.sz,tk.gen,tk.z⟩)
  |_=>False)
theorem Zb {pos} {dst} {t} {a x}:opX P pos dst (.store t a x) σ K=stX P t (σ.e a) (cellsOf (σ.e x)) σ fun σ'=>K (σ'.put dst .any):=by
 grind [opX,aop,Jf,stX,Eu,AM,Pr]
@[go_sem] theorem Ui {t} {b off} {cs}:stX P t (.box b off) (some cs) σ K=AM (cs.length=tsz P t∧0<tsz P t∧cs.all AV.one=true) (optX (σ.B b) fun vs=>AM (isMp vs=false) (AM (off+cs.length≤vs.length) (AY (splice vs off cs) fun vs'=>K (σ.setB b vs')))):=by
 rw [stX,Eu]; rfl
@[go_sem] theorem Zc {t:TypeId} {t' g sz i off:Nat} {p:Pth} {cs:List AV}:stX P t (.els t' g p sz i off) (some cs) σ K=AM (cs.length=tsz P t∧0<tsz P t∧cs.all AV.one=true) (Al .no cs σ fun ds σ'=>optX (subR σ'.T t' g p) fun rows=>optX rows[i]? fun row=>AM (p≠ [] ∧row.length=sz∧off+ds.length≤sz∧Cg row off ds=true) (optX (σ'.T t') fun tk=>Ih (putR p tk.rows (.sl (rows.set i (splice row off ds)))) fun rows'=>K (σ'.setT t' ⟨rows',tk.sz,tk.gen,tk.z⟩))):=by
 rw [stX,Eu]
 grind [AM,optX,EW]
@[go_sem] theorem Zd {t:TypeId} {t' sz i off:Nat} {cs:List AV}:stX P t (.elt t' sz i off) (some cs) σ K=AM (cs.length=tsz P t∧0<tsz P t∧cs.all AV.one=true) (optX (σ.T t') fun tk0=>Al tk0.z cs σ fun ds σ'=>optX (σ'.T t') fun tk=>AM (tk.z=tk0.z) (optX tk.rows[i]? fun row=>AM (row.length=sz∧off+ds.length≤sz) (Ih (tk.rows.set i (splice row off ds)) fun rows=>K (σ'.setT t' ⟨rows,tk.sz,if Cg row off ds=true then tk.gen else tk.gen+1,tk.z⟩)))):=by
 rw [stX,Eu]
 grind [AM,optX,EW]
section
variable {z:ZK}
@[go_sem] theorem V0 {e} {sz} {K}:NI z e sz .nils σ K=K [] σ:=rfl
@[go_sem] theorem XU {e} {sz b n sz'} {K}:NI z e sz (.bsl b n sz') σ K=if n=0 then K [] σ else AM (sz'=sz) (U1 z b n sz σ K):=rfl
@[go_sem] theorem XV {e} {sz t} {K}:NI z e sz (.own t) σ K=optX (σ.T t) fun tk=>AM (tk.sz=some sz∧okZ z tk=true) (K tk.rows (σ.killT t)):=rfl
@[go_sem] theorem V1 {sz} {K}:IJ z sz .nils σ K=K [] σ:=rfl
@[go_sem] theorem XW {sz b n sz'} {K}:IJ z sz (.bsl b n sz') σ K=optX (σ.B b) fun vs=>AM (sz'=sz∧vs.length=n*sz∧vs.all AV.one=true) (Al z vs σ fun ds σ'=>AY (An sz n ds) fun rows=>K rows σ'):=by
 simp only [IJ,optX,AM,AY]
 grind
@[go_sem] theorem Ze {sz} {rows} {K}:IJ .no sz (.ro rows) σ K=AM (∀row ∈ rows,row.length=sz∧∀d ∈ row,d.flat=true) (K rows σ):=rfl
@[go_sem] theorem fg {sz} {rows} {K}:IJ .nl sz (.ro rows) σ K=AM (∀row ∈ rows,row.length=sz∧∀d ∈ row,d.flat=true) (K rows σ):=rfl
@[go_sem] theorem XX {sz:Nat} {rows:List (List D)} {K:List (List D)→St→Prop}:IJ .yes sz (.ro rows) σ K=AM (∀row ∈ rows,row.length=sz∧∀d ∈ row,d≠ .gone) (Ih (fzR rows) fun r=>K r σ):=by
 grind [IJ,AM,EW]
@[go_sem] theorem XY {sz t} {K}:IJ z sz (.own t) σ K=optX (σ.T t) fun tk=>AM (okZ z tk=true) (AM (∀row ∈ tk.rows,row.length=sz) (K tk.rows (σ.killT t))):=by
 grind [IJ,optX,AM]
end
attribute [go_sem] An
def apX (P:Program) (pos:Nat) (e:TypeId) (x y:AV) (dst:Option Tmp) (σ:St) (K:St→Prop):Prop:=
 AM (0<tsz P e∧(tz P e).length =tsz P e) (zX fun z=>NI z e (tsz P e) x σ fun rows σ1=>IJ z (tsz P e) y σ1 fun rows2 σ2=>
   AM ((rows.length+rows2.length)*P.bytesOf e≤140737488355328∧rows.length+rows2.length≤maxLen) (AM (look σ2.t (pos*16)=none) (K ((σ2.setT (pos*16) ⟨rows++rows2,some (tsz P e),0,z⟩).put dst (.own (pos*16))))))
theorem XZ {pos} {dst} {x y} {t}:opX P pos dst (.call ⟨.builtin .append,List.toArray [x,y],List.toArray [t,t]⟩) σ K=slX (ti P t) fun e=>apX P pos e (σ.e x) (σ.e y) dst σ K:=by
 unfold opX
 simp only [aop,Su,slX,true_and]
 generalize ti P t=q
 split
 ·rename_i e
  show (0<tsz P e∧(tz P e).length =tsz P e∧_)=((0<tsz P e∧(tz P e).length =tsz P e)∧_)
  rw [and_assoc]
  congr 1
  congr 1
  show (∃z,_)=(∃z,_)
  congr 1
  funext z
  congr 1
  funext rows σ1
  congr 1
  funext rows2 σ2
  show (_∧_∧_∧_)=((_∧_)∧_∧_)
  rw [and_assoc]
 grind
end
@[go_sem] theorem dY {v x}:DT v [] x=x:=by cases v <;> rfl
attribute [go_sem ↓] bq
attribute [go_sem ↓] ZI bp XP ZJ ZL ZM ZN ZQ ZR XQ ZT bt ZV ZW XR ZX XS XT bw ZY ZZ Za Ui Zd Zc V0 XU XV V1 XW Ze XX XY
end Go.Proofs.YtoncbhomocgmcaaGreatDoor.Ab
namespace Go.Proofs.YtoncbhomocgmcaaGreatDoor.Ab
set_option linter.unusedVariables false
open Go.RowKit
section
variable {P:Program} {σ:St} {K:St→Prop} {Q:AE→St→Prop}
@[go_sem] theorem bx {n} (h1: -9223372036854775808≤n) (h2:n≤9223372036854775807):IntKind.i64.wrap n=n:=Go.IntWalk.i64_in n ⟨h1,h2⟩
@[go_sem ↓] theorem fh {K}:JH P σ [] K=K [] :=rfl
@[go_sem ↓] theorem fj {t} {l} {K}:JH P σ (.tmp t::l) K=AY (σ.g t) fun v=>JH P σ l fun vs=>K (v::vs):=rfl
@[go_sem ↓] theorem dZ {a} {t} {l} {K}:JH P σ (.cell a t::l) K=If P t (σ.g a) σ fun v=>JH P σ l fun vs=>K (v::vs):=rfl
@[go_sem] theorem Zf {k} {n m}:CD (.int k n) (.int k m) σ K=AM (n=m) (K σ):=by simp [CD,AM]
@[go_sem] theorem Xa {b c}:CD (.bool b) (.bool c) σ K=AM (b=c) (K σ):=by rfl
@[go_sem] theorem Zg {s s'}:CD (.str s) (.str s') σ K=AM (s=s') (K σ):=by rfl
@[go_sem] theorem Xb:CD .nilp .nilp σ K=K σ:=by rfl
@[go_sem] theorem Xc {ap} {rows}:CD .nils (.ow ap rows) σ K=AM (rows=[]) (K σ):=by rfl
@[go_sem] theorem Zh {b n sz} {ap} {rows}:CD (.bsl b n sz) (.ow ap rows) σ K=AM (n=0) (AM (rows=[]) (K σ)):=by rfl
@[go_sem] theorem Zi {t} {ap} {rows}:CD (.own t) (.ow ap rows) σ K=optX (σ.T t) fun tk=>AM (tk.rows=rows) (AM (ap=none∨tk.sz=ap) (AM (tk.z= .no) (K (σ.killT t)))):=by rfl
@[go_sem] theorem Zj {rows rows'}:CD (.ro rows) (.ro rows') σ K=AM (rows=rows') (K σ):=by rfl
@[go_sem] theorem jA {rows rows'}:CD (.ro rows) (.ow none rows') σ K=AM (rows=[]) (AM (rows'=[]) (K σ)):=by simp [CD,AM]
@[go_sem] theorem Zk {vs} {rs}:CD (.agg vs) (.agg rs) σ K=Gt vs rs σ K:=by rfl
@[go_sem] theorem Zl {vs} {rs}:CD (.tup vs) (.tup rs) σ K=Gt vs rs σ K:=by rfl
@[go_sem] theorem Xd:Gt [] [] σ K=K σ:=by rfl
@[go_sem] theorem V2 {v} {vs} {r} {rs}:Gt (v::vs) (r::rs) σ K=CD v r σ fun σ'=>Gt vs rs σ' K:=by rfl
def V3 (r:RV) (σ:St) (vs:List AV):Prop:=match vs with
 | [v] =>CD v r σ fun _=>True
 |vs=>CD (.tup vs) r σ fun _=>True
@[go_sem ↓] theorem jB {r}:V3 r σ [] =CD (.tup []) r σ fun _=>True:=rfl
@[go_sem ↓] theorem jC {r} {v}:V3 r σ [v] =CD v r σ fun _=>True:=rfl
@[go_sem ↓] theorem jD {r} {v u} {vs}:V3 r σ (v::u::vs)=CD (.tup (v::u::vs)) r σ fun _=>True:=rfl
def endX (P:Program) (l:List ResultVar) (r:RV) (q:AE) (σ:St):Prop:=match q with| .exit _=>False|_=>JH P σ l (V3 r σ)
@[go_sem ↓] theorem bz {l} {r}:endX P l r .normal σ=JH P σ l (V3 r σ):=rfl
@[go_sem ↓] theorem jE {l} {r}:endX P l r .ret σ=JH P σ l (V3 r σ):=rfl
theorem fk (hm:P.follows .mixedOrders =true) {f} {fn} {c} {l} {args} {r} (hf:P.funcs[f]? =some fn) (hb:fn.body=some c) (hr:fn.results=l.toArray) (hnm:(fn.name == "runtime.NumGoroutine")=false)
  (hn:decide (args.length≤fn.ntmps)=true) (hok:D2 fn.ntmps c=true) (h:awp P c (endX P l r) (st0 args)):AC P f args r:=by
 refine TL hm hf hb hnm (of_decide_eq_true hn) hok ?_
 have e:endQ P fn.results.toList r=endX P l r:=by
  rw [hr]
  funext q σ
  cases q <;> rfl
 rw [e]
 exact h
attribute [go_sem] st0 N2
def Xe {X:Type} (R:X→Prop) (inv:X→St) (μ:X→Nat) (x:X) (σ:St):Prop:=∃x',YQ σ (inv x')∧R x'∧μ x'<μ x
def cA {X:Type} (R:X→Prop) (inv:X→St) (μ:X→Nat) (x:X) (σ:St) (_:Wrap R) (_:Wrap inv) (_:Wrap μ) (_:Wrap x):Prop:=Xe R inv μ x σ
@[go_sem ↓] theorem db {X:Type} {R:X→Prop} {inv:X→St} {μ:X→Nat} {x:X} {σ:St}:Xe R inv μ x σ=cA R inv μ x σ ⟨⟩ ⟨⟩ ⟨⟩ ⟨⟩:=rfl
attribute [go_sem] Gj RH NO NP ren rens DU D1 List.nodup_nil List.all_nil List.all_cons AV.int.injEq AV.bool.injEq AV.str.injEq AV.ro.injEq AV.rop.injEq AV.agg.injEq AV.fn.injEq AV.own.injEq AV.box.injEq AV.bsl.injEq AV.elt.injEq List.cons.injEq Tok.mk.injEq Option.isSome_some exists_eq_left' exists_eq_left
end
attribute [go_sem ↓] Zf Xa Zg Xb Xc Zh Zi Zj Zk Zl Xd V2
end Go.Proofs.YtoncbhomocgmcaaGreatDoor.Ab
namespace Go.Proofs.YtoncbhomocgmcaaGreatDoor.Ab
set_option linter.unusedVariables false
open Go.RowKit
section
variable {P:Program} {σ:St} {K:St→Prop} {pos:Nat} {dst:Option Tmp} {t t' s d:TypeId} {x y a b c g l:Operand} {f i:Nat} {op:BinOp}
def slY (t:TI) (K:TypeId→Prop) (_:Wrap K):Prop:=slX t K
@[go_sem ↓] theorem mD {t} {K}:slX t K=slY t K ⟨⟩:=rfl
@[go_sem] theorem mE {e} {K} {w}:slY (.sl e) K w=K e:=rfl
def aN (t:TI) (K:IntKind→Prop) (_:Wrap K):Prop:=R8 t K
@[go_sem ↓] theorem fl {t} {K}:R8 t K=aN t K ⟨⟩:=rfl
@[go_sem] theorem dc {k} {K} {w}:aN (.int k) K w=K k:=rfl
def stY (P:Program) (t:TI) (K:List (Nat × TypeId)→Prop) (_:Wrap K):Prop:=SE P t K
@[go_sem ↓] theorem mF {t} {K}:SE P t K=stY P t K ⟨⟩:=rfl
@[go_sem] theorem mG {fs} {K} {w}:stY P (.st fs) K w=K fs:=rfl
@[go_sem] theorem jF {n} {el} {K} {w}:stY P (.arr n el) K w=AM (0<tsz P el) (AY (IG (tsz P el) el n 0) K):=rfl
def Zm (rows:List (List D)) (n:Int) (sz:Nat) (K:List D→Prop) (_:Wrap K):Prop:=SB rows n sz K
@[go_sem ↓] theorem jG {rows} {n} {sz} {K}:SB rows n sz K=Zm rows n sz K ⟨⟩:=rfl
def fo {α:Type} (v:α) (K:α→Prop) (_:Wrap K):Prop:=Ih v K
@[go_sem ↓] theorem jH {α:Type} {v:α} {K:α→Prop}:Ih v K=fo v K ⟨⟩:=rfl
theorem AN {α:Type} {v} {K} {w} (y:α) (h:v=y) (hk:K y):fo v K w:=⟨y,h,hk⟩
theorem Xf {P:Program} {σ:St} {K:St→Prop} {t} {b o s:Nat} {n:Int} {cs}:stX P t (.box b (o+Int.toNat n*s)) (some cs) σ K=AM (cs.length=tsz P t∧0<tsz P t∧cs.all AV.one=true) (optX (σ.B b) fun vs=>AM (isMp vs=false) (AM (o+Int.toNat n*s+cs.length≤vs.length) (Ih (splice vs (o+Int.toNat n*s) cs) fun vs'=>K (σ.setB b vs')))):=by
 rw [Ui]; simp only [EW]; rfl
attribute [go_sem ↓ high] Xf
def Gk (n:Nat) (rs:List RV) (K:List AV→List (Nat × Tok)→Prop) (_:Wrap K):Prop:=K (EU n rs).1 (EU n rs).2
def cv1 (n:Nat) (r:RV) (K:AV→List (Nat × Tok)→Prop):Prop:=K (conv n r).1 (conv n r).2
section
variable {n:Nat} {rs us:List RV} {L:List AV→List (Nat × Tok)→Prop} {L1:AV→List (Nat × Tok)→Prop} {w:Wrap L}
@[go_sem] theorem Zn:Gk n [] L w=L [] [] :=rfl
@[go_sem] theorem Zo {k} {x}:Gk n (.int k x::rs) L w=Gk n rs (fun vs ts=>L (.int k x::vs) ts) ⟨⟩:=by rfl
@[go_sem] theorem Xg {b}:Gk n (.bool b::rs) L w=Gk n rs (fun vs ts=>L (.bool b::vs) ts) ⟨⟩:=by rfl
@[go_sem] theorem Zp {x}:Gk n (.str x::rs) L w=Gk n rs (fun vs ts=>L (.str x::vs) ts) ⟨⟩:=by rfl
@[go_sem] theorem cC {x}:Gk n (.ro x::rs) L w=Gk n rs (fun vs ts=>L (.any ::vs) ts) ⟨⟩:=by rfl
@[go_sem] theorem Xh:Gk n (.nilp ::rs) L w=Gk n rs (fun vs ts=>L (.nilp ::vs) ts) ⟨⟩:=by rfl
@[go_sem] theorem cD {ap} {x}:Gk n (.ow ap x::rs) L w=Gk (n+1) rs (fun vs ts=>L (.own n::vs) ((n,⟨x,ap,0,.no⟩)::ts)) ⟨⟩:=by rfl
@[go_sem] theorem Zq:Gk n (.agg us::rs) L w=Gk n us (fun ws ts=>Gk (n+ts.length) rs (fun vs ts'=>L (.agg ws::vs) (ts++ts')) ⟨⟩) ⟨⟩:=by rfl
@[go_sem] theorem Zr:Gk n (.tup us::rs) L w=Gk n us (fun ws ts=>Gk (n+ts.length) rs (fun vs ts'=>L (.tup ws::vs) (ts++ts')) ⟨⟩) ⟨⟩:=by rfl
@[go_sem ↓] theorem jI {k} {x}:cv1 n (.int k x) L1=L1 (.int k x) [] :=rfl
@[go_sem ↓] theorem ft {b}:cv1 n (.bool b) L1=L1 (.bool b) [] :=rfl
@[go_sem ↓] theorem jJ {x}:cv1 n (.str x) L1=L1 (.str x) [] :=rfl
@[go_sem ↓] theorem mH {x}:cv1 n (.ro x) L1=L1 .any [] :=rfl
@[go_sem ↓] theorem fu:cv1 n .nilp L1=L1 .nilp [] :=rfl
@[go_sem ↓] theorem mI {ap} {x}:cv1 n (.ow ap x) L1=L1 (.own n) [(n,⟨x,ap,0,.no⟩)] :=rfl
@[go_sem ↓] theorem jK:cv1 n (.agg us) L1=Gk n us (fun ws ts=>L1 (.agg ws) ts) ⟨⟩:=by rfl
@[go_sem ↓] theorem jL:cv1 n (.tup us) L1=Gk n us (fun ws ts=>L1 (.tup ws) ts) ⟨⟩:=by rfl
end
attribute [go_sem ↓] Zn Zo Xg Zp cC Xh cD Zq Zr
def N8 (P:Program) (L:Bool) (pos:Nat) (f:FuncId) (args:List AV) (as:Option (List AV)) (dst:Option Tmp) (σ:St) (K:St→Prop) (_:Wrap K) (w:Wrap L):Prop:=Pu P L pos f args as dst σ K w
@[go_sem ↓] theorem fv {L} {wL} {f} {args} {as}:Pu P L pos f args as dst σ K wL=N8 P L pos f args as dst σ K ⟨⟩ wL:=rfl
theorem AU {f} {args bs} {w} {rv} (h:AC P f bs rv) (hk:AY (pos*16) fun m=>cv1 m rv fun v ts=>AM (Bt σ ts) (K (σ.add dst ⟨v,ts,[]⟩))) {L} {wL}:N8 P L pos f args (some bs) dst σ K w wL:=ZU h hk.1 hk.2
theorem AZ {f} {args bs} {w} {rv} {o} (h:AG P f bs [] [] rv [] []) (e:cls (fun _=>none) (fun _=>none) args=some bs) (hp:PC rv=true) (hk:K (σ.add dst ⟨rv,[],[]⟩)) {L} {wL}:N8 P L pos f args o dst σ K w wL:=.inl (.inr ⟨bs,rv,[],[],h,e,.inl ⟨rfl,hp,hk⟩⟩)
attribute [go_sem] PC UF UE AV.isNils AV.aggN AV.tupN Bool.or_true Bool.true_or Bool.or_false Bool.false_or
def Uj (y:Way) (as:List AV) (pt:List (Nat × Tok)) (pb:List (Nat × List AV)) (qt:List (Nat × Tok)) (qb:List (Nat × List AV)):Bool:=
 decide (((y.rt++y.nt).map (·.2)).Nodup)&&decide (((y.rt++y.nt).map (·.1)).Nodup)&&decide (((y.rb.map (·.2.1))++y.nb.map (·.2)).Nodup)&&decide (((y.rb.map (·.1))++y.nb.map (·.1)).Nodup)&&
 (y.rt.all fun p=>(look pt p.1).isSome)&&(y.rb.all fun p=>(look pb p.1).isSome)&&(y.nt.all fun p=>(look pt p.1).isNone)&&(y.nb.all fun p=>(look pb p.1).isNone)&&decide ((pt.map (·.1)).Nodup)&&decide ((pb.map (·.1)).Nodup)&&
 (pb.all fun p=>(look qb p.1).isSome)&&IK y.rt y.cv&&(y.md||noZ qt)&&WU as pt pb&&(y.rt.all fun p=>decide (p.1 <1000)||(look qt p.1).isNone)
def N9:List (Nat × Nat)→List (Nat × Option Tok)→Prop
 | [],_=>True
 |(_,n)::r,t=>look t n=none∧N9 r t
def Ku:List (Nat × Nat)→List (Nat × Option (List AV))→Prop
 | [],_=>True
 |(_,n)::r,t=>look t n=none∧Ku r t
def Uk (y:Way) (args as:List AV) (pt:List (Nat × Tok)) (pb:List (Nat × List AV)) (σ1:St):Prop:=
 N9 y.nt σ1.t∧Ku y.nb σ1.b∧L9 y.rt σ1 pt∧EV y σ1 (σ1.less y) pb∧PasL y (σ1.less y) args as
theorem MR {t}:∀ {l},N9 l t→∀p ∈ l,(look t p.2).isNone =true
 | [],_,p,h=>by cases h
 |(c,n)::l,hf,p,h=>by
  simp only [N9] at hf
  rcases List.mem_cons.1 h with rfl|h
  ·rw [hf.1]; rfl
  ·exact MR hf.2 p h
theorem Kv {t}:∀ {l},Ku l t→∀p ∈ l,(look t p.2).isNone =true
 | [],_,p,h=>by cases h
 |(c,n)::l,hf,p,h=>by
  simp only [Ku] at hf
  rcases List.mem_cons.1 h with rfl|h
  ·rw [hf.1]; rfl
  ·exact Kv hf.2 p h
theorem Xi {f} {args} {σ} {as} {pt} {pb} {r} {qt} {qb} {K} (y:Way) (h:AG P f as pt pb r qt qb) (hB:Uj y as pt pb qt qb=true)
  (hc:BR y.cv σ fun σ1=>AM (Uk y args as pt pb σ1) (Ar y.cv (σ1.after y qt qb) fun σ2=>K (bak y r) σ2)):PG P f args σ K:=by
 refine⟨y,as,pt,pb,r,qt,qb,h,F2 (fun σ1 h=>?_) hc⟩
 unfold Uj at hB
 simp only [Bool.and_eq_true,decide_eq_true_eq,and_assoc] at hB
 obtain⟨b1,b2,b3,b4,b5,b6,b7,b8,b9,b10,b11,b12,bm,b13,b14⟩:=hB
 obtain⟨⟨h1,h2,h3,h4,h5⟩,h6⟩:=h
 refine⟨⟨b1,b2,b3,b4,b5,b6,?_,?_,b9,b10⟩,h3,h4,h5,b11,⟨b12,bm⟩,b13,b14,h6⟩
 ·rw [List.all_eq_true] at b7 ⊢
  intro p hp
  rw [b7 p hp,MR h1 p hp]; rfl
 ·rw [List.all_eq_true] at b8 ⊢
  intro p hp
  rw [b8 p hp,Kv h2 p hp]; rfl
theorem cE {L} {wL} {f} {args} {o} {w} {as} {pt} {pb} {r} {qt} {qb} (y:Way) (hL:L=true) (h:AG P f as pt pb r qt qb) (hB:Uj y as pt pb qt qb=true)
  (hc:BR y.cv σ fun σ1=>AM (Uk y args as pt pb σ1) (Ar y.cv (σ1.after y qt qb) fun σ2=>K (σ2.put dst (bak y r)))):N8 P L pos f args o dst σ K w wL:=.inr ⟨hL,[],Xi (K:=fun v σ'=>K (σ'.put dst v)) y h hB hc⟩
@[go_sem ↓] theorem jM {args} {K}:FzK [] args σ K=K args σ:=rfl
@[go_sem ↓] theorem fw {b} {r} {args} {s} {t} {bb} {K}:FzK (b::r) args ⟨s,t,bb⟩ K=optX ((look bb b).join) fun vs=>AM (1000≤b∧isMp vs=false) (AY (args.map (fzA b vs)) fun args'=>FzK r args' ⟨s,t,(b,none)::bb⟩ K):=rfl
section
variable {b:Nat} {vs:List AV}
@[go_sem] theorem jN {x n sz}:fzA b vs (.bsl x n sz)=(cl (fun _=>none) (only b vs) (.bsl x n sz)).getD (.bsl x n sz):=rfl
@[go_sem] theorem jO {x off}:fzA b vs (.box x off)=(cl (fun _=>none) (only b vs) (.box x off)).getD (.box x off):=rfl
@[go_sem] theorem jP {us}:fzA b vs (.agg us)=(cl (fun _=>none) (only b vs) (.agg us)).getD (.agg us):=rfl
@[go_sem] theorem jQ {k} {n}:fzA b vs (.int k n)= .int k n:=rfl
@[go_sem] theorem fx {x}:fzA b vs (.bool x)= .bool x:=rfl
@[go_sem] theorem jR {x}:fzA b vs (.str x)= .str x:=rfl
@[go_sem] theorem mJ {x}:fzA b vs (.ro x)= .ro x:=rfl
@[go_sem] theorem jS {x}:fzA b vs (.own x)= .own x:=rfl
@[go_sem] theorem jT {x} {off}:fzA b vs (.rop x off)= .rop x off:=rfl
@[go_sem] theorem jU {t sz i off}:fzA b vs (.elt t sz i off)= .elt t sz i off:=rfl
@[go_sem] theorem mK {f} {x}:fzA b vs (.fn f x)= .fn f x:=rfl
@[go_sem] theorem fy:fzA b vs .nilp = .nilp :=rfl
@[go_sem] theorem f4:fzA b vs .nils = .nils :=rfl
@[go_sem] theorem jV {x}:fzA b vs (.mpr x)= .mpr x:=rfl
@[go_sem] theorem jW:fzA b vs .any = .any :=rfl
end
attribute [go_sem] Option.getD_some Option.getD_none Option.join_some Option.bind_some Option.bind_none only
attribute [go_sem] ne_eq true_imp_iff implies_true false_imp_iff Cg D.flat kept Uk N9 Ku L9 St.less MA NJ NK NL Sv Sw St.after bak baks EV
@[go_sem ↓] theorem dd:BR [] σ K=K σ:=by rw [BR]
@[go_sem ↓] theorem cG {n} {z} {r} {s} {t} {b}:BR ((n,.nils,z)::r) ⟨s,t,b⟩ K=AM (look t n=none) (BR r ⟨s,(n,some ⟨[],z,0,.no⟩)::t,b⟩ K):=by rw [BR]; rfl
@[go_sem ↓] theorem de {n x m sz} {z} {r} {s} {t} {b}:BR ((n,.bsl x m sz,z)::r) ⟨s,t,b⟩ K=AM (m=0) (AM (look t n=none) (BR r ⟨s,(n,some ⟨[],z,0,.no⟩)::t,b⟩ K)):=by rw [BR]; rfl
@[go_sem ↓] theorem dg {n t' g sz i j:Nat} {r:List (Nat × AV × Option Nat)} {s:List (Nat × AV)} {t:List (Nat × Option Tok)} {b:List (Nat × Option (List AV))}:BR ((n,.sub t' g [(sz,i,j)],none)::r) ⟨s,t,b⟩ K=
  AM (look t n=none∧n≠t') (optX (look t t').join fun tk=>AM (tk.gen=g) (optX (getP [(sz,i,j)] tk.rows) fun rows=>Ih (putR [(sz,i,j)] tk.rows .gone) fun rows'=>BR r ⟨s,(n,some ⟨rows,none,0,tk.z⟩)::(t',some ⟨rows',tk.sz,g,tk.z⟩)::t,b⟩ K)):=by
 rw [BR]
 simp only [AM,optX,EW,List.length_cons,List.length_nil,true_and,Nat.zero_add]
 refine propext ⟨?_,?_⟩
 ·rintro ⟨h2,tk,rows,h4,h5,h6,h7,h8⟩; exact⟨⟨h2,h7⟩,tk,h4,h5,rows,h6,h8⟩
 ·rintro ⟨⟨h2,h7⟩,tk,h4,h5,rows,h6,h8⟩; exact⟨h2,tk,rows,h4,h5,h6,h7,h8⟩
@[go_sem ↓] theorem jX:Ar [] σ K=K σ:=by rw [Ar]
def unX (n:Nat) (K:St→Prop) (σ:St):Prop:=K {σ with t:=(n,none)::σ.t}
@[go_sem ↓] theorem mL {n} {s} {t} {b}:unX n K ⟨s,t,b⟩=K ⟨s,(n,none)::t,b⟩:=rfl
@[go_sem ↓] theorem f5 {n} {z} {r}:Ar ((n,.nils,z)::r) σ K=Ar r σ (unX n K):=by rw [Ar]; rfl; grind
@[go_sem ↓] theorem jY {n x m sz} {z} {r}:Ar ((n,.bsl x m sz,z)::r) σ K=Ar r σ (unX n K):=by rw [Ar]; rfl; grind
def unS (n t' g:Nat) (p:Pth) (K:St→Prop) (σ:St):Prop:=match σ.T n with
 |some tn=>∃tk,σ.T t'=some tk∧KU p tk.rows=some .gone ∧(n≠t'∧okZ tk.z tn=true)∧K {σ with t:=(n,none)::(t',some ⟨putR p tk.rows (.sl tn.rows),tk.sz,if tn.gen=0∧tk.gen=g then g else tk.gen+tn.gen+1,tk.z⟩)::σ.t}
 |none=>K σ
@[go_sem ↓] theorem jZ {n t' g} {p} {z} {r}:Ar ((n,.sub t' g p,z)::r) σ K=Ar r σ (unS n t' g p K):=by rw [Ar]; rfl
def unO (o:Option Tok) (n t' g:Nat) (p:Pth) (K:St→Prop) (σ:St):Prop:=match o with
 |some tn=>AM (n≠t') (optX (σ.T t') fun tk=>AM (okZ tk.z tn=true) (AM (KU p tk.rows=some .gone) (Ih (putR p tk.rows (.sl tn.rows)) fun rows=>K ⟨σ.s,(n,none)::(t',some ⟨rows,tk.sz,if tn.gen=0∧tk.gen=g then g else tk.gen+tn.gen+1,tk.z⟩)::σ.t,σ.b⟩)))
 |none=>K σ
@[go_sem ↓] theorem mM {n t' g:Nat} {p:Pth} {s:List (Nat × AV)} {t:List (Nat × Option Tok)} {b:List (Nat × Option (List AV))}:unS n t' g p K ⟨s,t,b⟩=unO (look t n).join n t' g p K ⟨s,t,b⟩:=by
 grind [unS,unO,St.T,AM,optX,EW]
@[go_sem] theorem f6 {n t' g} {p} {tn}:unO (some tn) n t' g p K σ=AM (n≠t') (optX (σ.T t') fun tk=>AM (okZ tk.z tn=true) (AM (KU p tk.rows=some .gone) (Ih (putR p tk.rows (.sl tn.rows)) fun rows=>K ⟨σ.s,(n,none)::(t',some ⟨rows,tk.sz,if tn.gen=0∧tk.gen=g then g else tk.gen+tn.gen+1,tk.z⟩)::σ.t,σ.b⟩))):=rfl
@[go_sem] theorem f7 {n t' g} {p}:unO none n t' g p K σ=K σ:=rfl
theorem Ii {α:Type} {l:List α} {i:Nat} {x y:α} (h:l[i]? =some x):(l.set i y)[i]? =some y:=List.getElem?_set_self (Au h)
theorem cH {rows r} {sz i j} {row} {d} (h:rows[i]? =some row) (hl:row.length=sz) (hj:row[j]? =some d) (hd:ES d=some r):getP [(sz,i,j)] rows=some r:=by
 rw [getP,h]
 simp [hl,hj,hd,getP]
theorem QX {rows r} {sz i j} {row} (h:rows[i]? =some row) (hl:row.length=sz) (hj:row[j]? =some (.sl r)):getP [(sz,i,j)] rows=some r:=cH h hl hj rfl
theorem QY {rows} {sz i j} {row} {d} (h:rows[i]? =some row) (hl:row.length=sz) (hj:row[j]? =some d):KU [(sz,i,j)] rows=some d:=by
 grind [KU]
theorem Ij {rows} {sz i j} {row} {d d'} (h:rows[i]? =some row) (hj:row[j]? =some d'):putR [(sz,i,j)] rows d=rows.set i (row.set j d):=by
 grind [putR,Ab.put]
section
variable {y:Way} {σ0:St}
@[go_sem] theorem f8:PasL y σ0 [] [] =True:=by rfl
@[go_sem] theorem dh {a b} {as bs}:PasL y σ0 (a::as) (b::bs)=(CO y σ0 a b∧PasL y σ0 as bs):=by rfl
@[go_sem] theorem ja {n c}:CO y σ0 (.own n) (.own c)=(look y.rt c=some n∨∃z,∃m,look y.rt c=some m∧look y.cv m=some (.own n,z)):=by
 grind [CO]
def cvX (o:Option (AV × Option Nat)) (a:AV):Prop:=match o with|some x=>x.1 =a|none=>False
theorem QZ {o} {a}:(∃z,o=some (a,z))=cvX o a:=by
 unfold cvX
 grind
def rtX (o:Option Nat) (K:Nat→Prop):Prop:=match o with|some n=>K n|none=>False
@[go_sem] theorem f9 {n} {K}:rtX (some n) K=K n:=rfl
@[go_sem] theorem gA {x} {a}:cvX (some x) a=(x.1 =a):=rfl
theorem M7 {o} {p}:(∃n,o=some n∧p n)=rtX o p:=by
 cases o <;> simp [rtX]
@[go_sem] theorem jb {t g c} {p}:CO y σ0 (.sub t g p) (.own c)=rtX (look y.rt c) fun n=>cvX (look y.cv n) (.sub t g p):=by
 rw [← M7]
 grind [CO,QZ]
@[go_sem] theorem gB {c}:CO y σ0 .nils (.own c)=rtX (look y.rt c) fun n=>cvX (look y.cv n) .nils :=by
 rw [← M7]
 grind [CO,QZ]
@[go_sem] theorem jc {x m sz c}:CO y σ0 (.bsl x m sz) (.own c)=rtX (look y.rt c) fun n=>cvX (look y.cv n) (.bsl x m sz):=by
 rw [← M7]
 grind [CO,QZ]
@[go_sem] theorem jd {n off b off'}:CO y σ0 (.box n off) (.box b off')=match look y.rb b with|some q=>n=q.1 ∧off=q.2 +off'|none=>False:=by
 simp only [CO,AV.box.injEq]
 cases look y.rb b <;> simp
@[go_sem] theorem je {n sz i off c sz' i' off'}:CO y σ0 (.elt n sz i off) (.elt c sz' i' off')=rtX (look y.rt c) fun m=>n=m∧sz=sz'∧i=i'∧off=off':=by
 rw [← M7]
 grind [CO]
@[go_sem] theorem jf {vs us}:CO y σ0 (.agg vs) (.agg us)=PasL y σ0 vs us:=by rfl
@[go_sem] theorem mN {f f'} {vs us}:CO y σ0 (.fn f vs) (.fn f' us)=(f=f'∧PasL y σ0 vs us):=by rfl
@[go_sem] theorem jg {n b}:CO y σ0 (.mpr n) (.mpr b)=match look y.rb b with|some q=>n=q.1 |none=>False:=by
 simp only [CO,AV.mpr.injEq]
 cases look y.rb b <;> simp
def clW (y:Way) (σ0:St) (a:AV):Option AV:=cl (if y.md=true then fun _=>none else σ0.T) (if y.md=true then fun _=>none else σ0.B) a
@[go_sem] theorem jh {a} {k} {n}:CO y σ0 a (.int k n)=(clW y σ0 a=some (.int k n)):=by cases a <;> simp only [CO,clW]
@[go_sem] theorem gC {a} {b}:CO y σ0 a (.bool b)=(clW y σ0 a=some (.bool b)):=by cases a <;> simp only [CO,clW]
@[go_sem] theorem ji {a} {s}:CO y σ0 a (.str s)=(clW y σ0 a=some (.str s)):=by cases a <;> simp only [CO,clW]
@[go_sem] theorem mO {a} {rows}:CO y σ0 a (.ro rows)=(clW y σ0 a=some (.ro rows)):=by cases a <;> simp only [CO,clW]
@[go_sem] theorem Zs {a} {vs} {off}:CO y σ0 a (.rop vs off)=narR (clW y σ0 a) vs off:=by cases a <;> simp only [CO,clW]
@[go_sem] theorem Xj {us} {o'} {vs} {off}:narR (some (.rop us o')) vs off=((us=vs∧o'=off)∨(off=0∧Db us o' vs.length=vs)):=rfl
@[go_sem] theorem Xk {a}:CO y σ0 a .nilp =(clW y σ0 a=some .nilp):=by cases a <;> simp only [CO,clW]
@[go_sem] theorem jj {a} {q} {rows}:CO y σ0 a (.mpc q rows)=(clW y σ0 a=some (.mpc q rows)):=by cases a <;> simp only [CO,clW]
@[go_sem] theorem jk {a}:CO y σ0 a .any =(clW y σ0 a=some .any):=by cases a <;> simp only [CO,clW]
@[go_sem] theorem mP {cv rt rb nt nb} {a}:clW ⟨cv,rt,rb,nt,nb,true⟩ σ0 a=cl (fun _=>none) (fun _=>none) a:=by rfl
@[go_sem] theorem mQ {cv rt rb nt nb} {a}:clW ⟨cv,rt,rb,nt,nb,false⟩ σ0 a=cl σ0.T σ0.B a:=by rfl
end
def Xl (P:Program) (t:TypeId) (v:AV) (σ:St) (K:Bool→Prop) (_:Wrap K):Prop:=R4 P t v σ K
theorem gD {rows} {K} {w} (h:slP (ti P t)) (h0:rows=[] →K true) (h1:K false):Xl P t (.ro rows) σ K w:=Yk h h0 h1
@[go_sem] theorem di {K} {w}:Xl P t .nils σ K w=AM (slP (ti P t)) (K true):=Pt
@[go_sem] theorem gE {b n sz} {K} {w}:Xl P t (.bsl b n sz) σ K w=AM (slP (ti P t)) (K false):=R5
@[go_sem ↓] theorem dj:opX P pos dst (.makeMap t none) σ K=optX (Z9 P t) fun q=>AM (look σ.b pos=none) (K ((σ.put dst (.mpr pos)).setB pos [.mpc q []])):=by
 rw [Lk (fun _=>by rfl)]
 simp only [Ev,optX,AM]
 refine propext ⟨?_,?_⟩
 ·rintro ⟨r,⟨q,h1,rfl⟩,-,h2,h3⟩
  exact⟨q,h1,h2.1,by rw [← GX]; exact h3⟩
 ·rintro ⟨q,h1,h2,h3⟩
  exact⟨_,⟨q,h1,rfl⟩,trivial,⟨h2,trivial⟩,by rw [GX]; exact h3⟩
def lkR (ok:Bool) (o:Option D) (z:AV) (K:AV→Prop):Prop:=K (if ok=true then .tup [(o.map ofD).getD z,.bool o.isSome] else (o.map ofD).getD z)
@[go_sem] theorem mR {o} {z} {K}:lkR false o z K=AY ((o.map ofD).getD z) K:=by rfl
@[go_sem] theorem mS {o} {z} {K}:lkR true o z K=AY ((o.map ofD).getD z) fun v=>AY o.isSome fun b=>K (.tup [v,.bool b]):=by rfl
def lkX (P:Program) (t:TypeId) (u v:AV) (ok:Bool) (σ:St) (K:AV→Prop):Prop:=∃r,L7 P σ.B t u v ok r∧K r
@[go_sem] theorem jl {b} {v} {ok} {K}:lkX P t (.mpr b) v ok σ K=Tb (ti P t) fun kt et=>SD (σ.B b) fun q rows=>AM (NH P kt=some q) (optX (keyD v) fun k=>AM (Od q k=true) (optX (tz1 P et) fun z=>AY (zAV z) fun z'=>AY (C3 k rows) fun o=>lkR ok o z' K)):=by
 simp only [lkX,L7,Tb,SD,AM,optX,AY,lkR]
 grind
@[go_sem ↓] theorem gF {ok}:opX P pos dst (.lookup t x y ok) σ K=AY (σ.e x) fun u=>AY (σ.e y) fun v=>lkX P t u v ok σ fun r=>K (σ.put dst r):=
 EM (p:=fun v=>L7 P σ.B t (σ.e x) (σ.e y) ok v) (fun _=>by rfl) (fun r=>by rfl)
def Pv (a:AV):Option D:=match HO [a] with|some [d] =>some d|_=>none
@[go_sem] theorem dl {k} {n}:Pv (.int k n)=some (.int k n):=rfl
@[go_sem] theorem cI {b}:Pv (.bool b)=some (.bool b):=rfl
@[go_sem] theorem dp {s}:Pv (.str s)=some (.str s):=rfl
theorem Xm {a} {d}:HO [a] =some [d] ↔Pv a=some d:=by
 unfold Pv
 cases a <;> simp [HO]
def muX (P:Program) (t:TypeId) (u v x:AV) (σ:St) (K:St→Prop):Prop:=QD P t u v x σ K
@[go_sem] theorem jm {b:Nat} {v x:AV}:muX P t (.mpr b) v x σ K=Tb (ti P t) fun kt et=>SD (σ.B b) fun q rows=>AM (rows.length<68719476736) (AM (NH P kt=some q) (optX (keyD v) fun k=>AM (Od q k=true) (optX (Pv x) fun d=>Ih (mput k d rows) fun rows'=>K (σ.setB b [.mpc q rows'])))):=by
 simp only [muX,QD,Tb,SD,AM,optX,EW]
 grind [Xm]
@[go_sem ↓] theorem aO {m i}:opX P pos dst (.mapUpdate t m i x) σ K=AY (σ.e m) fun u=>AY (σ.e i) fun v=>AY (σ.e x) fun z=>muX P t u v z σ fun σ'=>K (σ'.put dst .any):=by
 rfl
@[go_sem ↓] theorem gG {m i}:opX P pos dst (.insert t m i x) σ K=AY (σ.e m) fun u=>AY (σ.e i) fun v=>AY (σ.e x) fun z=>muX P t u v z σ fun σ'=>K (σ'.put dst .any):=by
 rfl
attribute [go_sem] keyD PD
@[go_sem] theorem dq {ks} {ds}:Od (.wide ks) (.ptr ds)=II ks ds:=rfl
@[go_sem] theorem cJ {k ks n ds}:II (k::ks) (.int k n::ds)=II ks ds:=by simp [II]
@[go_sem] theorem dr:II [] [] =true:=rfl
@[go_sem] theorem gH {k} {n}:Od (.int k) (.int k n)=true:=by simp [Od]
@[go_sem] theorem gI {s}:Od .str (.str s)=true:=rfl
@[go_sem ↓] theorem mT:opX P pos dst (.pick c a b) σ K=AY (σ.e c) fun u=>AY (σ.e a) fun v=>AY (σ.e b) fun w=>N7 u v w fun v=>K (σ.put dst v):=bQ
@[go_sem ↓] theorem mU:opX P pos dst (.load t a) σ K=AY (σ.e a) fun u=>If P t u σ fun v=>K (σ.put dst v):=bR
@[go_sem ↓] theorem cK:opX P pos dst (.nilCheck x) σ K=AY (σ.e x) fun u=>QV u fun v=>K (σ.put dst v):=TX
@[go_sem ↓] theorem dt {y}:opX P pos dst (.binOp op t x (.tmp y) t') σ K=AY (σ.e x) fun u=>AY (σ.g y) fun v=>BC P op t u v fun v=>K (σ.put dst v):=Vq
@[go_sem ↓] theorem du {k} {n}:opX P pos dst (.binOp op t x (.const (.int k n)) t') σ K=AY (σ.e x) fun u=>BC P op t u (.int k n) fun v=>K (σ.put dst v):=Vr
@[go_sem ↓] theorem cL {b}:opX P pos dst (.binOp op t x (.const (.bool b)) t') σ K=AY (σ.e x) fun u=>BC P op t u (.bool b) fun v=>K (σ.put dst v):=TY
@[go_sem ↓] theorem dv {b}:opX P pos dst (.binOp op t x (.const (.string b)) t') σ K=AY (σ.e x) fun u=>BC P op t u (.str b) fun v=>K (σ.put dst v):=Vs
@[go_sem ↓] theorem cM:opX P pos dst (.binOp op t x (.const (.pointer none)) t') σ K=AY (σ.e x) fun u=>BC P op t u .nilp fun v=>K (σ.put dst v):=TZ
@[go_sem ↓] theorem gJ:opX P pos dst (.binOp .eql t x (.const (.slice none 0 0)) t') σ K=AY (σ.e x) fun u=>Xl P t u σ (fun b=>K (σ.put dst (.bool b))) ⟨⟩:=XC
@[go_sem ↓] theorem gK:opX P pos dst (.binOp .neq t x (.const (.slice none 0 0)) t') σ K=AY (σ.e x) fun u=>Xl P t u σ (fun b=>K (σ.put dst (.bool !b))) ⟨⟩:=XD
@[go_sem ↓] theorem mV {op}:opX P pos dst (.unOp op t x) σ K=AY (σ.e x) fun u=>R7 op u fun v=>K (σ.put dst v):=bZ
@[go_sem ↓] theorem dw:opX P pos dst (.convert s d x) σ K=AY (σ.e x) fun u=>Ig P s d u σ fun v=>K (σ.put dst v):=Vu
@[go_sem ↓] theorem aP:opX P pos dst (.fieldAddr s x f) σ K=AY (σ.e x) fun u=>faX P s u f fun v=>K (σ.put dst v):=SA
@[go_sem ↓] theorem jn:opX P pos dst (.field s x f) σ K=AY (σ.e x) fun u=>fdX P s u f fun v=>K (σ.put dst v):=ZD
@[go_sem ↓] theorem aQ:opX P pos dst (.indexAddr t x y) σ K=AY (σ.e x) fun u=>AY (σ.e y) fun v=>iaX P t u v σ fun v=>K (σ.put dst v):=SC
@[go_sem ↓] theorem jo {l h}:opX P pos dst (.slice t x l h none) σ K=AY (σ.e x) fun u=>Vx P σ.T t u (l.map σ.e) (h.map σ.e) fun v=>K (σ.put dst v):=ZF
@[go_sem ↓] theorem jp:opX P pos dst (.index t x y) σ K=AY (σ.e x) fun u=>AY (σ.e y) fun v=>elX P t u v fun v=>K (σ.put dst v):=ZE
@[go_sem ↓] theorem dx:opX P pos dst (.extract x i) σ K=AY (σ.e x) fun u=>Vy u i fun v=>K (σ.put dst v):=Vz
@[go_sem ↓] theorem nM:opX P pos dst (.call ⟨.builtin .len,List.toArray [x],List.toArray [t]⟩) σ K=AY (σ.e x) fun u=>JI P t u σ fun v=>K (σ.put dst v):=fQ
@[go_sem ↓] theorem nN {ts}:opX P pos dst (.call ⟨.builtin .max,List.toArray [x,y],ts⟩) σ K=AY (σ.e x) fun u=>AY (σ.e y) fun v=>Md (fun n m=>if n<m then m else n) u v fun v=>K (σ.put dst v):=fR
@[go_sem ↓] theorem nO {ts}:opX P pos dst (.call ⟨.builtin .min,List.toArray [x,y],ts⟩) σ K=AY (σ.e x) fun u=>AY (σ.e y) fun v=>Md (fun n m=>if m<n then m else n) u v fun v=>K (σ.put dst v):=fS
@[go_sem ↓] theorem nP:opX P pos dst (.box t x) σ K=AY (cellsOf (σ.e x)) fun cs=>bxX pos cs dst (.box pos 0) σ K:=fW
@[go_sem ↓] theorem jq:opX P pos dst (.alloc t) σ K=AM (0<(tz P t).length) (AY ((tz P t).map zAV) fun vs=>bxX pos (some vs) dst (.box pos 0) σ K):=ZO
@[go_sem ↓] theorem jr {parts}:opX P pos dst (.build t parts.toArray) σ K=SE P (ti P t) fun fs=>AM ((fs.all fun q=>decide (0<tsz P q.2))=true∧0<(tz P t).length) (AY ((tz P t).map zAV) fun vs=>AY (pvs σ parts) fun ps=>bpX P fs vs ps fun v=>K (σ.put dst v)):=ZS
@[go_sem ↓] theorem aR:opX P pos dst (.makeSlice t l c) σ K=slX (ti P t) fun e=>AY (σ.e l) fun u=>AY (σ.e c) fun v=>mkX P pos e u v dst σ K:=SF
@[go_sem ↓] theorem mW {L} {wL} {args} {ts}:opL P L pos dst (.call ⟨.value g,args.toArray,ts⟩) σ K wL=AY (σ.e g) fun u=>AY (evs σ args) fun vs=>clX P L pos u vs dst σ K wL:=bu
@[go_sem ↓] theorem js:opX P pos dst (.store t a x) σ K=AY (σ.e a) fun u=>AY (cellsOf (σ.e x)) fun cs=>stX P t u cs σ fun σ'=>K (σ'.put dst .any):=Zb
@[go_sem ↓] theorem gL:opX P pos dst (.call ⟨.builtin .append,List.toArray [x,y],List.toArray [t,t]⟩) σ K=slX (ti P t) fun e=>AY (σ.e x) fun u=>AY (σ.e y) fun v=>apX P pos e u v dst σ K:=XZ
def apE (P:Program) (pos:Nat) (e:TypeId) (u v:AV) (dst:Option Tmp) (σ:St) (K:St→Prop):Prop:=UG u=true∧match v with
 | .ro rows=>(0<tsz P e∧(tz P e).length =tsz P e)∧∃z,roZ z (tsz P e) rows fun rows=>(rows.length*P.bytesOf e≤140737488355328∧rows.length≤maxLen)∧look σ.t (pos*16)=none∧K ((σ.setT (pos*16) ⟨rows,some (tsz P e),0,z⟩).put dst (.own (pos*16)))
 |_=>False
theorem Xn {z} {sz} {rows} {K K'} (h:∀r,K r→K' r) (k:roZ z sz rows K):roZ z sz rows K':=by
 cases z
 ·exact⟨k.1,h _ k.2⟩
 ·exact⟨k.1,h _ k.2⟩
 ·exact⟨k.1,h _ k.2⟩
def roX (z:ZK) (sz:Nat) (rows:List (List D)) (K:List (List D)→Prop):Prop:=roZ z sz rows K
@[go_sem] theorem nQ {sz} {rows} {K}:roX .no sz rows K=AM (∀row ∈ rows,row.length=sz∧∀d ∈ row,d.flat=true) (K rows):=rfl
@[go_sem] theorem nR {sz:Nat} {rows:List (List D)} {K:List (List D)→Prop}:roX .yes sz rows K=AM (∀row ∈ rows,row.length=sz∧∀d ∈ row,d≠ .gone) (Ih (fzR rows) fun r=>K r):=by
 grind [roX,roZ,AM,EW]
@[go_sem] theorem mX {e:TypeId} {u:AV} {rows:List (List D)}:apE P pos e u (.ro rows) dst σ K=AM (UG u=true) (AM (0<tsz P e∧(tz P e).length =tsz P e) (zX fun z=>roX z (tsz P e) rows fun rows=>AM (rows.length*P.bytesOf e≤140737488355328∧rows.length≤maxLen) (AM (look σ.t (pos*16)=none) (Ih rows fun rows=>K ((σ.setT (pos*16) ⟨rows,some (tsz P e),0,z⟩).put dst (.own (pos*16))))))):=by simp only [EW]; rfl
@[go_sem ↓] theorem mY:opE P pos dst (.call ⟨.builtin .append,List.toArray [x,y],List.toArray [t,t]⟩) σ K=slX (ti P t) fun e=>AY (σ.e x) fun u=>AY (σ.e y) fun v=>apE P pos e u v dst σ K:=by
 unfold opE
 simp only [Ev,eD,slX,true_and,AY]
 generalize σ.e x=u
 generalize σ.e y=v
 refine propext ⟨?_,?_⟩
 ·rintro ⟨r,⟨h1,h2⟩,h3,h4,h5⟩
  split at h2
  ·rename_i el rows hel
   obtain⟨h6,z,h7⟩:=h2
   rw [hel]
   refine⟨h1,h6,z,Xn (fun rows h8=>?_) h7⟩
   obtain⟨h9,rfl⟩:=h8
   refine⟨h9,h3.1,?_⟩
   cases dst <;> exact h5
  grind
 ·intro h
  generalize hti:ti P t=q at h ⊢
  cases q with
  | sl el=>
   cases v with
   | ro rows=>
    obtain⟨h1,h6,z,h7⟩:=h
    cases z with
    |no=>
     obtain⟨h8,h9,h10,h5⟩:=h7
     exact⟨_,⟨h1,h6,.no,h8,h9,rfl⟩,⟨h10,trivial⟩,trivial,by cases dst <;> exact h5⟩
    |nl=>
     obtain⟨h8,h9,h10,h5⟩:=h7
     exact⟨_,⟨h1,h6,.nl,h8,h9,rfl⟩,⟨h10,trivial⟩,trivial,by cases dst <;> exact h5⟩
    |yes=>
     obtain⟨h8,h9,h10,h5⟩:=h7
     exact⟨_,⟨h1,h6,.yes,h8,h9,rfl⟩,⟨h10,trivial⟩,trivial,by cases dst <;> exact h5⟩
   |_=>exact h.2.elim
  |_=>exact h.elim
@[go_sem ↓] theorem mZ {e:TypeId} {u v:AV}:apX P pos e u v dst σ K=AM (0<tsz P e∧(tz P e).length =tsz P e) (zX fun z=>NI z e (tsz P e) u σ fun rows σ1=>IJ z (tsz P e) v σ1 fun rows2 σ2=>
   AM ((rows.length+rows2.length)*P.bytesOf e≤140737488355328∧rows.length+rows2.length≤maxLen) (AM (look σ2.t (pos*16)=none) (Ih (rows++rows2) fun rows=>K ((σ2.setT (pos*16) ⟨rows,some (tsz P e),0,z⟩).put dst (.own (pos*16)))))):=by simp only [EW]; rfl
end
attribute [go_sem] zAV
section
variable {P:Program} {σ:St} {K:St→Prop} {ops:Array Oper} {base cut i:Nat}
@[go_sem] theorem cN {x} {xs b} {w1} {w2} {w3} {w4}:GW P ops base cut i (List.append (x::xs) b) σ K w1 w2 w3 w4=GW P ops base cut i (x::List.append xs b) σ K w1 ⟨⟩ w3 w4:=rfl
@[go_sem] theorem dy {b} {w1} {w2} {w3} {w4}:GW P ops base cut i (List.append [] b) σ K w1 w2 w3 w4=GW P ops base cut i b σ K w1 ⟨⟩ w3 w4:=rfl
@[go_sem] theorem d6 {a b c} {w1} {w2} {w3} {w4}:GW P ops base cut i (List.append (List.append a b) c) σ K w1 w2 w3 w4=GW P ops base cut i (List.append a (List.append b c)) σ K w1 ⟨⟩ w3 w4:=by
 unfold GW; rw [show List.append (List.append a b) c=List.append a (List.append b c) from List.append_assoc a b c]
@[go_sem ↓] theorem Xo {dst} {op} {type} {ps} {after} {g} {rest b} {K}:G3 (List.toArray (List.append (⟨some dst,op,type,ps,after,g⟩::rest) b)) 0 K=K dst:=by
 grind [List.append,TS]
@[go_sem ↓] theorem Xp {o} {rest b} {j} {K}:G3 (List.toArray (List.append (o::rest) b)) (j+1) K=G3 (List.toArray (List.append rest b)) j K:=by
 grind [List.append,TT]
@[go_sem ↓] theorem YN {b} {j} {K}:G3 (List.toArray (List.append [] b)) j K=G3 b.toArray j K:=rfl
@[go_sem ↓] theorem YO {a b c} {j} {K}:G3 (List.toArray (List.append (List.append a b) c)) j K=G3 (List.toArray (List.append a (List.append b c))) j K:=by
 rw [show List.append (List.append a b) c=List.append a (List.append b c) from List.append_assoc a b c]
@[go_sem] theorem jt {a b:List Oper} {p:Oper→Bool}:List.all (List.append a b) p=(List.all a p&&List.all b p):=List.all_append
end
end Go.Proofs.YtoncbhomocgmcaaGreatDoor.Ab
