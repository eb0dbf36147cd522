/-
  The abstract walk as rules, third part: memory, calls, results, loops.
-/
import Derived.Test.YtclmbjbbojdojaaGreatAbU
import Derived.IntWalk
namespace Go.Proofs.YtclmbjbbojdojaaGreat.Ab
set_option linter.unusedVariables false
set_option maxHeartbeats 1000000
open Go.RowKit
section
variable {P:Program} {σ:St} {K:St→Prop} {Q:AE→St→Prop}
def cy (t:TI):Prop:=match t with| .str =>True|_=>False
@[go_sem] theorem gA:cy .str =True:=rfl
@[go_sem] theorem aC {t} {s} {K}:LA P t (.str s) σ K=AP (cy (ti P t)) (K (.int .i64 s.size)):=by
 simp only [LA,Ld,AP,cy]
 generalize ti P t=q
 cases q <;> simp
@[go_sem] theorem cz {t} {rows} {K}:LA P t (.ro rows) σ K=slX (ti P t) fun _=>K (.int .i64 rows.length):=by
 simp only [LA,Ld,slX]
 generalize ti P t=q
 cases q <;> simp
@[go_sem] theorem YP {t} {K}:LA P t .nils σ K=slX (ti P t) fun _=>K (.int .i64 0):=by
 simp only [LA,Ld,slX]
 generalize ti P t=q
 cases q <;> simp
@[go_sem] theorem aD {t} {b n sz} {K}:LA P t (.bsl b n sz) σ K=slX (ti P t) fun _=>K (.int .i64 n):=by
 simp only [LA,Ld,slX]
 generalize ti P t=q
 cases q <;> simp
@[go_sem] theorem aE {t} {t'} {K}:LA P t (.own t') σ K=slX (ti P t) fun _=>optX (σ.T t') fun tk=>K (.int .i64 tk.rows.length):=by
 simp only [LA,Ld,slX,optX]
 grind
@[go_sem] theorem aF {t} {t' g} {p} {K}:LA P t (.sub t' g p) σ K=slX (ti P t) fun _=>optX (subR σ.T t' g p) fun rows=>K (.int .i64 rows.length):=by
 simp only [LA,Ld,slX,optX]
 grind
def U1 (t:TI) (K:TypeId→TypeId→Prop):Prop:=match t with| .map k e=>K k e|_=>False
@[go_sem] theorem gB {k e} {K}:U1 (.map k e) K=K k e:=rfl
def Tn (o:Option (List AV)) (K:KT→List (List D)→Prop):Prop:=∃q rows,o=some [.mpc q rows] ∧K q rows
@[go_sem] theorem eN {q} {rows} {K}:Tn (some [.mpc q rows]) K=K q rows:=by
 grind [Tn]
@[go_sem] theorem aG {t} {b} {K}:LA P t (.mpr b) σ K=U1 (ti P t) fun _ _=>Tn (σ.B b) fun _ rows=>K (.int .i64 rows.length):=by
 simp only [LA,Ld,U1,Tn]
 grind
def LB {α:Type} (v:α) (K:α→Prop):Prop:=∃y,v=y∧K y
theorem GZ {α:Type} {v:α} {K:α→Prop}:LB v K=K v:=by simp [LB]
def bxX (pos:Nat) (cs:Option (List AV)) (dst:Option Tmp) (v:AV) (σ:St) (K:St→Prop):Prop:=optX cs fun vs=>AP (look σ.b pos=none) (K ((σ.put dst v).setB pos vs))
def bxZ (pos:Nat) (cs:Option (List AV)) (dst:Option Tmp) (v:AV) (σ:St) (K:St→Prop):Prop:=bxX pos cs dst v σ K
theorem c0 {pos} {cs} {dst} {v}:bxX pos cs dst v σ K=Ag cs fun o=>bxZ pos o dst v σ K:=rfl
@[go_sem ↓] theorem gC {pos} {vs} {dst} {v}:bxZ pos (some vs) dst v σ K=AP (look σ.b pos=none) (K ((σ.put dst v).setB pos vs)):=by simp [bxZ,bxX,optX]
theorem IK {dst} {v} {pos} {vs}:σ.add dst ⟨v,[],[(pos,vs)]⟩=(σ.put dst v).setB pos vs:=by cases dst <;> rfl
attribute [go_sem] cellsOf
theorem gD {pos} {dst} {t} {x}:opX P pos dst (.box t x) σ K=bxX pos (cellsOf (σ.e x)) dst (.box pos 0) σ K:=by
 rw [Ni (fun _=>by rfl)]
 simp only [Ev,bxX]
 split
 ·rename_i vs h
  rw [h,GP]
  refine propext ⟨?_,?_⟩
  ·rintro ⟨r,rfl,-,h1,h2⟩
   exact⟨h1.1,by rw [← IK]; exact h2⟩
  ·rintro ⟨h1,h2⟩
   exact⟨_,rfl,trivial,⟨h1,trivial⟩,by rw [IK]; exact h2⟩
 grind [Rb]
theorem aH {pos} {dst} {t}:opX P pos dst (.alloc t) σ K=AP (0<(tz P t).length) (bxX pos (some ((tz P t).map zAV)) dst (.box pos 0) σ K):=by
 rw [Ni (fun _=>by rfl)]
 simp only [Ev,bxX,GP,AP]
 refine propext ⟨?_,?_⟩
 ·rintro ⟨r,⟨vs,rfl,h0,rfl⟩,-,h1,h2⟩
  exact⟨h0,h1.1,by rw [← IK]; exact h2⟩
 ·rintro ⟨h0,h1,h2⟩
  exact⟨_,⟨_,rfl,h0,rfl⟩,trivial,⟨h1,trivial⟩,by rw [IK]; exact h2⟩
attribute [go_sem] zAV
def pvs (σ:St):List (Nat × Operand)→List (Nat × AV)
 | [] =>[]
 |x::xs=>(x.1,σ.e x.2)::pvs σ xs
theorem Vq {xs}:pvs σ xs=xs.map fun x=>(x.1,σ.e x.2):=by induction xs with|nil=>rfl|cons x xs ih=>simp [pvs,ih]
attribute [go_sem] pvs DG
def bsX (P:Program) (pos:Nat) (e:TypeId) (n:Nat) (parts:List (Nat × AV)) (dst:Option Tmp) (σ:St) (K:St→Prop):Prop:=
 AP (parts.length=n∧n*tsz P e≤16777216∧0<tsz P e∧(tz P e).length =tsz P e) (bxX pos (DG (tsz P e) 0 parts) dst (.bsl pos n (tsz P e)) σ K)
@[go_sem ↓] theorem aI {pos} {dst} {t} {n} {parts}:opX P pos dst (.buildSlice t n parts.toArray) σ K=slX (ti P t) fun e=>Ag (pvs σ parts) fun ps=>bsX P pos e n ps dst σ K:=by
 rw [Ni (fun _=>by rfl)]
 simp only [Ev,slX,Ag,Vq]
 generalize ti P t=q
 split
 ·simp only [XU,bsX,bxX,AP]
  refine propext ⟨?_,?_⟩
  ·rintro ⟨r,⟨h1,h2,h3,h4,h5⟩,-,h6,h7⟩
   split at h5
   ·rename_i vs h8
    subst h5
    rw [h8,GP]
    exact⟨⟨h1,h2,h3,h4⟩,h6.1,by rw [← IK]; exact h7⟩
   grind
  ·rintro ⟨⟨h1,h2,h3,h4⟩,vs,h8,h6,h7⟩
   exact⟨⟨_,[],[(pos,vs)]⟩,⟨h1,h2,h3,h4,by rw [h8]⟩,trivial,⟨h6,trivial⟩,by rw [IK]; exact h7⟩
 ·simp
attribute [go_sem] bsX
attribute [go_sem] J1
def To (P:Program) (t:TI) (K:List (Nat × TypeId)→Prop):Prop:=match t with| .st fs=>K fs| .arr n el=>AP (0<tsz P el) (K (J1 (tsz P el) el n 0))|_=>False
@[go_sem] theorem aJ {fs} {K}:To P (.st fs) K=K fs:=rfl
def bpX (P:Program) (fs:List (Nat × TypeId)) (vs:List AV) (ps:List (Nat × AV)) (K:AV→Prop):Prop:=∃ws,JB P fs vs ps=some ws∧K (.agg ws)
@[go_sem] theorem aK {fs} {vs} {K}:bpX P fs vs [] K=K (.agg vs):=by simp [bpX,JB]
@[go_sem] theorem YQ {fs} {vs} {f} {v} {ps} {K}:bpX P fs vs ((f,v)::ps) K=optX fs[f]? fun q=>optX (cellsOf v) fun cs=>AP (cs.length=tsz P q.2 ∧q.1 +cs.length≤vs.length) (Ag (splice vs q.1 cs) fun vs=>bpX P fs vs ps K):=by
 unfold bpX optX AP Ag
 rw [JB]
 grind
theorem aL {pos} {dst} {t} {parts}:opX P pos dst (.build t parts.toArray) σ K=To P (ti P t) fun fs=>AP ((fs.all fun q=>decide (0<tsz P q.2))=true∧0<(tz P t).length) (bpX P fs ((tz P t).map zAV) (pvs σ parts) fun v=>K (σ.put dst v)):=by
 rw [Fo (p:=fun v=>To P (ti P t) fun fs=>AP ((fs.all fun q=>decide (0<tsz P q.2))=true∧0<(tz P t).length) (bpX P fs ((tz P t).map zAV) (pvs σ parts) fun u=>v=u)) (fun _=>by rfl) (fun r=>by
  simp only [Ev,To,AP,bpX,Vq]
  grind)]
 unfold To AP bpX
 grind
attribute [go_sem] zD zDs
@[go_sem] theorem gE {n}:leX n n=True:=eq_true (Int.le_refl n)
def zX (K:ZK→Prop):Prop:=∃z,K z
def zY (K:ZK→Prop) (_:Wrap K):Prop:=∃z,K z
@[go_sem ↓] theorem lV {K}:zX K=zY K ⟨⟩:=rfl
theorem BN {K} {w} (z:ZK) (h:K z):zY K w:=⟨z,h⟩
def mkX (P:Program) (pos:Nat) (e:TypeId) (n m:AV) (dst:Option Tmp) (σ:St) (K:St→Prop):Prop:=match n,m with
 | .int .i64 n,.int .i64 m=>AP (leX n m) (AP (0≤n∧m.toNat*P.bytesOf e≤281474976710656∧m≤4611686018427387904) (AP (0<tsz P e∧(tz P e).length =tsz P e) (zX fun q=>optX (zDs q (tz P e)) fun z=>AP (look σ.t (pos*16)=none) (LB (List.replicate n.toNat z) fun rows=>K ((σ.put dst (.own (pos*16))).setT (pos*16) ⟨rows,some (tsz P e),0,q⟩)))))
 |_,_=>False
@[go_sem] theorem aM {pos} {e} {n m} {dst}:mkX P pos e (.int .i64 n) (.int .i64 m) dst σ K=AP (leX n m) (AP (0≤n∧m.toNat*P.bytesOf e≤281474976710656∧m≤4611686018427387904) (AP (0<tsz P e∧(tz P e).length =tsz P e) (zX fun q=>optX (zDs q (tz P e)) fun z=>AP (look σ.t (pos*16)=none) (LB (List.replicate n.toNat z) fun rows=>K ((σ.put dst (.own (pos*16))).setT (pos*16) ⟨rows,some (tsz P e),0,q⟩))))):=rfl
theorem Vr {dst} {v} {n} {tk}:σ.add dst ⟨v,[(n,tk)],[]⟩=(σ.put dst v).setT n tk:=by cases dst <;> rfl
theorem Tp {pos:Nat} {dst:Option Tmp} {t:TypeId} {l c:Operand}:opX P pos dst (.makeSlice t l c) σ K=slX (ti P t) fun e=>mkX P pos e (σ.e l) (σ.e c) dst σ K:=by
 rw [Ni (fun _=>by rfl)]
 simp only [Ev,slX,mkX]
 generalize ti P t=q
 cases q with
 | sl e=>
  generalize σ.e l=u
  generalize σ.e c=v
  split
  ·rename_i el n m h1
   cases h1
   simp only [bK,AP,optX,zX,GZ]
   refine propext ⟨?_,?_⟩
   ·rintro ⟨r,⟨k1,k2,k3,k4,k5,k6,q,z,k7,rfl⟩,k8,-,k9⟩
    exact⟨k1,⟨k2,k3,k4⟩,⟨k5,k6⟩,q,z,k7,k8.1,by rw [← Vr]; exact k9⟩
   ·rintro ⟨k1,⟨k2,k3,k4⟩,⟨k5,k6⟩,q,z,k7,k8,k9⟩
    exact⟨⟨_,[(pos*16,⟨_,some (tsz P e),0,q⟩)],[]⟩,⟨k1,k2,k3,k4,k5,k6,q,z,k7,rfl⟩,⟨k8,trivial⟩,trivial,by rw [Vr]; exact k9⟩
  grind
 |_=>simp
def Rf (P:Program) (L:Bool) (pos:Nat) (f:FuncId) (args:List AV) (as:Option (List AV)) (dst:Option Tmp) (σ:St) (K:St→Prop) (_:Wrap L):Prop:=
 ((∃bs rv,as=some bs∧AC P f bs rv∧Cq σ (conv (pos*16) rv).2 ∧K (σ.add dst ⟨(conv (pos*16) rv).1,(conv (pos*16) rv).2,[]⟩))∨
  ∃bs rv qt qb,AG P f bs [] [] rv qt qb∧cls (fun _=>none) (fun _=>none) args=some bs∧((qt=[] ∧So rv=true∧K (σ.add dst ⟨rv,[],[]⟩))∨(∃q tk,qt=[(q,tk)] ∧rv= .own q∧tk.gen=0∧look σ.t (pos*16)=none∧K (σ.add dst ⟨.own (pos*16),[(pos*16,tk)],[]⟩))∨(∃q k,rv= .box q k)∧K (σ.add dst ⟨.rop [] 0,[],[]⟩)))∨
 (L=true∧VT P f args σ fun v σ'=>K (σ'.put dst v))
@[go_sem] theorem gF:LQ [] =true:=rfl
@[go_sem] theorem gG {fs cs}:LQ (.agg fs::cs)=true:=rfl
@[go_sem] theorem ix {as}:fnA [] as=as:=List.append_nil as
@[go_sem] theorem iy {fs cs as}:fnA (.agg fs::cs) as=fs++(as++cs):=rfl
def clX (P:Program) (L:Bool) (pos:Nat) (g:AV) (args:List AV) (dst:Option Tmp) (σ:St) (K:St→Prop) (w:Wrap L):Prop:=match g with
 | .fn f caps=>LQ caps=true∧Rf P L pos f (fnA caps args) (cls σ.T σ.B (fnA caps args)) dst σ K w
 |_=>False
@[go_sem] theorem c7 {L} {wL} {pos} {f} {caps args} {dst}:clX P L pos (.fn f caps) args dst σ K wL=AP (LQ caps=true) (Ag (fnA caps args) fun vs=>Ag (cls σ.T σ.B vs) fun r=>Rf P L pos f vs r dst σ K wL):=rfl
theorem c8 {L} {wL} {pos} {dst} {g} {args} {ts}:opL P L pos dst (.call ⟨.value g,args.toArray,ts⟩) σ K wL=clX P L pos (σ.e g) (evs σ args) dst σ K wL:=by
 have h1:opX P pos dst (.call ⟨.value g,args.toArray,ts⟩) σ K=match σ.e g with
   | .fn f caps=>LQ caps=true∧((∃bs rv,cls σ.T σ.B (fnA caps (evs σ args))=some bs∧AC P f bs rv∧Cq σ (conv (pos*16) rv).2 ∧K (σ.add dst ⟨(conv (pos*16) rv).1,(conv (pos*16) rv).2,[]⟩))∨
     ∃bs rv qt qb,AG P f bs [] [] rv qt qb∧cls (fun _=>none) (fun _=>none) (fnA caps (evs σ args))=some bs∧((qt=[] ∧So rv=true∧K (σ.add dst ⟨rv,[],[]⟩))∨(∃q tk,qt=[(q,tk)] ∧rv= .own q∧tk.gen=0∧look σ.t (pos*16)=none∧K (σ.add dst ⟨.own (pos*16),[(pos*16,tk)],[]⟩))∨(∃q k,rv= .box q k)∧K (σ.add dst ⟨.rop [] 0,[],[]⟩)))
   |_=>False:=by
  rw [Ni (fun _=>by rfl)]
  simp only [Ev,PC,SC]
  generalize σ.e g=v
  split
  ·refine propext ⟨?_,?_⟩
   ·rintro ⟨r,⟨ho,h1⟩,h2,-,h4⟩
    refine⟨ho,?_⟩
    rcases h1 with h1|h1
    ·grind
    ·obtain⟨as,rv,qt,qb,h5,h6,h7⟩:=h1
     rcases h7 with ⟨h7,h8,rfl⟩|⟨q,tk,h7,h8,h9,rfl⟩|⟨h7,rfl⟩
     ·grind
     ·exact .inr ⟨as,rv,qt,qb,h5,h6,.inr (.inl ⟨q,tk,h7,h8,h9,h2.1,h4⟩)⟩
     grind
   ·rintro ⟨ho,h⟩
    rcases h with (⟨bs,rv,h1,h5,h2,h4⟩|⟨bs,rv,qt,qb,h5,h6,⟨h7,h8,h4⟩|⟨q,tk,h7,h8,h9,h2,h4⟩|⟨h7,h4⟩⟩)
    ·exact⟨⟨(conv (pos*16) rv).1,(conv (pos*16) rv).2,[]⟩,⟨ho,.inl (by rw [h1]; grind)⟩,h2,trivial,h4⟩
    ·exact⟨⟨rv,[],[]⟩,⟨ho,.inr ⟨bs,rv,qt,qb,h5,h6,.inl ⟨h7,h8,rfl⟩⟩⟩,trivial,trivial,h4⟩
    ·exact⟨⟨.own (pos*16),[(pos*16,tk)],[]⟩,⟨ho,.inr ⟨bs,rv,qt,qb,h5,h6,.inr (.inl ⟨q,tk,h7,h8,h9,rfl⟩)⟩⟩,⟨h2,trivial⟩,trivial,h4⟩
    ·exact⟨⟨.rop [] 0,[],[]⟩,⟨ho,.inr ⟨bs,rv,qt,qb,h5,h6,.inr (.inr ⟨h7,rfl⟩)⟩⟩,trivial,trivial,h4⟩
  ·simp
 have h2:opL P L pos dst (.call ⟨.value g,args.toArray,ts⟩) σ K wL=(opX P pos dst (.call ⟨.value g,args.toArray,ts⟩) σ K∨(L=true∧J4 P ⟨dst,.call ⟨.value g,args.toArray,ts⟩,0, "",#[],none⟩ σ K)):=by
  have h3:PI σ ⟨dst,.call ⟨.value g,args.toArray,ts⟩,0, "",#[],none⟩=false:=rfl
  grind [Ma,SliK,opL,PJ,opX]
 rw [h2,h1]
 grind [clX,Rf,J4,SC]
attribute [go_sem] cl cls toD toDs toA toAs FG Dz Option.map_some Option.map_none
theorem aN {pos} {f} {args bs} {dst} {rv} (h:AC P f bs rv) (hf:Cq σ (conv (pos*16) rv).2) (hk:K (σ.add dst ⟨(conv (pos*16) rv).1,(conv (pos*16) rv).2,[]⟩)) {L} {wL}:Rf P L pos f args (some bs) dst σ K wL:=
 .inl (.inl ⟨bs,rv,rfl,h,hf,hk⟩)
@[go_sem] theorem c9:Cq σ [] =True:=rfl
@[go_sem] theorem bW {n} {tk} {l}:Cq σ ((n,tk)::l)=(look σ.t n=none∧Cq σ l):=rfl
attribute [go_sem] conv Fz addT addB
@[go_sem] theorem gH {s t b} {d} {r}:St.add ⟨s,t,b⟩ (some d) r=⟨(d,r.v)::s,addT t r.t,addB b r.b⟩:=rfl
@[go_sem] theorem gI {s t b} {r}:St.add ⟨s,t,b⟩ none r=⟨s,addT t r.t,addB b r.b⟩:=rfl
section
variable {z:ZK}
@[go_sem] theorem aO {K}:A0 z [] σ K=K [] σ:=by rw [A0]
@[go_sem] theorem aP {k} {n} {vs} {K}:A0 z (.int k n::vs) σ K=A0 z vs σ fun ds σ'=>K (.int k n::ds) σ':=by rw [A0]
@[go_sem] theorem YR {b} {vs} {K}:A0 z (.bool b::vs) σ K=A0 z vs σ fun ds σ'=>K (.bool b::ds) σ':=by rw [A0]
@[go_sem] theorem aQ {s} {vs} {K}:A0 z (.str s::vs) σ K=A0 z vs σ fun ds σ'=>K (.str s::ds) σ':=by rw [A0]
@[go_sem] theorem YS {vs} {K}:A0 z (.nils ::vs) σ K=A0 z vs σ fun ds σ'=>K (AZ z::ds) σ':=by rw [A0]
@[go_sem] theorem kR:AZ .no = .sl [] :=rfl
@[go_sem] theorem kS:AZ .yes = .fz [] :=rfl
@[go_sem] theorem kU:AZ .nl = .nl :=rfl
@[go_sem] theorem YT {vs} {K}:A0 z (.nilp ::vs) σ K=A0 z vs σ fun ds σ'=>K (.nilp ::ds) σ':=by rw [A0]
@[go_sem] theorem dA {rows} {vs} {K}:A0 z (.ro rows::vs) σ K=AP (z= .yes) (A0 z vs σ fun ds σ'=>K (.fz rows::ds) σ'):=by rw [A0]; rfl
@[go_sem] theorem aR {ws} {off} {vs} {K}:A0 z (.rop ws off::vs) σ K=AP (z= .yes) (optX (unD (.rop ws off)) fun d=>A0 z vs σ fun ds σ'=>K (d::ds) σ'):=by rw [A0]; rfl
@[go_sem] theorem aS {b n sz} {vs} {K}:A0 z (.bsl b n sz::vs) σ K=if n=0 then A0 z vs σ fun ds σ'=>K (AZ z::ds) σ' else WC z b n sz σ fun rows σ1=>A0 z vs σ1 fun ds σ'=>K (.sl rows::ds) σ':=by rw [A0]
@[go_sem ↓] theorem iz {b n sz} {K}:WC z b n sz σ K=AP (1000≤b) (AP (0<sz) (optX (σ.B b) fun vs=>optX (Jk z vs) fun ds=>AP (ds.length=n*sz) (Ag (B5 sz n ds) fun rows=>K rows (σ.killB b)))):=rfl
@[go_sem] theorem gJ {s t b} {x}:St.killB ⟨s,t,b⟩ x=⟨s,t,(x,none)::b⟩:=rfl
attribute [go_sem] JC litD Jk unD unDs
@[go_sem] theorem aT {t} {vs} {K}:A0 z (.own t::vs) σ K=optX (σ.T t) fun tk=>AP (okZ z tk=true) (A0 z vs (σ.killT t) fun ds σ'=>K (.sl tk.rows::ds) σ'):=by rw [A0]; rfl
end
def stX (P:Program) (t:TypeId) (a:AV) (cs:Option (List AV)) (σ:St) (K:St→Prop):Prop:=
 optX cs fun cs=>AP (cs.length=tsz P t∧0<tsz P t∧cs.all AV.one=true) (match a with
  | .box b off=>∃vs,σ.B b=some vs∧isMp vs=false∧off+cs.length≤vs.length∧K (σ.setB b (splice vs off cs))
  | .elt t' sz i off=>∃tk0,σ.T t'=some tk0∧A0 tk0.z cs σ fun ds σ'=>∃tk row,(σ'.T t'=some tk∧tk.z=tk0.z)∧tk.rows[i]? =some row∧row.length=sz∧off+ds.length≤sz∧K (σ'.setT t' ⟨tk.rows.set i (splice row off ds),tk.sz,if DT row off ds=true then tk.gen else tk.gen+1,tk.z⟩)
  | .els t' g p sz i off=>A0 .no cs σ fun ds σ'=>∃rows,subR σ'.T t' g p=some rows∧∃row,rows[i]? =some row∧(p≠ [] ∧row.length=sz∧off+ds.length≤sz∧DT row off ds=true)∧∃tk,σ'.T t'=some tk∧K (σ'.setT t' ⟨putR p tk.rows (.sl (rows.set i (splice row off ds))),tk.sz,tk.gen,tk.z⟩)
  |_=>False)
theorem aU {pos} {dst} {t} {a x}:opX P pos dst (.store t a x) σ K=stX P t (σ.e a) (cellsOf (σ.e x)) σ fun σ'=>K (σ'.put dst .any):=by
 grind [opX,aop,Lg,stX,GP,AP,Rb]
@[go_sem] theorem aV {t} {b off} {cs}:stX P t (.box b off) (some cs) σ K=AP (cs.length=tsz P t∧0<tsz P t∧cs.all AV.one=true) (optX (σ.B b) fun vs=>AP (isMp vs=false) (AP (off+cs.length≤vs.length) (Ag (splice vs off cs) fun vs'=>K (σ.setB b vs')))):=by
 rw [stX,GP]; rfl
@[go_sem] theorem aW {t:TypeId} {t' g sz i off:Nat} {p:Pth} {cs:List AV}:stX P t (.els t' g p sz i off) (some cs) σ K=AP (cs.length=tsz P t∧0<tsz P t∧cs.all AV.one=true) (A0 .no cs σ fun ds σ'=>optX (subR σ'.T t' g p) fun rows=>optX rows[i]? fun row=>AP (p≠ [] ∧row.length=sz∧off+ds.length≤sz∧DT row off ds=true) (optX (σ'.T t') fun tk=>LB (putR p tk.rows (.sl (rows.set i (splice row off ds)))) fun rows'=>K (σ'.setT t' ⟨rows',tk.sz,tk.gen,tk.z⟩))):=by
 rw [stX,GP]
 grind [AP,optX,GZ]
@[go_sem] theorem aX {t:TypeId} {t' sz i off:Nat} {cs:List AV}:stX P t (.elt t' sz i off) (some cs) σ K=AP (cs.length=tsz P t∧0<tsz P t∧cs.all AV.one=true) (optX (σ.T t') fun tk0=>A0 tk0.z cs σ fun ds σ'=>optX (σ'.T t') fun tk=>AP (tk.z=tk0.z) (optX tk.rows[i]? fun row=>AP (row.length=sz∧off+ds.length≤sz) (LB (tk.rows.set i (splice row off ds)) fun rows=>K (σ'.setT t' ⟨rows,tk.sz,if DT row off ds=true then tk.gen else tk.gen+1,tk.z⟩)))):=by
 rw [stX,GP]
 grind [AP,optX,GZ]
section
variable {z:ZK}
@[go_sem] theorem W8 {e} {sz} {K}:PD z e sz .nils σ K=K [] σ:=rfl
@[go_sem] theorem YU {e} {sz b n sz'} {K}:PD z e sz (.bsl b n sz') σ K=if n=0 then K [] σ else AP (sz'=sz) (WC z b n sz σ K):=rfl
@[go_sem] theorem YV {e} {sz t} {K}:PD z e sz (.own t) σ K=optX (σ.T t) fun tk=>AP (tk.sz=some sz∧okZ z tk=true) (K tk.rows (σ.killT t)):=rfl
@[go_sem] theorem W9 {sz} {K}:J2 z sz .nils σ K=K [] σ:=rfl
@[go_sem] theorem YW {sz b n sz'} {K}:J2 z sz (.bsl b n sz') σ K=optX (σ.B b) fun vs=>AP (sz'=sz∧vs.length=n*sz∧vs.all AV.one=true) (A0 z vs σ fun ds σ'=>Ag (B5 sz n ds) fun rows=>K rows σ'):=by
 simp only [J2,optX,AP,Ag]
 grind
@[go_sem] theorem aY {sz} {rows} {K}:J2 .no sz (.ro rows) σ K=AP (∀row ∈ rows,row.length=sz∧∀d ∈ row,d.flat=true) (K rows σ):=rfl
@[go_sem] theorem gK {sz} {rows} {K}:J2 .nl sz (.ro rows) σ K=AP (∀row ∈ rows,row.length=sz∧∀d ∈ row,d.flat=true) (K rows σ):=rfl
@[go_sem] theorem YX {sz:Nat} {rows:List (List D)} {K:List (List D)→St→Prop}:J2 .yes sz (.ro rows) σ K=AP (∀row ∈ rows,row.length=sz∧∀d ∈ row,d≠ .gone) (LB (fzR rows) fun r=>K r σ):=by
 grind [J2,AP,GZ]
@[go_sem] theorem YY {sz t} {K}:J2 z sz (.own t) σ K=optX (σ.T t) fun tk=>AP (okZ z tk=true) (AP (∀row ∈ tk.rows,row.length=sz) (K tk.rows (σ.killT t))):=by
 grind [J2,optX,AP]
end
attribute [go_sem] B5
def apX (P:Program) (pos:Nat) (e:TypeId) (x y:AV) (dst:Option Tmp) (σ:St) (K:St→Prop):Prop:=
 AP (0<tsz P e∧(tz P e).length =tsz P e) (zX fun z=>PD z e (tsz P e) x σ fun rows σ1=>J2 z (tsz P e) y σ1 fun rows2 σ2=>
   AP ((rows.length+rows2.length)*P.bytesOf e≤140737488355328∧rows.length+rows2.length≤maxLen) (AP (look σ2.t (pos*16)=none) (K ((σ2.setT (pos*16) ⟨rows++rows2,some (tsz P e),0,z⟩).put dst (.own (pos*16))))))
theorem YZ {pos} {dst} {x y} {t}:opX P pos dst (.call ⟨.builtin .append,List.toArray [x,y],List.toArray [t,t]⟩) σ K=slX (ti P t) fun e=>apX P pos e (σ.e x) (σ.e y) dst σ K:=by
 unfold opX
 simp only [aop,UN,slX,true_and]
 generalize ti P t=q
 split
 ·rename_i e
  show (0<tsz P e∧(tz P e).length =tsz P e∧_)=((0<tsz P e∧(tz P e).length =tsz P e)∧_)
  rw [and_assoc]
  congr 1
  congr 1
  show (∃z,_)=(∃z,_)
  congr 1
  funext z
  congr 1
  funext rows σ1
  congr 1
  funext rows2 σ2
  show (_∧_∧_∧_)=((_∧_)∧_∧_)
  rw [and_assoc]
 grind
end
@[go_sem] theorem eO {v x}:EW v [] x=x:=by cases v <;> rfl
attribute [go_sem ↓] c0
attribute [go_sem ↓] aC cz YP aD aE aF aG aJ aK YQ aM c7 aO aP YR aQ YS YT dA aR aS aT aV aX aW W8 YU YV W9 YW aY YX YY
end Go.Proofs.YtclmbjbbojdojaaGreat.Ab
namespace Go.Proofs.YtclmbjbbojdojaaGreat.Ab
set_option linter.unusedVariables false
open Go.RowKit
section
variable {P:Program} {σ:St} {K:St→Prop} {Q:AE→St→Prop}
@[go_sem] theorem dB {n} (h1: -9223372036854775808≤n) (h2:n≤9223372036854775807):IntKind.i64.wrap n=n:=Go.IntWalk.i64_in n ⟨h1,h2⟩
@[go_sem ↓] theorem gL {K}:K9 P σ [] K=K [] :=rfl
@[go_sem ↓] theorem gM {t} {l} {K}:K9 P σ (.tmp t::l) K=Ag (σ.g t) fun v=>K9 P σ l fun vs=>K (v::vs):=rfl
@[go_sem ↓] theorem eP {a} {t} {l} {K}:K9 P σ (.cell a t::l) K=KP P t (σ.g a) σ fun v=>K9 P σ l fun vs=>K (v::vs):=rfl
@[go_sem] theorem aZ {k} {n m}:C1 (.int k n) (.int k m) σ K=AP (n=m) (K σ):=by simp [C1,AP]
@[go_sem] theorem Ya {b c}:C1 (.bool b) (.bool c) σ K=AP (b=c) (K σ):=by rfl
@[go_sem] theorem aa {s s'}:C1 (.str s) (.str s') σ K=AP (s=s') (K σ):=by rfl
@[go_sem] theorem Yb:C1 .nilp .nilp σ K=K σ:=by rfl
@[go_sem] theorem Yc {ap} {rows}:C1 .nils (.ow ap rows) σ K=AP (rows=[]) (K σ):=by rfl
@[go_sem] theorem ae {b n sz} {ap} {rows}:C1 (.bsl b n sz) (.ow ap rows) σ K=AP (n=0) (AP (rows=[]) (K σ)):=by rfl
@[go_sem] theorem ag {t} {ap} {rows}:C1 (.own t) (.ow ap rows) σ K=optX (σ.T t) fun tk=>AP (tk.rows=rows) (AP (ap=none∨tk.sz=ap) (AP (tk.z= .no) (K (σ.killT t)))):=by rfl
@[go_sem] theorem ah {rows rows'}:C1 (.ro rows) (.ro rows') σ K=AP (rows=rows') (K σ):=by rfl
@[go_sem] theorem i0 {rows rows'}:C1 (.ro rows) (.ow none rows') σ K=AP (rows=[]) (AP (rows'=[]) (K σ)):=by simp [C1,AP]
@[go_sem] theorem ai {vs} {rs}:C1 (.agg vs) (.agg rs) σ K=Ie vs rs σ K:=by rfl
@[go_sem] theorem aj {vs} {rs}:C1 (.tup vs) (.tup rs) σ K=Ie vs rs σ K:=by rfl
@[go_sem] theorem Yd:Ie [] [] σ K=K σ:=by rfl
@[go_sem] theorem XA {v} {vs} {r} {rs}:Ie (v::vs) (r::rs) σ K=C1 v r σ fun σ'=>Ie vs rs σ' K:=by rfl
def XB (r:RV) (σ:St) (vs:List AV):Prop:=match vs with
 | [v] =>C1 v r σ fun _=>True
 |vs=>C1 (.tup vs) r σ fun _=>True
@[go_sem ↓] theorem i1 {r}:XB r σ [] =C1 (.tup []) r σ fun _=>True:=rfl
@[go_sem ↓] theorem i3 {r} {v}:XB r σ [v] =C1 v r σ fun _=>True:=rfl
@[go_sem ↓] theorem i4 {r} {v u} {vs}:XB r σ (v::u::vs)=C1 (.tup (v::u::vs)) r σ fun _=>True:=rfl
def endX (P:Program) (l:List ResultVar) (r:RV) (q:AE) (σ:St):Prop:=match q with| .exit _=>False|_=>K9 P σ l (XB r σ)
@[go_sem ↓] theorem dC {l} {r}:endX P l r .normal σ=K9 P σ l (XB r σ):=rfl
@[go_sem ↓] theorem i5 {l} {r}:endX P l r .ret σ=K9 P σ l (XB r σ):=rfl
theorem gN (hm:P.follows .mixedOrders =true) {f} {fn} {c} {l} {args} {r} (hf:P.funcs[f]? =some fn) (hb:fn.body=some c) (hr:fn.results=l.toArray) (hnm:(fn.name == "runtime.NumGoroutine")=false)
  (hn:decide (args.length≤fn.ntmps)=true) (hok:FJ fn.ntmps c=true) (h:awp P c (endX P l r) (st0 args)):AC P f args r:=by
 refine Ul hm hf hb hnm (of_decide_eq_true hn) hok ?_
 have e:endQ P fn.results.toList r=endX P l r:=by
  rw [hr]
  funext q σ
  cases q <;> rfl
 rw [e]
 exact h
attribute [go_sem] st0 Pw
def Ye {X:Type} (R:X→Prop) (inv:X→St) (μ:X→Nat) (x:X) (σ:St):Prop:=∃x',ZL σ (inv x')∧R x'∧μ x'<μ x
def dD {X:Type} (R:X→Prop) (inv:X→St) (μ:X→Nat) (x:X) (σ:St) (_:Wrap R) (_:Wrap inv) (_:Wrap μ) (_:Wrap x):Prop:=Ye R inv μ x σ
@[go_sem ↓] theorem eQ {X:Type} {R:X→Prop} {inv:X→St} {μ:X→Nat} {x:X} {σ:St}:Ye R inv μ x σ=dD R inv μ x σ ⟨⟩ ⟨⟩ ⟨⟩ ⟨⟩:=rfl
attribute [go_sem] JE Su PK PL ren rens FM F1 List.nodup_nil List.all_nil List.all_cons AV.int.injEq AV.bool.injEq AV.str.injEq AV.ro.injEq AV.rop.injEq AV.agg.injEq AV.fn.injEq AV.own.injEq AV.box.injEq AV.bsl.injEq AV.elt.injEq List.cons.injEq Tok.mk.injEq Option.isSome_some exists_eq_left' exists_eq_left
end
attribute [go_sem ↓] aZ Ya aa Yb Yc ae ag ah ai aj Yd XA
end Go.Proofs.YtclmbjbbojdojaaGreat.Ab
namespace Go.Proofs.YtclmbjbbojdojaaGreat.Ab
set_option linter.unusedVariables false
open Go.RowKit
section
variable {P:Program} {σ:St} {K:St→Prop} {pos:Nat} {dst:Option Tmp} {t t' s d:TypeId} {x y a b c g l:Operand} {f i:Nat} {op:BinOp}
def slY (t:TI) (K:TypeId→Prop) (_:Wrap K):Prop:=slX t K
@[go_sem ↓] theorem kV {t} {K}:slX t K=slY t K ⟨⟩:=rfl
@[go_sem] theorem kW {e} {K} {w}:slY (.sl e) K w=K e:=rfl
def bX (t:TI) (K:IntKind→Prop) (_:Wrap K):Prop:=Ti t K
@[go_sem ↓] theorem gO {t} {K}:Ti t K=bX t K ⟨⟩:=rfl
@[go_sem] theorem eR {k} {K} {w}:bX (.int k) K w=K k:=rfl
def stY (P:Program) (t:TI) (K:List (Nat × TypeId)→Prop) (_:Wrap K):Prop:=To P t K
@[go_sem ↓] theorem kX {t} {K}:To P t K=stY P t K ⟨⟩:=rfl
@[go_sem] theorem kY {fs} {K} {w}:stY P (.st fs) K w=K fs:=rfl
@[go_sem] theorem i6 {n} {el} {K} {w}:stY P (.arr n el) K w=AP (0<tsz P el) (Ag (J1 (tsz P el) el n 0) K):=rfl
def dE (rows:List (List D)) (n:Int) (sz:Nat) (K:List D→Prop) (_:Wrap K):Prop:=Tl rows n sz K
@[go_sem ↓] theorem i7 {rows} {n} {sz} {K}:Tl rows n sz K=dE rows n sz K ⟨⟩:=rfl
def gP {α:Type} (v:α) (K:α→Prop) (_:Wrap K):Prop:=LB v K
@[go_sem ↓] theorem i8 {α:Type} {v:α} {K:α→Prop}:LB v K=gP v K ⟨⟩:=rfl
theorem AT {α:Type} {v} {K} {w} (y:α) (h:v=y) (hk:K y):gP v K w:=⟨y,h,hk⟩
def IW (n:Nat) (rs:List RV) (K:List AV→List (Nat × Tok)→Prop) (_:Wrap K):Prop:=K (Fz n rs).1 (Fz n rs).2
def cv1 (n:Nat) (r:RV) (K:AV→List (Nat × Tok)→Prop):Prop:=K (conv n r).1 (conv n r).2
section
variable {n:Nat} {rs us:List RV} {L:List AV→List (Nat × Tok)→Prop} {L1:AV→List (Nat × Tok)→Prop} {w:Wrap L}
@[go_sem] theorem ak:IW n [] L w=L [] [] :=rfl
@[go_sem] theorem am {k} {x}:IW n (.int k x::rs) L w=IW n rs (fun vs ts=>L (.int k x::vs) ts) ⟨⟩:=by rfl
@[go_sem] theorem Yf {b}:IW n (.bool b::rs) L w=IW n rs (fun vs ts=>L (.bool b::vs) ts) ⟨⟩:=by rfl
@[go_sem] theorem an {x}:IW n (.str x::rs) L w=IW n rs (fun vs ts=>L (.str x::vs) ts) ⟨⟩:=by rfl
@[go_sem] theorem dF {x}:IW n (.ro x::rs) L w=IW n rs (fun vs ts=>L (.any ::vs) ts) ⟨⟩:=by rfl
@[go_sem] theorem Yg:IW n (.nilp ::rs) L w=IW n rs (fun vs ts=>L (.nilp ::vs) ts) ⟨⟩:=by rfl
@[go_sem] theorem dG {ap} {x}:IW n (.ow ap x::rs) L w=IW (n+1) rs (fun vs ts=>L (.own n::vs) ((n,⟨x,ap,0,.no⟩)::ts)) ⟨⟩:=by rfl
@[go_sem] theorem aq:IW n (.agg us::rs) L w=IW n us (fun ws ts=>IW (n+ts.length) rs (fun vs ts'=>L (.agg ws::vs) (ts++ts')) ⟨⟩) ⟨⟩:=by rfl
@[go_sem] theorem ar:IW n (.tup us::rs) L w=IW n us (fun ws ts=>IW (n+ts.length) rs (fun vs ts'=>L (.tup ws::vs) (ts++ts')) ⟨⟩) ⟨⟩:=by rfl
@[go_sem ↓] theorem i9 {k} {x}:cv1 n (.int k x) L1=L1 (.int k x) [] :=rfl
@[go_sem ↓] theorem gQ {b}:cv1 n (.bool b) L1=L1 (.bool b) [] :=rfl
@[go_sem ↓] theorem jA {x}:cv1 n (.str x) L1=L1 (.str x) [] :=rfl
@[go_sem ↓] theorem kZ {x}:cv1 n (.ro x) L1=L1 .any [] :=rfl
@[go_sem ↓] theorem gR:cv1 n .nilp L1=L1 .nilp [] :=rfl
@[go_sem ↓] theorem kc {ap} {x}:cv1 n (.ow ap x) L1=L1 (.own n) [(n,⟨x,ap,0,.no⟩)] :=rfl
@[go_sem ↓] theorem jB:cv1 n (.agg us) L1=IW n us (fun ws ts=>L1 (.agg ws) ts) ⟨⟩:=by rfl
@[go_sem ↓] theorem jC:cv1 n (.tup us) L1=IW n us (fun ws ts=>L1 (.tup ws) ts) ⟨⟩:=by rfl
end
attribute [go_sem ↓] ak am Yf an dF Yg dG aq ar
def Tq (P:Program) (L:Bool) (pos:Nat) (f:FuncId) (args:List AV) (as:Option (List AV)) (dst:Option Tmp) (σ:St) (K:St→Prop) (_:Wrap K) (w:Wrap L):Prop:=Rf P L pos f args as dst σ K w
@[go_sem ↓] theorem gS {L} {wL} {f} {args} {as}:Rf P L pos f args as dst σ K wL=Tq P L pos f args as dst σ K ⟨⟩ wL:=rfl
theorem AH {f} {args bs} {w} {rv} (h:AC P f bs rv) (hk:Ag (pos*16) fun m=>cv1 m rv fun v ts=>AP (Cq σ ts) (K (σ.add dst ⟨v,ts,[]⟩))) {L} {wL}:Tq P L pos f args (some bs) dst σ K w wL:=aN h hk.1 hk.2
theorem Vs {f} {args bs} {w} {q} {rows} {sz} {z} {o} (h:AG P f bs [] [] (.own q) [(q,⟨rows,sz,0,z⟩)] []) (e:cls (fun _=>none) (fun _=>none) args=some bs) (hk:AP (look σ.t (pos*16)=none) (K (σ.add dst ⟨.own (pos*16),[(pos*16,⟨rows,sz,0,z⟩)],[]⟩))) {L} {wL}:Tq P L pos f args o dst σ K w wL:=.inl (.inr ⟨bs,.own q,_,[],h,e,.inr (.inl ⟨q,_,rfl,rfl,rfl,hk.1,hk.2⟩)⟩)
attribute [go_sem] So
def Vt (y:Way) (as:List AV) (pt:List (Nat × Tok)) (pb:List (Nat × List AV)) (qt:List (Nat × Tok)) (qb:List (Nat × List AV)):Bool:=
 decide (((y.rt++y.nt).map (·.2)).Nodup)&&decide (((y.rt++y.nt).map (·.1)).Nodup)&&decide (((y.rb.map (·.2.1))++y.nb.map (·.2)).Nodup)&&decide (((y.rb.map (·.1))++y.nb.map (·.1)).Nodup)&&
 (y.rt.all fun p=>(look pt p.1).isSome)&&(y.rb.all fun p=>(look pb p.1).isSome)&&(y.nt.all fun p=>(look pt p.1).isNone)&&(y.nb.all fun p=>(look pb p.1).isNone)&&decide ((pt.map (·.1)).Nodup)&&decide ((pb.map (·.1)).Nodup)&&
 (pb.all fun p=>(look qb p.1).isSome)&&J3 y.rt y.cv&&(y.md||noZ qt)&&XV as pt pb&&(y.rt.all fun p=>decide (p.1 <1000)||(look qt p.1).isNone)
def P2:List (Nat × Nat)→List (Nat × Option Tok)→Prop
 | [],_=>True
 |(_,n)::r,t=>look t n=none∧P2 r t
def Mw:List (Nat × Nat)→List (Nat × Option (List AV))→Prop
 | [],_=>True
 |(_,n)::r,t=>look t n=none∧Mw r t
def Vu (y:Way) (args as:List AV) (pt:List (Nat × Tok)) (pb:List (Nat × List AV)) (σ1:St):Prop:=
 P2 y.nt σ1.t∧Mw y.nb σ1.b∧OG y.rt σ1 pt∧F0 y σ1 (σ1.less y) pb∧PasL y (σ1.less y) args as
theorem OS {t}:∀ {l},P2 l t→∀p ∈ l,(look t p.2).isNone =true
 | [],_,p,h=>by cases h
 |(c,n)::l,hf,p,h=>by
  simp only [P2] at hf
  rcases List.mem_cons.1 h with rfl|h
  ·rw [hf.1]; rfl
  ·exact OS hf.2 p h
theorem Mx {t}:∀ {l},Mw l t→∀p ∈ l,(look t p.2).isNone =true
 | [],_,p,h=>by cases h
 |(c,n)::l,hf,p,h=>by
  simp only [Mw] at hf
  rcases List.mem_cons.1 h with rfl|h
  ·rw [hf.1]; rfl
  ·exact Mx hf.2 p h
theorem Yh {f} {args} {σ} {as} {pt} {pb} {r} {qt} {qb} {K} (y:Way) (h:AG P f as pt pb r qt qb) (hB:Vt y as pt pb qt qb=true)
  (hc:Bu y.cv σ fun σ1=>AP (Vu y args as pt pb σ1) (A3 y.cv (σ1.after y qt qb) fun σ2=>K (bak y r) σ2)):Q6 P f args σ K:=by
 refine⟨y,as,pt,pb,r,qt,qb,h,Hk (fun σ1 h=>?_) hc⟩
 unfold Vt at hB
 simp only [Bool.and_eq_true,decide_eq_true_eq,and_assoc] at hB
 obtain⟨b1,b2,b3,b4,b5,b6,b7,b8,b9,b10,b11,b12,bm,b13,b14⟩:=hB
 obtain⟨⟨h1,h2,h3,h4,h5⟩,h6⟩:=h
 refine⟨⟨b1,b2,b3,b4,b5,b6,?_,?_,b9,b10⟩,h3,h4,h5,b11,⟨b12,bm⟩,b13,b14,h6⟩
 ·rw [List.all_eq_true] at b7 ⊢
  intro p hp
  rw [b7 p hp,OS h1 p hp]; rfl
 ·rw [List.all_eq_true] at b8 ⊢
  intro p hp
  rw [b8 p hp,Mx h2 p hp]; rfl
theorem dH {L} {wL} {f} {args} {o} {w} {as} {pt} {pb} {r} {qt} {qb} (y:Way) (hL:L=true) (h:AG P f as pt pb r qt qb) (hB:Vt y as pt pb qt qb=true)
  (hc:Bu y.cv σ fun σ1=>AP (Vu y args as pt pb σ1) (A3 y.cv (σ1.after y qt qb) fun σ2=>K (σ2.put dst (bak y r)))):Tq P L pos f args o dst σ K w wL:=.inr ⟨hL,[],Yh (K:=fun v σ'=>K (σ'.put dst v)) y h hB hc⟩
@[go_sem ↓] theorem jD {args} {K}:FzK [] args σ K=K args σ:=rfl
@[go_sem ↓] theorem gT {b} {r} {args} {s} {t} {bb} {K}:FzK (b::r) args ⟨s,t,bb⟩ K=optX ((look bb b).join) fun vs=>AP (1000≤b∧isMp vs=false) (Ag (args.map (fzA b vs)) fun args'=>FzK r args' ⟨s,t,(b,none)::bb⟩ K):=rfl
section
variable {b:Nat} {vs:List AV}
@[go_sem] theorem jE {x n sz}:fzA b vs (.bsl x n sz)=(cl (fun _=>none) (only b vs) (.bsl x n sz)).getD (.bsl x n sz):=rfl
@[go_sem] theorem jF {x off}:fzA b vs (.box x off)=(cl (fun _=>none) (only b vs) (.box x off)).getD (.box x off):=rfl
@[go_sem] theorem jG {us}:fzA b vs (.agg us)=(cl (fun _=>none) (only b vs) (.agg us)).getD (.agg us):=rfl
@[go_sem] theorem jH {k} {n}:fzA b vs (.int k n)= .int k n:=rfl
@[go_sem] theorem gU {x}:fzA b vs (.bool x)= .bool x:=rfl
@[go_sem] theorem jI {x}:fzA b vs (.str x)= .str x:=rfl
@[go_sem] theorem ke {x}:fzA b vs (.ro x)= .ro x:=rfl
@[go_sem] theorem jJ {x}:fzA b vs (.own x)= .own x:=rfl
@[go_sem] theorem jK {x} {off}:fzA b vs (.rop x off)= .rop x off:=rfl
@[go_sem] theorem jL {t sz i off}:fzA b vs (.elt t sz i off)= .elt t sz i off:=rfl
@[go_sem] theorem kf {f} {x}:fzA b vs (.fn f x)= .fn f x:=rfl
@[go_sem] theorem gV:fzA b vs .nilp = .nilp :=rfl
@[go_sem] theorem gW:fzA b vs .nils = .nils :=rfl
@[go_sem] theorem jM {x}:fzA b vs (.mpr x)= .mpr x:=rfl
@[go_sem] theorem jN:fzA b vs .any = .any :=rfl
end
attribute [go_sem] Option.getD_some Option.getD_none Option.join_some Option.bind_some Option.bind_none only
attribute [go_sem] ne_eq true_imp_iff implies_true false_imp_iff DT D.flat kept Vu P2 Mw OG St.less OH PE PF PG UO UP St.after bak baks F0
@[go_sem ↓] theorem eS:Bu [] σ K=K σ:=by rw [Bu]
@[go_sem ↓] theorem dI {n} {z} {r} {s} {t} {b}:Bu ((n,.nils,z)::r) ⟨s,t,b⟩ K=AP (look t n=none) (Bu r ⟨s,(n,some ⟨[],z,0,.no⟩)::t,b⟩ K):=by rw [Bu]; rfl
@[go_sem ↓] theorem eU {n x m sz} {z} {r} {s} {t} {b}:Bu ((n,.bsl x m sz,z)::r) ⟨s,t,b⟩ K=AP (m=0) (AP (look t n=none) (Bu r ⟨s,(n,some ⟨[],z,0,.no⟩)::t,b⟩ K)):=by rw [Bu]; rfl
@[go_sem ↓] theorem eV {n t' g sz i j:Nat} {r:List (Nat × AV × Option Nat)} {s:List (Nat × AV)} {t:List (Nat × Option Tok)} {b:List (Nat × Option (List AV))}:Bu ((n,.sub t' g [(sz,i,j)],none)::r) ⟨s,t,b⟩ K=
  AP (look t n=none∧n≠t') (optX (look t t').join fun tk=>AP (tk.gen=g) (optX (getP [(sz,i,j)] tk.rows) fun rows=>LB (putR [(sz,i,j)] tk.rows .gone) fun rows'=>Bu r ⟨s,(n,some ⟨rows,none,0,tk.z⟩)::(t',some ⟨rows',tk.sz,g,tk.z⟩)::t,b⟩ K)):=by
 rw [Bu]
 simp only [AP,optX,GZ,List.length_cons,List.length_nil,true_and,Nat.zero_add]
 refine propext ⟨?_,?_⟩
 ·rintro ⟨h2,tk,rows,h4,h5,h6,h7,h8⟩; exact⟨⟨h2,h7⟩,tk,h4,h5,rows,h6,h8⟩
 ·rintro ⟨⟨h2,h7⟩,tk,h4,h5,rows,h6,h8⟩; exact⟨h2,tk,rows,h4,h5,h6,h7,h8⟩
@[go_sem ↓] theorem jO:A3 [] σ K=K σ:=by rw [A3]
def unX (n:Nat) (K:St→Prop) (σ:St):Prop:=K {σ with t:=(n,none)::σ.t}
@[go_sem ↓] theorem kh {n} {s} {t} {b}:unX n K ⟨s,t,b⟩=K ⟨s,(n,none)::t,b⟩:=rfl
@[go_sem ↓] theorem gX {n} {z} {r}:A3 ((n,.nils,z)::r) σ K=A3 r σ (unX n K):=by rw [A3]; rfl; grind
@[go_sem ↓] theorem jP {n x m sz} {z} {r}:A3 ((n,.bsl x m sz,z)::r) σ K=A3 r σ (unX n K):=by rw [A3]; rfl; grind
def unS (n t' g:Nat) (p:Pth) (K:St→Prop) (σ:St):Prop:=match σ.T n with
 |some tn=>∃tk,σ.T t'=some tk∧MY p tk.rows=some .gone ∧(n≠t'∧okZ tk.z tn=true)∧K {σ with t:=(n,none)::(t',some ⟨putR p tk.rows (.sl tn.rows),tk.sz,if tn.gen=0∧tk.gen=g then g else tk.gen+tn.gen+1,tk.z⟩)::σ.t}
 |none=>K σ
@[go_sem ↓] theorem jQ {n t' g} {p} {z} {r}:A3 ((n,.sub t' g p,z)::r) σ K=A3 r σ (unS n t' g p K):=by rw [A3]; rfl
def unO (o:Option Tok) (n t' g:Nat) (p:Pth) (K:St→Prop) (σ:St):Prop:=match o with
 |some tn=>AP (n≠t') (optX (σ.T t') fun tk=>AP (okZ tk.z tn=true) (AP (MY p tk.rows=some .gone) (LB (putR p tk.rows (.sl tn.rows)) fun rows=>K ⟨σ.s,(n,none)::(t',some ⟨rows,tk.sz,if tn.gen=0∧tk.gen=g then g else tk.gen+tn.gen+1,tk.z⟩)::σ.t,σ.b⟩)))
 |none=>K σ
@[go_sem ↓] theorem kj {n t' g:Nat} {p:Pth} {s:List (Nat × AV)} {t:List (Nat × Option Tok)} {b:List (Nat × Option (List AV))}:unS n t' g p K ⟨s,t,b⟩=unO (look t n).join n t' g p K ⟨s,t,b⟩:=by
 grind [unS,unO,St.T,AP,optX,GZ]
@[go_sem] theorem gY {n t' g} {p} {tn}:unO (some tn) n t' g p K σ=AP (n≠t') (optX (σ.T t') fun tk=>AP (okZ tk.z tn=true) (AP (MY p tk.rows=some .gone) (LB (putR p tk.rows (.sl tn.rows)) fun rows=>K ⟨σ.s,(n,none)::(t',some ⟨rows,tk.sz,if tn.gen=0∧tk.gen=g then g else tk.gen+tn.gen+1,tk.z⟩)::σ.t,σ.b⟩))):=rfl
@[go_sem] theorem gZ {n t' g} {p}:unO none n t' g p K σ=K σ:=rfl
theorem C4 {α:Type} {l:List α} {i:Nat} {x y:α} (h:l[i]? =some x):(l.set i y)[i]? =some y:=List.getElem?_set_self (A7 h)
theorem G0 {rows r} {sz i j} {row} {d} (h:rows[i]? =some row) (hl:row.length=sz) (hj:row[j]? =some d) (hd:FK d=some r):getP [(sz,i,j)] rows=some r:=by
 rw [getP,h]
 simp [hl,hj,hd,getP]
theorem Ff {rows r} {sz i j} {row} (h:rows[i]? =some row) (hl:row.length=sz) (hj:row[j]? =some (.sl r)):getP [(sz,i,j)] rows=some r:=G0 h hl hj rfl
theorem SD {rows r1 r} {sz i j} {row} {d} {p} (h:rows[i]? =some row) (hl:row.length=sz) (hj:row[j]? =some d) (hd:FK d=some r1) (hp:getP p r1=some r):getP ((sz,i,j)::p) rows=some r:=by
 rw [getP,h]
 simp [hl,hj,hd,hp]
theorem Et {rows} {sz i j} {row} {d} (h:rows[i]? =some row) (hl:row.length=sz) (hj:row[j]? =some d):MY [(sz,i,j)] rows=some d:=by
 grind [MY]
theorem B8 {rows} {sz i j} {row} {d d'} (h:rows[i]? =some row) (hj:row[j]? =some d'):putR [(sz,i,j)] rows d=rows.set i (row.set j d):=by
 grind [putR,Ab.put]
theorem Yi {rows r1} {sz i j s2 i2 j2} {row row2} {d d2} (h:rows[i]? =some row) (hj:row[j]? =some (.sl r1)) (h2:r1[i2]? =some row2) (hj2:row2[j2]? =some d2):putR [(sz,i,j),(s2,i2,j2)] rows d=rows.set i (row.set j (.sl (r1.set i2 (row2.set j2 d)))):=by
 simp [putR,Ab.put,h,hj,h2,hj2]
theorem K3 {rows:List (List D)} {sz i j:Nat} {row:List D} {d d':D} (h:rows[i]? =some row) (hj:row[j]? =some d'):(putR [(sz,i,j)] rows d)[i]? =some (row.set j d):=by
 rw [B8 h hj]; grind
section
variable {y:Way} {σ0:St}
@[go_sem] theorem gb:PasL y σ0 [] [] =True:=by rfl
@[go_sem] theorem eW {a b} {as bs}:PasL y σ0 (a::as) (b::bs)=(DU y σ0 a b∧PasL y σ0 as bs):=by rfl
@[go_sem] theorem jR {n c}:DU y σ0 (.own n) (.own c)=(look y.rt c=some n∨∃z,∃m,look y.rt c=some m∧look y.cv m=some (.own n,z)):=by
 grind [DU]
def cvX (o:Option (AV × Option Nat)) (a:AV):Prop:=match o with|some x=>x.1 =a|none=>False
theorem SE {o} {a}:(∃z,o=some (a,z))=cvX o a:=by
 unfold cvX
 grind
def rtX (o:Option Nat) (K:Nat→Prop):Prop:=match o with|some n=>K n|none=>False
@[go_sem] theorem gc {n} {K}:rtX (some n) K=K n:=rfl
@[go_sem] theorem gd {x} {a}:cvX (some x) a=(x.1 =a):=rfl
theorem O4 {o} {p}:(∃n,o=some n∧p n)=rtX o p:=by
 cases o <;> simp [rtX]
@[go_sem] theorem jS {t g c} {p}:DU y σ0 (.sub t g p) (.own c)=rtX (look y.rt c) fun n=>cvX (look y.cv n) (.sub t g p):=by
 rw [← O4]
 grind [DU,SE]
@[go_sem] theorem gf {c}:DU y σ0 .nils (.own c)=rtX (look y.rt c) fun n=>cvX (look y.cv n) .nils :=by
 rw [← O4]
 grind [DU,SE]
@[go_sem] theorem jT {x m sz c}:DU y σ0 (.bsl x m sz) (.own c)=rtX (look y.rt c) fun n=>cvX (look y.cv n) (.bsl x m sz):=by
 rw [← O4]
 grind [DU,SE]
@[go_sem] theorem jU {n off b off'}:DU y σ0 (.box n off) (.box b off')=match look y.rb b with|some q=>n=q.1 ∧off=q.2 +off'|none=>False:=by
 simp only [DU,AV.box.injEq]
 cases look y.rb b <;> simp
@[go_sem] theorem jV {n sz i off c sz' i' off'}:DU y σ0 (.elt n sz i off) (.elt c sz' i' off')=rtX (look y.rt c) fun m=>n=m∧sz=sz'∧i=i'∧off=off':=by
 rw [← O4]
 grind [DU]
@[go_sem] theorem jW {vs us}:DU y σ0 (.agg vs) (.agg us)=PasL y σ0 vs us:=by rfl
@[go_sem] theorem kl {f f'} {vs us}:DU y σ0 (.fn f vs) (.fn f' us)=(f=f'∧PasL y σ0 vs us):=by rfl
@[go_sem] theorem jX {n b}:DU y σ0 (.mpr n) (.mpr b)=match look y.rb b with|some q=>n=q.1 |none=>False:=by
 simp only [DU,AV.mpr.injEq]
 cases look y.rb b <;> simp
def clW (y:Way) (σ0:St) (a:AV):Option AV:=cl (if y.md=true then fun _=>none else σ0.T) (if y.md=true then fun _=>none else σ0.B) a
@[go_sem] theorem jY {a} {k} {n}:DU y σ0 a (.int k n)=(clW y σ0 a=some (.int k n)):=by cases a <;> simp only [DU,clW]
@[go_sem] theorem gg {a} {b}:DU y σ0 a (.bool b)=(clW y σ0 a=some (.bool b)):=by cases a <;> simp only [DU,clW]
@[go_sem] theorem jZ {a} {s}:DU y σ0 a (.str s)=(clW y σ0 a=some (.str s)):=by cases a <;> simp only [DU,clW]
@[go_sem] theorem km {a} {rows}:DU y σ0 a (.ro rows)=(clW y σ0 a=some (.ro rows)):=by cases a <;> simp only [DU,clW]
@[go_sem] theorem ja {a} {vs} {off}:DU y σ0 a (.rop vs off)=narR (clW y σ0 a) vs off:=by cases a <;> simp only [DU,clW]
@[go_sem] theorem gh {us} {o'} {vs} {off}:narR (some (.rop us o')) vs off=((us=vs∧o'=off)∨(off=0∧Ek us o' vs.length=vs)):=rfl
@[go_sem] theorem gi {a}:DU y σ0 a .nilp =(clW y σ0 a=some .nilp):=by cases a <;> simp only [DU,clW]
@[go_sem] theorem jb {a} {q} {rows}:DU y σ0 a (.mpc q rows)=(clW y σ0 a=some (.mpc q rows)):=by cases a <;> simp only [DU,clW]
@[go_sem] theorem jc {a}:DU y σ0 a .any =(clW y σ0 a=some .any):=by cases a <;> simp only [DU,clW]
@[go_sem] theorem kn {cv rt rb nt nb} {a}:clW ⟨cv,rt,rb,nt,nb,true⟩ σ0 a=cl (fun _=>none) (fun _=>none) a:=by rfl
@[go_sem] theorem ko {cv rt rb nt nb} {a}:clW ⟨cv,rt,rb,nt,nb,false⟩ σ0 a=cl σ0.T σ0.B a:=by rfl
end
def Yj (P:Program) (t:TypeId) (v:AV) (σ:St) (K:Bool→Prop) (_:Wrap K):Prop:=Te P t v σ K
theorem Ts {rows} {K} {w} (h:slP (ti P t)) (h0:rows=[] →K true) (h1:K false):Yj P t (.ro rows) σ K w:=Ze h h0 h1
@[go_sem] theorem eX {K} {w}:Yj P t .nils σ K w=AP (slP (ti P t)) (K true):=Re
@[go_sem] theorem gj {b n sz} {K} {w}:Yj P t (.bsl b n sz) σ K w=AP (slP (ti P t)) (K false):=Tf
@[go_sem ↓] theorem eY:opX P pos dst (.makeMap t none) σ K=optX (bJ P t) fun q=>AP (look σ.b pos=none) (K ((σ.put dst (.mpr pos)).setB pos [.mpc q []])):=by
 rw [Ni (fun _=>by rfl)]
 simp only [Ev,optX,AP]
 refine propext ⟨?_,?_⟩
 ·rintro ⟨r,⟨q,h1,rfl⟩,-,h2,h3⟩
  exact⟨q,h1,h2.1,by rw [← IK]; exact h3⟩
 ·rintro ⟨q,h1,h2,h3⟩
  exact⟨_,⟨q,h1,rfl⟩,trivial,⟨h2,trivial⟩,by rw [IK]; exact h3⟩
def lkR (ok:Bool) (o:Option D) (z:AV) (K:AV→Prop):Prop:=K (if ok=true then .tup [(o.map ofD).getD z,.bool o.isSome] else (o.map ofD).getD z)
@[go_sem] theorem kq {o} {z} {K}:lkR false o z K=Ag ((o.map ofD).getD z) K:=by rfl
@[go_sem] theorem kr {o} {z} {K}:lkR true o z K=Ag ((o.map ofD).getD z) fun v=>Ag o.isSome fun b=>K (.tup [v,.bool b]):=by rfl
def lkX (P:Program) (t:TypeId) (u v:AV) (ok:Bool) (σ:St) (K:AV→Prop):Prop:=∃r,OE P σ.B t u v ok r∧K r
@[go_sem] theorem jd {b} {v} {ok} {K}:lkX P t (.mpr b) v ok σ K=U1 (ti P t) fun kt et=>Tn (σ.B b) fun q rows=>AP (UM P kt=some q) (optX (keyD v) fun k=>AP (Rs q k=true) (optX (tz1 P et) fun z=>Ag (zAV z) fun z'=>Ag (Gi k rows) fun o=>lkR ok o z' K)):=by
 simp only [lkX,OE,U1,Tn,AP,optX,Ag,lkR]
 grind
@[go_sem ↓] theorem gk {ok}:opX P pos dst (.lookup t x y ok) σ K=Ag (σ.e x) fun u=>Ag (σ.e y) fun v=>lkX P t u v ok σ fun r=>K (σ.put dst r):=
 Fo (p:=fun v=>OE P σ.B t (σ.e x) (σ.e y) ok v) (fun _=>by rfl) (fun r=>by rfl)
def Rg (a:AV):Option D:=match JC [a] with|some [d] =>some d|_=>none
@[go_sem] theorem eZ {k} {n}:Rg (.int k n)=some (.int k n):=rfl
@[go_sem] theorem dJ {b}:Rg (.bool b)=some (.bool b):=rfl
@[go_sem] theorem eb {s}:Rg (.str s)=some (.str s):=rfl
theorem Yk {a} {d}:JC [a] =some [d] ↔Rg a=some d:=by
 unfold Rg
 cases a <;> simp [JC]
def muX (P:Program) (t:TypeId) (u v x:AV) (σ:St) (K:St→Prop):Prop:=Rt P t u v x σ K
@[go_sem] theorem je {b:Nat} {v x:AV}:muX P t (.mpr b) v x σ K=U1 (ti P t) fun kt et=>Tn (σ.B b) fun q rows=>AP (rows.length<68719476736) (AP (UM P kt=some q) (optX (keyD v) fun k=>AP (Rs q k=true) (optX (Rg x) fun d=>LB (mput k d rows) fun rows'=>K (σ.setB b [.mpc q rows'])))):=by
 simp only [muX,Rt,U1,Tn,AP,optX,GZ]
 grind [Yk]
@[go_sem ↓] theorem bY {m i}:opX P pos dst (.mapUpdate t m i x) σ K=Ag (σ.e m) fun u=>Ag (σ.e i) fun v=>Ag (σ.e x) fun z=>muX P t u v z σ fun σ'=>K (σ'.put dst .any):=by
 rfl
@[go_sem ↓] theorem gm {m i}:opX P pos dst (.insert t m i x) σ K=Ag (σ.e m) fun u=>Ag (σ.e i) fun v=>Ag (σ.e x) fun z=>muX P t u v z σ fun σ'=>K (σ'.put dst .any):=by
 rfl
attribute [go_sem] keyD
@[go_sem] theorem go {k} {n}:Rs (.int k) (.int k n)=true:=by simp [Rs]
@[go_sem] theorem gp {s}:Rs .str (.str s)=true:=rfl
@[go_sem ↓] theorem ku:opX P pos dst (.pick c a b) σ K=Ag (σ.e c) fun u=>Ag (σ.e a) fun v=>Ag (σ.e b) fun w=>P1 u v w fun v=>K (σ.put dst v):=cc
@[go_sem ↓] theorem kw:opX P pos dst (.load t a) σ K=Ag (σ.e a) fun u=>KP P t u σ fun v=>K (σ.put dst v):=cd
@[go_sem ↓] theorem dK:opX P pos dst (.nilCheck x) σ K=Ag (σ.e x) fun u=>SB u fun v=>K (σ.put dst v):=Ux
@[go_sem ↓] theorem ec {y}:opX P pos dst (.binOp op t x (.tmp y) t') σ K=Ag (σ.e x) fun u=>Ag (σ.g y) fun v=>BM P op t u v fun v=>K (σ.put dst v):=Wy
@[go_sem ↓] theorem ed {k} {n}:opX P pos dst (.binOp op t x (.const (.int k n)) t') σ K=Ag (σ.e x) fun u=>BM P op t u (.int k n) fun v=>K (σ.put dst v):=Wz
@[go_sem ↓] theorem dL {b}:opX P pos dst (.binOp op t x (.const (.bool b)) t') σ K=Ag (σ.e x) fun u=>BM P op t u (.bool b) fun v=>K (σ.put dst v):=Uy
@[go_sem ↓] theorem ef {b}:opX P pos dst (.binOp op t x (.const (.string b)) t') σ K=Ag (σ.e x) fun u=>BM P op t u (.str b) fun v=>K (σ.put dst v):=W0
@[go_sem ↓] theorem dM:opX P pos dst (.binOp op t x (.const (.pointer none)) t') σ K=Ag (σ.e x) fun u=>BM P op t u .nilp fun v=>K (σ.put dst v):=Uz
@[go_sem ↓] theorem gq:opX P pos dst (.binOp .eql t x (.const (.slice none 0 0)) t') σ K=Ag (σ.e x) fun u=>Yj P t u σ (fun b=>K (σ.put dst (.bool b))) ⟨⟩:=YC
@[go_sem ↓] theorem gr:opX P pos dst (.binOp .neq t x (.const (.slice none 0 0)) t') σ K=Ag (σ.e x) fun u=>Yj P t u σ (fun b=>K (σ.put dst (.bool !b))) ⟨⟩:=YD
@[go_sem ↓] theorem kx {op}:opX P pos dst (.unOp op t x) σ K=Ag (σ.e x) fun u=>Th op u fun v=>K (σ.put dst v):=cn
@[go_sem ↓] theorem eh:opX P pos dst (.convert s d x) σ K=Ag (σ.e x) fun u=>KQ P s d u σ fun v=>K (σ.put dst v):=W2
@[go_sem ↓] theorem bZ:opX P pos dst (.fieldAddr s x f) σ K=Ag (σ.e x) fun u=>faX P s u f fun v=>K (σ.put dst v):=Tk
@[go_sem ↓] theorem jf:opX P pos dst (.field s x f) σ K=Ag (σ.e x) fun u=>fdX P s u f fun v=>K (σ.put dst v):=Z7
@[go_sem ↓] theorem ba:opX P pos dst (.indexAddr t x y) σ K=Ag (σ.e x) fun u=>Ag (σ.e y) fun v=>iaX P t u v σ fun v=>K (σ.put dst v):=Tm
@[go_sem ↓] theorem jg {l h}:opX P pos dst (.slice t x l h none) σ K=Ag (σ.e x) fun u=>W5 P σ.T t u (l.map σ.e) (h.map σ.e) fun v=>K (σ.put dst v):=Z9
@[go_sem ↓] theorem jh:opX P pos dst (.index t x y) σ K=Ag (σ.e x) fun u=>Ag (σ.e y) fun v=>elX P t u v fun v=>K (σ.put dst v):=Z8
@[go_sem ↓] theorem ei:opX P pos dst (.extract x i) σ K=Ag (σ.e x) fun u=>W6 u i fun v=>K (σ.put dst v):=W7
@[go_sem ↓] theorem lW:opX P pos dst (.call ⟨.builtin .len,List.toArray [x],List.toArray [t]⟩) σ K=Ag (σ.e x) fun u=>LA P t u σ fun v=>K (σ.put dst v):=f6
@[go_sem ↓] theorem lX {ts}:opX P pos dst (.call ⟨.builtin .max,List.toArray [x,y],ts⟩) σ K=Ag (σ.e x) fun u=>Ag (σ.e y) fun v=>Oa (fun n m=>if n<m then m else n) u v fun v=>K (σ.put dst v):=f7
@[go_sem ↓] theorem lY {ts}:opX P pos dst (.call ⟨.builtin .min,List.toArray [x,y],ts⟩) σ K=Ag (σ.e x) fun u=>Ag (σ.e y) fun v=>Oa (fun n m=>if m<n then m else n) u v fun v=>K (σ.put dst v):=f8
@[go_sem ↓] theorem lZ:opX P pos dst (.box t x) σ K=Ag (cellsOf (σ.e x)) fun cs=>bxX pos cs dst (.box pos 0) σ K:=gD
@[go_sem ↓] theorem ji:opX P pos dst (.alloc t) σ K=AP (0<(tz P t).length) (Ag ((tz P t).map zAV) fun vs=>bxX pos (some vs) dst (.box pos 0) σ K):=aH
@[go_sem ↓] theorem jj {parts}:opX P pos dst (.build t parts.toArray) σ K=To P (ti P t) fun fs=>AP ((fs.all fun q=>decide (0<tsz P q.2))=true∧0<(tz P t).length) (Ag ((tz P t).map zAV) fun vs=>Ag (pvs σ parts) fun ps=>bpX P fs vs ps fun v=>K (σ.put dst v)):=aL
@[go_sem ↓] theorem be:opX P pos dst (.makeSlice t l c) σ K=slX (ti P t) fun e=>Ag (σ.e l) fun u=>Ag (σ.e c) fun v=>mkX P pos e u v dst σ K:=Tp
@[go_sem ↓] theorem ky {L} {wL} {args} {ts}:opL P L pos dst (.call ⟨.value g,args.toArray,ts⟩) σ K wL=Ag (σ.e g) fun u=>Ag (evs σ args) fun vs=>clX P L pos u vs dst σ K wL:=c8
@[go_sem ↓] theorem jk:opX P pos dst (.store t a x) σ K=Ag (σ.e a) fun u=>Ag (cellsOf (σ.e x)) fun cs=>stX P t u cs σ fun σ'=>K (σ'.put dst .any):=aU
@[go_sem ↓] theorem gu:opX P pos dst (.call ⟨.builtin .append,List.toArray [x,y],List.toArray [t,t]⟩) σ K=slX (ti P t) fun e=>Ag (σ.e x) fun u=>Ag (σ.e y) fun v=>apX P pos e u v dst σ K:=YZ
def apE (P:Program) (pos:Nat) (e:TypeId) (u v:AV) (dst:Option Tmp) (σ:St) (K:St→Prop):Prop:=VS u=true∧match v with
 | .ro rows=>(0<tsz P e∧(tz P e).length =tsz P e)∧∃z,roZ z (tsz P e) rows fun rows=>(rows.length*P.bytesOf e≤140737488355328∧rows.length≤maxLen)∧look σ.t (pos*16)=none∧K ((σ.setT (pos*16) ⟨rows,some (tsz P e),0,z⟩).put dst (.own (pos*16)))
 |_=>False
theorem Yl {z} {sz} {rows} {K K'} (h:∀r,K r→K' r) (k:roZ z sz rows K):roZ z sz rows K':=by
 cases z
 ·exact⟨k.1,h _ k.2⟩
 ·exact⟨k.1,h _ k.2⟩
 ·exact⟨k.1,h _ k.2⟩
def roX (z:ZK) (sz:Nat) (rows:List (List D)) (K:List (List D)→Prop):Prop:=roZ z sz rows K
@[go_sem] theorem lb {sz} {rows} {K}:roX .no sz rows K=AP (∀row ∈ rows,row.length=sz∧∀d ∈ row,d.flat=true) (K rows):=rfl
@[go_sem] theorem lc {sz:Nat} {rows:List (List D)} {K:List (List D)→Prop}:roX .yes sz rows K=AP (∀row ∈ rows,row.length=sz∧∀d ∈ row,d≠ .gone) (LB (fzR rows) fun r=>K r):=by
 grind [roX,roZ,AP,GZ]
@[go_sem] theorem kz {e:TypeId} {u:AV} {rows:List (List D)}:apE P pos e u (.ro rows) dst σ K=AP (VS u=true) (AP (0<tsz P e∧(tz P e).length =tsz P e) (zX fun z=>roX z (tsz P e) rows fun rows=>AP (rows.length*P.bytesOf e≤140737488355328∧rows.length≤maxLen) (AP (look σ.t (pos*16)=none) (LB rows fun rows=>K ((σ.setT (pos*16) ⟨rows,some (tsz P e),0,z⟩).put dst (.own (pos*16))))))):=by simp only [GZ]; rfl
@[go_sem ↓] theorem lA:opE P pos dst (.call ⟨.builtin .append,List.toArray [x,y],List.toArray [t,t]⟩) σ K=slX (ti P t) fun e=>Ag (σ.e x) fun u=>Ag (σ.e y) fun v=>apE P pos e u v dst σ K:=by
 unfold opE
 simp only [Ev,eu,slX,true_and,Ag]
 generalize σ.e x=u
 generalize σ.e y=v
 refine propext ⟨?_,?_⟩
 ·rintro ⟨r,⟨h1,h2⟩,h3,h4,h5⟩
  split at h2
  ·rename_i el rows hel
   obtain⟨h6,z,h7⟩:=h2
   rw [hel]
   refine⟨h1,h6,z,Yl (fun rows h8=>?_) h7⟩
   obtain⟨h9,rfl⟩:=h8
   refine⟨h9,h3.1,?_⟩
   cases dst <;> exact h5
  grind
 ·intro h
  generalize hti:ti P t=q at h ⊢
  cases q with
  | sl el=>
   cases v with
   | ro rows=>
    obtain⟨h1,h6,z,h7⟩:=h
    cases z with
    |no=>
     obtain⟨h8,h9,h10,h5⟩:=h7
     exact⟨_,⟨h1,h6,.no,h8,h9,rfl⟩,⟨h10,trivial⟩,trivial,by cases dst <;> exact h5⟩
    |nl=>
     obtain⟨h8,h9,h10,h5⟩:=h7
     exact⟨_,⟨h1,h6,.nl,h8,h9,rfl⟩,⟨h10,trivial⟩,trivial,by cases dst <;> exact h5⟩
    |yes=>
     obtain⟨h8,h9,h10,h5⟩:=h7
     exact⟨_,⟨h1,h6,.yes,h8,h9,rfl⟩,⟨h10,trivial⟩,trivial,by cases dst <;> exact h5⟩
   |_=>exact h.2.elim
  |_=>exact h.elim
@[go_sem ↓] theorem lC {e:TypeId} {u v:AV}:apX P pos e u v dst σ K=AP (0<tsz P e∧(tz P e).length =tsz P e) (zX fun z=>PD z e (tsz P e) u σ fun rows σ1=>J2 z (tsz P e) v σ1 fun rows2 σ2=>
   AP ((rows.length+rows2.length)*P.bytesOf e≤140737488355328∧rows.length+rows2.length≤maxLen) (AP (look σ2.t (pos*16)=none) (LB (rows++rows2) fun rows=>K ((σ2.setT (pos*16) ⟨rows,some (tsz P e),0,z⟩).put dst (.own (pos*16)))))):=by simp only [GZ]; rfl
end
attribute [go_sem] zAV
section
variable {P:Program} {σ:St} {K:St→Prop} {ops:Array Oper} {base cut i:Nat}
@[go_sem] theorem dN {x} {xs b} {w1} {w2} {w3} {w4}:IJ P ops base cut i (List.append (x::xs) b) σ K w1 w2 w3 w4=IJ P ops base cut i (x::List.append xs b) σ K w1 ⟨⟩ w3 w4:=rfl
@[go_sem] theorem ej {b} {w1} {w2} {w3} {w4}:IJ P ops base cut i (List.append [] b) σ K w1 w2 w3 w4=IJ P ops base cut i b σ K w1 ⟨⟩ w3 w4:=rfl
@[go_sem] theorem ek {a b c} {w1} {w2} {w3} {w4}:IJ P ops base cut i (List.append (List.append a b) c) σ K w1 w2 w3 w4=IJ P ops base cut i (List.append a (List.append b c)) σ K w1 ⟨⟩ w3 w4:=by
 unfold IJ; rw [show List.append (List.append a b) c=List.append a (List.append b c) from List.append_assoc a b c]
@[go_sem ↓] theorem Ym {dst} {op} {type} {ps} {after} {g} {rest b} {K}:Io (List.toArray (List.append (⟨some dst,op,type,ps,after,g⟩::rest) b)) 0 K=K dst:=by
 grind [List.append,Us]
@[go_sem ↓] theorem Yn {o} {rest b} {j} {K}:Io (List.toArray (List.append (o::rest) b)) (j+1) K=Io (List.toArray (List.append rest b)) j K:=by
 grind [List.append,Ut]
@[go_sem ↓] theorem ZI {b} {j} {K}:Io (List.toArray (List.append [] b)) j K=Io b.toArray j K:=rfl
@[go_sem ↓] theorem ZJ {a b c} {j} {K}:Io (List.toArray (List.append (List.append a b) c)) j K=Io (List.toArray (List.append a (List.append b c))) j K:=by
 rw [show List.append (List.append a b) c=List.append a (List.append b c) from List.append_assoc a b c]
@[go_sem] theorem jl {a b:List Oper} {p:Oper→Bool}:List.all (List.append a b) p=(List.all a p&&List.all b p):=List.all_append
end
end Go.Proofs.YtclmbjbbojdojaaGreat.Ab
