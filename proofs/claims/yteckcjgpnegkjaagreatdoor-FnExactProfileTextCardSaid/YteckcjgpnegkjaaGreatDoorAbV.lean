/-
  The abstract walk as rules, third part: memory, calls, results, loops.
-/
import Derived.Test.YteckcjgpnegkjaaGreatDoorAbU
import Derived.IntWalk
namespace Go.Proofs.YteckcjgpnegkjaaGreatDoor.Ab
set_option linter.unusedVariables false
set_option maxHeartbeats 1000000
open Go.RowKit
section
variable {P:Program} {σ:St} {K:St→Prop} {Q:AE→St→Prop}
def iQ (t:TI):Prop:=match t with| .str =>True|_=>False
@[go_sem] theorem lY:iQ .str =True:=rfl
@[go_sem] theorem eG {t} {s} {K}:MQ P t (.str s) σ K=AP (iQ (ti P t)) (K (.int .i64 s.size)):=by
 simp only [MQ,Mp,AP,iQ]
 generalize ti P t=q
 cases q <;> simp
@[go_sem] theorem iR {t} {rows} {K}:MQ P t (.ro rows) σ K=slX (ti P t) fun _=>K (.int .i64 rows.length):=by
 simp only [MQ,Mp,slX]
 generalize ti P t=q
 cases q <;> simp
@[go_sem] theorem bT {t} {K}:MQ P t .nils σ K=slX (ti P t) fun _=>K (.int .i64 0):=by
 simp only [MQ,Mp,slX]
 generalize ti P t=q
 cases q <;> simp
@[go_sem] theorem eH {t} {b n sz} {K}:MQ P t (.bsl b n sz) σ K=slX (ti P t) fun _=>K (.int .i64 n):=by
 simp only [MQ,Mp,slX]
 generalize ti P t=q
 cases q <;> simp
@[go_sem] theorem eI {t} {t'} {K}:MQ P t (.own t') σ K=slX (ti P t) fun _=>optX (σ.T t') fun tk=>K (.int .i64 tk.rows.length):=by
 simp only [MQ,Mp,slX,optX]
 grind
@[go_sem] theorem eJ {t} {t' g} {p} {K}:MQ P t (.sub t' g p) σ K=slX (ti P t) fun _=>optX (subR σ.T t' g p) fun rows=>K (.int .i64 rows.length):=by
 simp only [MQ,Mp,slX,optX]
 grind
def Wz (t:TI) (K:TypeId→TypeId→Prop):Prop:=match t with| .map k e=>K k e|_=>False
@[go_sem] theorem lZ {k e} {K}:Wz (.map k e) K=K k e:=rfl
def VE (o:Option (List AV)) (K:KT→List (List D)→Prop):Prop:=∃q rows,o=some [.mpc q rows] ∧K q rows
@[go_sem] theorem jv {q} {rows} {K}:VE (some [.mpc q rows]) K=K q rows:=by
 grind [VE]
@[go_sem] theorem eK {t} {b} {K}:MQ P t (.mpr b) σ K=Wz (ti P t) fun _ _=>VE (σ.B b) fun _ rows=>K (.int .i64 rows.length):=by
 simp only [MQ,Mp,Wz,VE]
 grind
def MR {α:Type} (v:α) (K:α→Prop):Prop:=∃y,v=y∧K y
theorem Gy {α:Type} {v:α} {K:α→Prop}:MR v K=K v:=by simp [MR]
def bxX (pos:Nat) (cs:Option (List AV)) (dst:Option Tmp) (v:AV) (σ:St) (K:St→Prop):Prop:=optX cs fun vs=>AP (look σ.b pos=none) (K ((σ.put dst v).setB pos vs))
def bxZ (pos:Nat) (cs:Option (List AV)) (dst:Option Tmp) (v:AV) (σ:St) (K:St→Prop):Prop:=bxX pos cs dst v σ K
theorem iS {pos} {cs} {dst} {v}:bxX pos cs dst v σ K=Am cs fun o=>bxZ pos o dst v σ K:=rfl
@[go_sem ↓] theorem lc {pos} {vs} {dst} {v}:bxZ pos (some vs) dst v σ K=AP (look σ.b pos=none) (K ((σ.put dst v).setB pos vs)):=by simp [bxZ,bxX,optX]
theorem I3 {dst} {v} {pos} {vs}:σ.add dst ⟨v,[],[(pos,vs)]⟩=(σ.put dst v).setB pos vs:=by cases dst <;> rfl
attribute [go_sem] cellsOf
theorem ld {pos} {dst} {t} {x}:opX P pos dst (.box t x) σ K=bxX pos (cellsOf (σ.e x)) dst (.box pos 0) σ K:=by
 rw [Oq (fun _=>by rfl)]
 simp only [Ev,bxX]
 split
 ·rename_i vs h
  rw [h,Gm]
  refine propext ⟨?_,?_⟩
  ·rintro ⟨r,rfl,-,h1,h2⟩
   exact⟨h1.1,by rw [← I3]; exact h2⟩
  ·rintro ⟨h1,h2⟩
   exact⟨_,rfl,trivial,⟨h1,trivial⟩,by rw [I3]; exact h2⟩
 grind [Sk]
theorem eL {pos} {dst} {t}:opX P pos dst (.alloc t) σ K=AP (0<(tz P t).length) (bxX pos (some ((tz P t).map zAV)) dst (.box pos 0) σ K):=by
 rw [Oq (fun _=>by rfl)]
 simp only [Ev,bxX,Gm,AP]
 refine propext ⟨?_,?_⟩
 ·rintro ⟨r,⟨vs,rfl,h0,rfl⟩,-,h1,h2⟩
  exact⟨h0,h1.1,by rw [← I3]; exact h2⟩
 ·rintro ⟨h0,h1,h2⟩
  exact⟨_,⟨_,rfl,h0,rfl⟩,trivial,⟨h1,trivial⟩,by rw [I3]; exact h2⟩
attribute [go_sem] zAV
def pvs (σ:St):List (Nat × Operand)→List (Nat × AV)
 | [] =>[]
 |x::xs=>(x.1,σ.e x.2)::pvs σ xs
theorem X3 {xs}:pvs σ xs=xs.map fun x=>(x.1,σ.e x.2):=by induction xs with|nil=>rfl|cons x xs ih=>simp [pvs,ih]
attribute [go_sem] pvs DL
def bsX (P:Program) (pos:Nat) (e:TypeId) (n:Nat) (parts:List (Nat × AV)) (dst:Option Tmp) (σ:St) (K:St→Prop):Prop:=
 AP (parts.length=n∧n*tsz P e≤16777216∧0<tsz P e∧(tz P e).length =tsz P e) (bxX pos (DL (tsz P e) 0 parts) dst (.bsl pos n (tsz P e)) σ K)
@[go_sem ↓] theorem eM {pos} {dst} {t} {n} {parts}:opX P pos dst (.buildSlice t n parts.toArray) σ K=slX (ti P t) fun e=>Am (pvs σ parts) fun ps=>bsX P pos e n ps dst σ K:=by
 rw [Oq (fun _=>by rfl)]
 simp only [Ev,slX,Am,X3]
 generalize ti P t=q
 split
 ·simp only [aB,bsX,bxX,AP]
  refine propext ⟨?_,?_⟩
  ·rintro ⟨r,⟨h1,h2,h3,h4,h5⟩,-,h6,h7⟩
   split at h5
   ·rename_i vs h8
    subst h5
    rw [h8,Gm]
    exact⟨⟨h1,h2,h3,h4⟩,h6.1,by rw [← I3]; exact h7⟩
   grind
  ·rintro ⟨⟨h1,h2,h3,h4⟩,vs,h8,h6,h7⟩
   exact⟨⟨_,[],[(pos,vs)]⟩,⟨h1,h2,h3,h4,by rw [h8]⟩,trivial,⟨h6,trivial⟩,by rw [I3]; exact h7⟩
 ·simp
attribute [go_sem] bsX
attribute [go_sem] Ku
def VF (P:Program) (t:TI) (K:List (Nat × TypeId)→Prop):Prop:=match t with| .st fs=>K fs| .arr n el=>AP (0<tsz P el) (K (Ku (tsz P el) el n 0))|_=>False
@[go_sem] theorem eN {fs} {K}:VF P (.st fs) K=K fs:=rfl
def bpX (P:Program) (fs:List (Nat × TypeId)) (vs:List AV) (ps:List (Nat × AV)) (K:AV→Prop):Prop:=∃ws,J6 P fs vs ps=some ws∧K (.agg ws)
@[go_sem] theorem eO {fs} {vs} {K}:bpX P fs vs [] K=K (.agg vs):=by simp [bpX,J6]
@[go_sem] theorem bU {fs} {vs} {f} {v} {ps} {K}:bpX P fs vs ((f,v)::ps) K=optX fs[f]? fun q=>optX (cellsOf v) fun cs=>AP (cs.length=tsz P q.2 ∧q.1 +cs.length≤vs.length) (Am (splice vs q.1 cs) fun vs=>bpX P fs vs ps K):=by
 unfold bpX optX AP Am
 rw [J6]
 grind
theorem eP {pos} {dst} {t} {parts}:opX P pos dst (.build t parts.toArray) σ K=VF P (ti P t) fun fs=>AP ((fs.all fun q=>decide (0<tsz P q.2))=true∧0<(tz P t).length) (bpX P fs ((tz P t).map zAV) (pvs σ parts) fun v=>K (σ.put dst v)):=by
 rw [F3 (p:=fun v=>VF P (ti P t) fun fs=>AP ((fs.all fun q=>decide (0<tsz P q.2))=true∧0<(tz P t).length) (bpX P fs ((tz P t).map zAV) (pvs σ parts) fun u=>v=u)) (fun _=>by rfl) (fun r=>by
  simp only [Ev,VF,AP,bpX,X3]
  grind)]
 unfold VF AP bpX
 grind
attribute [go_sem] zD zDs
@[go_sem] theorem lf {n}:leX n n=True:=eq_true (Int.le_refl n)
def mkX (P:Program) (pos:Nat) (e:TypeId) (n m:AV) (dst:Option Tmp) (σ:St) (K:St→Prop):Prop:=match n,m with
 | .int .i64 n,.int .i64 m=>AP (leX n m) (AP (0≤n∧m.toNat*P.bytesOf e≤281474976710656∧m≤4611686018427387904) (AP (0<tsz P e∧(tz P e).length =tsz P e) (optX (zDs (tz P e)) fun z=>AP (look σ.t (pos*16)=none) (MR (List.replicate n.toNat z) fun rows=>K ((σ.put dst (.own (pos*16))).setT (pos*16) ⟨rows,some (tsz P e),0,false⟩)))))
 |_,_=>False
@[go_sem] theorem eQ {pos} {e} {n m} {dst}:mkX P pos e (.int .i64 n) (.int .i64 m) dst σ K=AP (leX n m) (AP (0≤n∧m.toNat*P.bytesOf e≤281474976710656∧m≤4611686018427387904) (AP (0<tsz P e∧(tz P e).length =tsz P e) (optX (zDs (tz P e)) fun z=>AP (look σ.t (pos*16)=none) (MR (List.replicate n.toNat z) fun rows=>K ((σ.put dst (.own (pos*16))).setT (pos*16) ⟨rows,some (tsz P e),0,false⟩))))):=rfl
theorem X4 {dst} {v} {n} {tk}:σ.add dst ⟨v,[(n,tk)],[]⟩=(σ.put dst v).setT n tk:=by cases dst <;> rfl
theorem VG {pos:Nat} {dst:Option Tmp} {t:TypeId} {l c:Operand}:opX P pos dst (.makeSlice t l c) σ K=slX (ti P t) fun e=>mkX P pos e (σ.e l) (σ.e c) dst σ K:=by
 rw [Oq (fun _=>by rfl)]
 simp only [Ev,slX,mkX]
 generalize ti P t=q
 cases q with
 | sl e=>
  generalize σ.e l=u
  generalize σ.e c=v
  split
  ·rename_i el n m h1
   cases h1
   simp only [fu,AP,optX,Gy]
   refine propext ⟨?_,?_⟩
   ·rintro ⟨r,⟨k1,k2,k3,k4,k5,k6,z,k7,rfl⟩,k8,-,k9⟩
    exact⟨k1,⟨k2,k3,k4⟩,⟨k5,k6⟩,z,k7,k8.1,by rw [← X4]; exact k9⟩
   ·rintro ⟨k1,⟨k2,k3,k4⟩,⟨k5,k6⟩,z,k7,k8,k9⟩
    exact⟨⟨_,[(pos*16,⟨_,some (tsz P e),0,false⟩)],[]⟩,⟨k1,k2,k3,k4,k5,k6,z,k7,rfl⟩,⟨k8,trivial⟩,trivial,by rw [X4]; exact k9⟩
  grind
 |_=>simp
def Sm (P:Program) (L:Bool) (pos:Nat) (f:FuncId) (args:List AV) (as:Option (List AV)) (dst:Option Tmp) (σ:St) (K:St→Prop) (_:Wrap L):Prop:=
 ((∃bs rv,as=some bs∧AC P f bs rv∧Ci σ (conv (pos*16) rv).2 ∧K (σ.add dst ⟨(conv (pos*16) rv).1,(conv (pos*16) rv).2,[]⟩))∨
  ∃bs rv qt qb,AG P f bs [] [] rv qt qb∧cls (fun _=>none) (fun _=>none) args=some bs∧((qt=[] ∧SE rv=true∧K (σ.add dst ⟨rv,[],[]⟩))∨(∃q tk,qt=[(q,tk)] ∧rv= .own q∧tk.gen=0∧look σ.t (pos*16)=none∧K (σ.add dst ⟨.own (pos*16),[(pos*16,tk)],[]⟩))∨(∃q k,rv= .box q k)∧K (σ.add dst ⟨.rop [] 0,[],[]⟩)))∨
 (L=true∧Xg P f args σ fun v σ'=>K (σ'.put dst v))
@[go_sem] theorem lg:Ma [] =true:=rfl
@[go_sem] theorem lh {fs cs}:Ma (.agg fs::cs)=true:=rfl
@[go_sem] theorem oJ {as}:fnA [] as=as:=List.append_nil as
@[go_sem] theorem oK {fs cs as}:fnA (.agg fs::cs) as=fs++(as++cs):=rfl
def clX (P:Program) (L:Bool) (pos:Nat) (g:AV) (args:List AV) (dst:Option Tmp) (σ:St) (K:St→Prop) (w:Wrap L):Prop:=match g with
 | .fn f caps=>Ma caps=true∧Sm P L pos f (fnA caps args) (cls σ.T σ.B (fnA caps args)) dst σ K w
 |_=>False
@[go_sem] theorem iT {L} {wL} {pos} {f} {caps args} {dst}:clX P L pos (.fn f caps) args dst σ K wL=AP (Ma caps=true) (Am (fnA caps args) fun vs=>Am (cls σ.T σ.B vs) fun r=>Sm P L pos f vs r dst σ K wL):=rfl
theorem iU {L} {wL} {pos} {dst} {g} {args} {ts}:opL P L pos dst (.call ⟨.value g,args.toArray,ts⟩) σ K wL=clX P L pos (σ.e g) (evs σ args) dst σ K wL:=by
 have h1:opX P pos dst (.call ⟨.value g,args.toArray,ts⟩) σ K=match σ.e g with
   | .fn f caps=>Ma caps=true∧((∃bs rv,cls σ.T σ.B (fnA caps (evs σ args))=some bs∧AC P f bs rv∧Ci σ (conv (pos*16) rv).2 ∧K (σ.add dst ⟨(conv (pos*16) rv).1,(conv (pos*16) rv).2,[]⟩))∨
     ∃bs rv qt qb,AG P f bs [] [] rv qt qb∧cls (fun _=>none) (fun _=>none) (fnA caps (evs σ args))=some bs∧((qt=[] ∧SE rv=true∧K (σ.add dst ⟨rv,[],[]⟩))∨(∃q tk,qt=[(q,tk)] ∧rv= .own q∧tk.gen=0∧look σ.t (pos*16)=none∧K (σ.add dst ⟨.own (pos*16),[(pos*16,tk)],[]⟩))∨(∃q k,rv= .box q k)∧K (σ.add dst ⟨.rop [] 0,[],[]⟩)))
   |_=>False:=by
  rw [Oq (fun _=>by rfl)]
  simp only [Ev,QG,TT]
  generalize σ.e g=v
  split
  ·refine propext ⟨?_,?_⟩
   ·rintro ⟨r,⟨ho,h1⟩,h2,-,h4⟩
    refine⟨ho,?_⟩
    rcases h1 with h1|h1
    ·grind
    ·obtain⟨as,rv,qt,qb,h5,h6,h7⟩:=h1
     rcases h7 with ⟨h7,h8,rfl⟩|⟨q,tk,h7,h8,h9,rfl⟩|⟨h7,rfl⟩
     ·grind
     ·exact .inr ⟨as,rv,qt,qb,h5,h6,.inr (.inl ⟨q,tk,h7,h8,h9,h2.1,h4⟩)⟩
     grind
   ·rintro ⟨ho,h⟩
    rcases h with (⟨bs,rv,h1,h5,h2,h4⟩|⟨bs,rv,qt,qb,h5,h6,⟨h7,h8,h4⟩|⟨q,tk,h7,h8,h9,h2,h4⟩|⟨h7,h4⟩⟩)
    ·exact⟨⟨(conv (pos*16) rv).1,(conv (pos*16) rv).2,[]⟩,⟨ho,.inl (by rw [h1]; grind)⟩,h2,trivial,h4⟩
    ·exact⟨⟨rv,[],[]⟩,⟨ho,.inr ⟨bs,rv,qt,qb,h5,h6,.inl ⟨h7,h8,rfl⟩⟩⟩,trivial,trivial,h4⟩
    ·exact⟨⟨.own (pos*16),[(pos*16,tk)],[]⟩,⟨ho,.inr ⟨bs,rv,qt,qb,h5,h6,.inr (.inl ⟨q,tk,h7,h8,h9,rfl⟩)⟩⟩,⟨h2,trivial⟩,trivial,h4⟩
    ·exact⟨⟨.rop [] 0,[],[]⟩,⟨ho,.inr ⟨bs,rv,qt,qb,h5,h6,.inr (.inr ⟨h7,rfl⟩)⟩⟩,trivial,trivial,h4⟩
  ·simp
 have h2:opL P L pos dst (.call ⟨.value g,args.toArray,ts⟩) σ K wL=(opX P pos dst (.call ⟨.value g,args.toArray,ts⟩) σ K∨(L=true∧Kw P ⟨dst,.call ⟨.value g,args.toArray,ts⟩,0, "",#[],none⟩ σ K)):=by
  grind [QL,SliK,opL,QM,opX]
 rw [h2,h1]
 grind [clX,Sm,Kw,TT]
attribute [go_sem] cl cls toD toDs toA toAs Fa EL Option.map_some Option.map_none
theorem X5 {pos} {f} {args bs} {dst} {rv} (h:AC P f bs rv) (hf:Ci σ (conv (pos*16) rv).2) (hk:K (σ.add dst ⟨(conv (pos*16) rv).1,(conv (pos*16) rv).2,[]⟩)) {L} {wL}:Sm P L pos f args (some bs) dst σ K wL:=
 .inl (.inl ⟨bs,rv,rfl,h,hf,hk⟩)
@[go_sem] theorem iV:Ci σ [] =True:=rfl
@[go_sem] theorem gE {n} {tk} {l}:Ci σ ((n,tk)::l)=(look σ.t n=none∧Ci σ l):=rfl
attribute [go_sem] conv GD addT addB
@[go_sem] theorem li {s t b} {d} {r}:St.add ⟨s,t,b⟩ (some d) r=⟨(d,r.v)::s,addT t r.t,addB b r.b⟩:=rfl
@[go_sem] theorem lj {s t b} {r}:St.add ⟨s,t,b⟩ none r=⟨s,addT t r.t,addB b r.b⟩:=rfl
section
variable {z:Bool}
@[go_sem] theorem eR {K}:BL z [] σ K=K [] σ:=by rw [BL]
@[go_sem] theorem eS {k} {n} {vs} {K}:BL z (.int k n::vs) σ K=BL z vs σ fun ds σ'=>K (.int k n::ds) σ':=by rw [BL]
@[go_sem] theorem bV {b} {vs} {K}:BL z (.bool b::vs) σ K=BL z vs σ fun ds σ'=>K (.bool b::ds) σ':=by rw [BL]
@[go_sem] theorem eU {s} {vs} {K}:BL z (.str s::vs) σ K=BL z vs σ fun ds σ'=>K (.str s::ds) σ':=by rw [BL]
@[go_sem] theorem bW {vs} {K}:BL z (.nils ::vs) σ K=BL z vs σ fun ds σ'=>K (S9 z::ds) σ':=by rw [BL]
@[go_sem] theorem pv:S9 false= .sl [] :=rfl
@[go_sem] theorem pw:S9 true= .fz [] :=rfl
@[go_sem] theorem bX {vs} {K}:BL z (.nilp ::vs) σ K=BL z vs σ fun ds σ'=>K (.nilp ::ds) σ':=by rw [BL]
@[go_sem] theorem iW {rows} {vs} {K}:BL z (.ro rows::vs) σ K=AP (z=true) (BL z vs σ fun ds σ'=>K (.fz rows::ds) σ'):=by rw [BL]; rfl
@[go_sem] theorem eV {ws} {off} {vs} {K}:BL z (.rop ws off::vs) σ K=AP (z=true) (optX (unD (.rop ws off)) fun d=>BL z vs σ fun ds σ'=>K (d::ds) σ'):=by rw [BL]; rfl
@[go_sem] theorem eW {b n sz} {vs} {K}:BL z (.bsl b n sz::vs) σ K=if n=0 then BL z vs σ fun ds σ'=>K (S9 z::ds) σ' else YV z b n sz σ fun rows σ1=>BL z vs σ1 fun ds σ'=>K (.sl rows::ds) σ':=by rw [BL]
@[go_sem ↓] theorem oL {b n sz} {K}:YV z b n sz σ K=AP (1000≤b) (AP (0<sz) (optX (σ.B b) fun vs=>optX (Kd z vs) fun ds=>AP (ds.length=n*sz) (Am (CG sz n ds) fun rows=>K rows (σ.killB b)))):=rfl
@[go_sem] theorem ll {s t b} {x}:St.killB ⟨s,t,b⟩ x=⟨s,t,(x,none)::b⟩:=rfl
attribute [go_sem] J7 litD Kd unD unDs
@[go_sem] theorem eX {t} {vs} {K}:BL z (.own t::vs) σ K=optX (σ.T t) fun tk=>AP (okZ z tk=true) (BL z vs (σ.killT t) fun ds σ'=>K (.sl tk.rows::ds) σ'):=by rw [BL]; rfl
end
def stX (P:Program) (t:TypeId) (a:AV) (cs:Option (List AV)) (σ:St) (K:St→Prop):Prop:=
 optX cs fun cs=>AP (cs.length=tsz P t∧0<tsz P t∧cs.all AV.one=true) (match a with
  | .box b off=>∃vs,σ.B b=some vs∧isMp vs=false∧off+cs.length≤vs.length∧K (σ.setB b (splice vs off cs))
  | .elt t' sz i off=>∃tk0,σ.T t'=some tk0∧BL tk0.z cs σ fun ds σ'=>∃tk row,(σ'.T t'=some tk∧tk.z=tk0.z)∧tk.rows[i]? =some row∧row.length=sz∧off+ds.length≤sz∧K (σ'.setT t' ⟨tk.rows.set i (splice row off ds),tk.sz,if DY row off ds=true then tk.gen else tk.gen+1,tk.z⟩)
  | .els t' g p sz i off=>BL false cs σ fun ds σ'=>∃rows,subR σ'.T t' g p=some rows∧∃row,rows[i]? =some row∧(p≠ [] ∧row.length=sz∧off+ds.length≤sz∧DY row off ds=true)∧∃tk,σ'.T t'=some tk∧K (σ'.setT t' ⟨putR p tk.rows (.sl (rows.set i (splice row off ds))),tk.sz,tk.gen,tk.z⟩)
  |_=>False)
theorem eY {pos} {dst} {t} {a x}:opX P pos dst (.store t a x) σ K=stX P t (σ.e a) (cellsOf (σ.e x)) σ fun σ'=>K (σ'.put dst .any):=by
 grind [opX,aop,Mr,stX,Gm,AP,Sk]
@[go_sem] theorem eZ {t} {b off} {cs}:stX P t (.box b off) (some cs) σ K=AP (cs.length=tsz P t∧0<tsz P t∧cs.all AV.one=true) (optX (σ.B b) fun vs=>AP (isMp vs=false) (AP (off+cs.length≤vs.length) (Am (splice vs off cs) fun vs'=>K (σ.setB b vs')))):=by
 rw [stX,Gm]; rfl
@[go_sem] theorem eb {t:TypeId} {t' g sz i off:Nat} {p:Pth} {cs:List AV}:stX P t (.els t' g p sz i off) (some cs) σ K=AP (cs.length=tsz P t∧0<tsz P t∧cs.all AV.one=true) (BL false cs σ fun ds σ'=>optX (subR σ'.T t' g p) fun rows=>optX rows[i]? fun row=>AP (p≠ [] ∧row.length=sz∧off+ds.length≤sz∧DY row off ds=true) (optX (σ'.T t') fun tk=>MR (putR p tk.rows (.sl (rows.set i (splice row off ds)))) fun rows'=>K (σ'.setT t' ⟨rows',tk.sz,tk.gen,tk.z⟩))):=by
 rw [stX,Gm]
 grind [AP,optX,Gy]
@[go_sem] theorem ec {t:TypeId} {t' sz i off:Nat} {cs:List AV}:stX P t (.elt t' sz i off) (some cs) σ K=AP (cs.length=tsz P t∧0<tsz P t∧cs.all AV.one=true) (optX (σ.T t') fun tk0=>BL tk0.z cs σ fun ds σ'=>optX (σ'.T t') fun tk=>AP (tk.z=tk0.z) (optX tk.rows[i]? fun row=>AP (row.length=sz∧off+ds.length≤sz) (MR (tk.rows.set i (splice row off ds)) fun rows=>K (σ'.setT t' ⟨rows,tk.sz,if DY row off ds=true then tk.gen else tk.gen+1,tk.z⟩)))):=by
 rw [stX,Gm]
 grind [AP,optX,Gy]
section
variable {z:Bool}
@[go_sem] theorem ZO {e} {sz} {K}:QH z e sz .nils σ K=K [] σ:=rfl
@[go_sem] theorem bZ {e} {sz b n sz'} {K}:QH z e sz (.bsl b n sz') σ K=if n=0 then K [] σ else AP (sz'=sz) (YV z b n sz σ K):=rfl
@[go_sem] theorem ba {e} {sz t} {K}:QH z e sz (.own t) σ K=optX (σ.T t) fun tk=>AP (tk.sz=some sz∧okZ z tk=true) (K tk.rows (σ.killT t)):=rfl
@[go_sem] theorem ZP {sz} {K}:MO z sz .nils σ K=K [] σ:=rfl
@[go_sem] theorem be {sz b n sz'} {K}:MO z sz (.bsl b n sz') σ K=optX (σ.B b) fun vs=>AP (sz'=sz∧vs.length=n*sz∧vs.all AV.one=true) (BL z vs σ fun ds σ'=>Am (CG sz n ds) fun rows=>K rows σ'):=by
 simp only [MO,optX,AP,Am]
 grind
@[go_sem] theorem ed {sz} {rows} {K}:MO false sz (.ro rows) σ K=AP (∀row ∈ rows,row.length=sz∧∀d ∈ row,d.flat=true) (K rows σ):=rfl
@[go_sem] theorem bf {sz:Nat} {rows:List (List D)} {K:List (List D)→St→Prop}:MO true sz (.ro rows) σ K=AP (∀row ∈ rows,row.length=sz∧∀d ∈ row,d≠ .gone) (MR (fzR rows) fun r=>K r σ):=by
 grind [MO,AP,Gy]
@[go_sem] theorem bg {sz t} {K}:MO z sz (.own t) σ K=optX (σ.T t) fun tk=>AP (okZ z tk=true) (AP (∀row ∈ tk.rows,row.length=sz) (K tk.rows (σ.killT t))):=by
 grind [MO,optX,AP]
end
attribute [go_sem] CG
def zX (K:Bool→Prop):Prop:=∃z,K z
def zY (K:Bool→Prop) (_:Wrap K):Prop:=∃z,K z
@[go_sem ↓] theorem qh {K}:zX K=zY K ⟨⟩:=rfl
theorem Cz {K} {w} (z:Bool) (h:K z):zY K w:=⟨z,h⟩
def apX (P:Program) (pos:Nat) (e:TypeId) (x y:AV) (dst:Option Tmp) (σ:St) (K:St→Prop):Prop:=
 AP (0<tsz P e∧(tz P e).length =tsz P e) (zX fun z=>QH z e (tsz P e) x σ fun rows σ1=>MO z (tsz P e) y σ1 fun rows2 σ2=>
   AP ((rows.length+rows2.length)*P.bytesOf e≤140737488355328∧rows.length+rows2.length≤maxLen) (AP (look σ2.t (pos*16)=none) (K ((σ2.setT (pos*16) ⟨rows++rows2,some (tsz P e),0,z⟩).put dst (.own (pos*16))))))
theorem bh {pos} {dst} {x y} {t}:opX P pos dst (.call ⟨.builtin .append,List.toArray [x,y],List.toArray [t,t]⟩) σ K=slX (ti P t) fun e=>apX P pos e (σ.e x) (σ.e y) dst σ K:=by
 unfold opX
 simp only [aop,WI,slX,true_and]
 generalize ti P t=q
 split
 ·rename_i e
  show (0<tsz P e∧(tz P e).length =tsz P e∧_)=((0<tsz P e∧(tz P e).length =tsz P e)∧_)
  rw [and_assoc]
  congr 1
  congr 1
  show (∃z,_)=(∃z,_)
  congr 1
  funext z
  congr 1
  funext rows σ1
  congr 1
  funext rows2 σ2
  show (_∧_∧_∧_)=((_∧_)∧_∧_)
  rw [and_assoc]
 grind
end
@[go_sem] theorem jw {v x}:FV v [] x=x:=by cases v <;> rfl
attribute [go_sem ↓] iS
attribute [go_sem ↓] eG iR bT eH eI eJ eK eN eO bU eQ iT eR eS bV eU bW bX iW eV eW eX eZ ec eb ZO bZ ba ZP be ed bf bg
end Go.Proofs.YteckcjgpnegkjaaGreatDoor.Ab
namespace Go.Proofs.YteckcjgpnegkjaaGreatDoor.Ab
set_option linter.unusedVariables false
open Go.RowKit
section
variable {P:Program} {σ:St} {K:St→Prop} {Q:AE→St→Prop}
@[go_sem] theorem iX {n} (h1: -9223372036854775808≤n) (h2:n≤9223372036854775807):IntKind.i64.wrap n=n:=Go.IntWalk.i64_in n ⟨h1,h2⟩
@[go_sem ↓] theorem lm {K}:MP P σ [] K=K [] :=rfl
@[go_sem ↓] theorem lp {t} {l} {K}:MP P σ (.tmp t::l) K=Am (σ.g t) fun v=>MP P σ l fun vs=>K (v::vs):=rfl
@[go_sem ↓] theorem jx {a} {t} {l} {K}:MP P σ (.cell a t::l) K=LG P t (σ.g a) σ fun v=>MP P σ l fun vs=>K (v::vs):=rfl
@[go_sem] theorem ee {k} {n m}:Cv (.int k n) (.int k m) σ K=AP (n=m) (K σ):=by simp [Cv,AP]
@[go_sem] theorem bi {b c}:Cv (.bool b) (.bool c) σ K=AP (b=c) (K σ):=by rfl
@[go_sem] theorem ef {s s'}:Cv (.str s) (.str s') σ K=AP (s=s') (K σ):=by rfl
@[go_sem] theorem bj:Cv .nilp .nilp σ K=K σ:=by rfl
@[go_sem] theorem bn {ap} {rows}:Cv .nils (.ow ap rows) σ K=AP (rows=[]) (K σ):=by rfl
@[go_sem] theorem eh {b n sz} {ap} {rows}:Cv (.bsl b n sz) (.ow ap rows) σ K=AP (n=0) (AP (rows=[]) (K σ)):=by rfl
@[go_sem] theorem ei {t} {ap} {rows}:Cv (.own t) (.ow ap rows) σ K=optX (σ.T t) fun tk=>AP (tk.rows=rows) (AP (ap=none∨tk.sz=ap) (AP (tk.z=false) (K (σ.killT t)))):=by rfl
@[go_sem] theorem ej {rows rows'}:Cv (.ro rows) (.ro rows') σ K=AP (rows=rows') (K σ):=by rfl
@[go_sem] theorem oM {rows rows'}:Cv (.ro rows) (.ow none rows') σ K=AP (rows=[]) (AP (rows'=[]) (K σ)):=by simp [Cv,AP]
@[go_sem] theorem ek {vs} {rs}:Cv (.agg vs) (.agg rs) σ K=JU vs rs σ K:=by rfl
@[go_sem] theorem en {vs} {rs}:Cv (.tup vs) (.tup rs) σ K=JU vs rs σ K:=by rfl
@[go_sem] theorem bp:JU [] [] σ K=K σ:=by rfl
@[go_sem] theorem ZQ {v} {vs} {r} {rs}:JU (v::vs) (r::rs) σ K=Cv v r σ fun σ'=>JU vs rs σ' K:=by rfl
def ZR (r:RV) (σ:St) (vs:List AV):Prop:=match vs with
 | [v] =>Cv v r σ fun _=>True
 |vs=>Cv (.tup vs) r σ fun _=>True
@[go_sem ↓] theorem oN {r}:ZR r σ [] =Cv (.tup []) r σ fun _=>True:=rfl
@[go_sem ↓] theorem oO {r} {v}:ZR r σ [v] =Cv v r σ fun _=>True:=rfl
@[go_sem ↓] theorem oP {r} {v u} {vs}:ZR r σ (v::u::vs)=Cv (.tup (v::u::vs)) r σ fun _=>True:=rfl
def endX (P:Program) (l:List ResultVar) (r:RV) (q:AE) (σ:St):Prop:=match q with| .exit _=>False|_=>MP P σ l (ZR r σ)
@[go_sem ↓] theorem iY {l} {r}:endX P l r .normal σ=MP P σ l (ZR r σ):=rfl
@[go_sem ↓] theorem oQ {l} {r}:endX P l r .ret σ=MP P σ l (ZR r σ):=rfl
theorem lq (hm:P.follows .mixedOrders =true) {f} {fn} {c} {l} {args} {r} (hf:P.funcs[f]? =some fn) (hb:fn.body=some c) (hr:fn.results=l.toArray) (hnm:(fn.name == "runtime.NumGoroutine")=false)
  (hn:decide (args.length≤fn.ntmps)=true) (hok:EN fn.ntmps c=true) (h:awp P c (endX P l r) (st0 args)):AC P f args r:=by
 refine Wh hm hf hb hnm (of_decide_eq_true hn) hok ?_
 have e:endQ P fn.results.toList r=endX P l r:=by
  rw [hr]
  funext q σ
  cases q <;> rfl
 rw [e]
 exact h
attribute [go_sem] st0 Qz
def bq {X:Type} (R:X→Prop) (inv:X→St) (μ:X→Nat) (x:X) (σ:St):Prop:=∃x',dF σ (inv x')∧R x'∧μ x'<μ x
def iZ {X:Type} (R:X→Prop) (inv:X→St) (μ:X→Nat) (x:X) (σ:St) (_:Wrap R) (_:Wrap inv) (_:Wrap μ) (_:Wrap x):Prop:=bq R inv μ x σ
@[go_sem ↓] theorem jy {X:Type} {R:X→Prop} {inv:X→St} {μ:X→Nat} {x:X} {σ:St}:bq R inv μ x σ=iZ R inv μ x σ ⟨⟩ ⟨⟩ ⟨⟩ ⟨⟩:=rfl
attribute [go_sem] J9 UM QN QO ren rens Fb GF List.nodup_nil List.all_nil List.all_cons AV.int.injEq AV.bool.injEq AV.str.injEq AV.ro.injEq AV.rop.injEq AV.agg.injEq AV.fn.injEq AV.own.injEq AV.box.injEq AV.bsl.injEq AV.elt.injEq List.cons.injEq Tok.mk.injEq Option.isSome_some exists_eq_left' exists_eq_left
end
attribute [go_sem ↓] ee bi ef bj bn eh ei ej ek en bp ZQ
end Go.Proofs.YteckcjgpnegkjaaGreatDoor.Ab
namespace Go.Proofs.YteckcjgpnegkjaaGreatDoor.Ab
set_option linter.unusedVariables false
open Go.RowKit
section
variable {P:Program} {σ:St} {K:St→Prop} {pos:Nat} {dst:Option Tmp} {t t' s d:TypeId} {x y a b c g l:Operand} {f i:Nat} {op:BinOp}
def slY (t:TI) (K:TypeId→Prop) (_:Wrap K):Prop:=slX t K
@[go_sem ↓] theorem pz {t} {K}:slX t K=slY t K ⟨⟩:=rfl
@[go_sem] theorem p4 {e} {K} {w}:slY (.sl e) K w=K e:=rfl
def gF (t:TI) (K:IntKind→Prop) (_:Wrap K):Prop:=U9 t K
@[go_sem ↓] theorem lr {t} {K}:U9 t K=gF t K ⟨⟩:=rfl
@[go_sem] theorem jz {k} {K} {w}:gF (.int k) K w=K k:=rfl
def stY (P:Program) (t:TI) (K:List (Nat × TypeId)→Prop) (_:Wrap K):Prop:=VF P t K
@[go_sem ↓] theorem p5 {t} {K}:VF P t K=stY P t K ⟨⟩:=rfl
@[go_sem] theorem p6 {fs} {K} {w}:stY P (.st fs) K w=K fs:=rfl
@[go_sem] theorem oR {n} {el} {K} {w}:stY P (.arr n el) K w=AP (0<tsz P el) (Am (Ku (tsz P el) el n 0) K):=rfl
def lw (rows:List (List D)) (n:Int) (sz:Nat) (K:List D→Prop) (_:Wrap K):Prop:=VC rows n sz K
@[go_sem ↓] theorem oS {rows} {n} {sz} {K}:VC rows n sz K=lw rows n sz K ⟨⟩:=rfl
def lx {α:Type} (v:α) (K:α→Prop) (_:Wrap K):Prop:=MR v K
@[go_sem ↓] theorem oU {α:Type} {v:α} {K:α→Prop}:MR v K=lx v K ⟨⟩:=rfl
theorem A6 {α:Type} {v} {K} {w} (y:α) (h:v=y) (hk:K y):lx v K w:=⟨y,h,hk⟩
def JL (n:Nat) (rs:List RV) (K:List AV→List (Nat × Tok)→Prop) (_:Wrap K):Prop:=K (GD n rs).1 (GD n rs).2
def cv1 (n:Nat) (r:RV) (K:AV→List (Nat × Tok)→Prop):Prop:=K (conv n r).1 (conv n r).2
section
variable {n:Nat} {rs us:List RV} {L:List AV→List (Nat × Tok)→Prop} {L1:AV→List (Nat × Tok)→Prop} {w:Wrap L}
@[go_sem] theorem eo:JL n [] L w=L [] [] :=rfl
@[go_sem] theorem eq {k} {x}:JL n (.int k x::rs) L w=JL n rs (fun vs ts=>L (.int k x::vs) ts) ⟨⟩:=by rfl
@[go_sem] theorem bt {b}:JL n (.bool b::rs) L w=JL n rs (fun vs ts=>L (.bool b::vs) ts) ⟨⟩:=by rfl
@[go_sem] theorem eu {x}:JL n (.str x::rs) L w=JL n rs (fun vs ts=>L (.str x::vs) ts) ⟨⟩:=by rfl
@[go_sem] theorem ia {x}:JL n (.ro x::rs) L w=JL n rs (fun vs ts=>L (.any ::vs) ts) ⟨⟩:=by rfl
@[go_sem] theorem bu:JL n (.nilp ::rs) L w=JL n rs (fun vs ts=>L (.nilp ::vs) ts) ⟨⟩:=by rfl
@[go_sem] theorem ib {ap} {x}:JL n (.ow ap x::rs) L w=JL (n+1) rs (fun vs ts=>L (.own n::vs) ((n,⟨x,ap,0,false⟩)::ts)) ⟨⟩:=by rfl
@[go_sem] theorem ew:JL n (.agg us::rs) L w=JL n us (fun ws ts=>JL (n+ts.length) rs (fun vs ts'=>L (.agg ws::vs) (ts++ts')) ⟨⟩) ⟨⟩:=by rfl
@[go_sem] theorem e7:JL n (.tup us::rs) L w=JL n us (fun ws ts=>JL (n+ts.length) rs (fun vs ts'=>L (.tup ws::vs) (ts++ts')) ⟨⟩) ⟨⟩:=by rfl
@[go_sem ↓] theorem oV {k} {x}:cv1 n (.int k x) L1=L1 (.int k x) [] :=rfl
@[go_sem ↓] theorem ly {b}:cv1 n (.bool b) L1=L1 (.bool b) [] :=rfl
@[go_sem ↓] theorem oW {x}:cv1 n (.str x) L1=L1 (.str x) [] :=rfl
@[go_sem ↓] theorem p8 {x}:cv1 n (.ro x) L1=L1 .any [] :=rfl
@[go_sem ↓] theorem lz:cv1 n .nilp L1=L1 .nilp [] :=rfl
@[go_sem ↓] theorem p9 {ap} {x}:cv1 n (.ow ap x) L1=L1 (.own n) [(n,⟨x,ap,0,false⟩)] :=rfl
@[go_sem ↓] theorem oX:cv1 n (.agg us) L1=JL n us (fun ws ts=>L1 (.agg ws) ts) ⟨⟩:=by rfl
@[go_sem ↓] theorem oY:cv1 n (.tup us) L1=JL n us (fun ws ts=>L1 (.tup ws) ts) ⟨⟩:=by rfl
end
attribute [go_sem ↓] eo eq bt eu ia bu ib ew e7
def Nv (P:Program) (L:Bool) (pos:Nat) (f:FuncId) (args:List AV) (as:Option (List AV)) (dst:Option Tmp) (σ:St) (K:St→Prop) (_:Wrap K) (w:Wrap L):Prop:=Sm P L pos f args as dst σ K w
@[go_sem ↓] theorem l0 {L} {wL} {f} {args} {as}:Sm P L pos f args as dst σ K wL=Nv P L pos f args as dst σ K ⟨⟩ wL:=rfl
theorem AI {f} {args bs} {w} {rv} (h:AC P f bs rv) (hk:Am (pos*16) fun m=>cv1 m rv fun v ts=>AP (Ci σ ts) (K (σ.add dst ⟨v,ts,[]⟩))) {L} {wL}:Nv P L pos f args (some bs) dst σ K w wL:=X5 h hk.1 hk.2
theorem LI {f} {args bs} {w} {rv} {o} (e:o=some bs) (h:AC P f bs rv) (hk:Am (pos*16) fun m=>cv1 m rv fun v ts=>AP (Ci σ ts) (K (σ.add dst ⟨v,ts,[]⟩))) {L} {wL}:Nv P L pos f args o dst σ K w wL:=by
 subst e; exact X5 h hk.1 hk.2
theorem W0 {f} {args bs} {w} {rv} {o} (h:AG P f bs [] [] rv [] []) (e:cls (fun _=>none) (fun _=>none) args=some bs) (hp:SE rv=true) (hk:K (σ.add dst ⟨rv,[],[]⟩)) {L} {wL}:Nv P L pos f args o dst σ K w wL:=.inl (.inr ⟨bs,rv,[],[],h,e,.inl ⟨rfl,hp,hk⟩⟩)
theorem e9 {f} {args bs} {w} {q} {rows} {sz} {z} {o} (h:AG P f bs [] [] (.own q) [(q,⟨rows,sz,0,z⟩)] []) (e:cls (fun _=>none) (fun _=>none) args=some bs) (hk:AP (look σ.t (pos*16)=none) (K (σ.add dst ⟨.own (pos*16),[(pos*16,⟨rows,sz,0,z⟩)],[]⟩))) {L} {wL}:Nv P L pos f args o dst σ K w wL:=.inl (.inr ⟨bs,.own q,_,[],h,e,.inr (.inl ⟨q,_,rfl,rfl,rfl,hk.1,hk.2⟩)⟩)
theorem ic {f} {args bs} {w} {q k} {qt} {qb} {o} (h:AG P f bs [] [] (.box q k) qt qb) (e:cls (fun _=>none) (fun _=>none) args=some bs) (hk:K (σ.add dst ⟨.rop [] 0,[],[]⟩)) {L} {wL}:Nv P L pos f args o dst σ K w wL:=.inl (.inr ⟨bs,.box q k,qt,qb,h,e,.inr (.inr ⟨⟨q,k,rfl⟩,hk⟩)⟩)
attribute [go_sem] SE
def VH (y:Way) (as:List AV) (pt:List (Nat × Tok)) (pb:List (Nat × List AV)) (qt:List (Nat × Tok)) (qb:List (Nat × List AV)):Bool:=
 decide (((y.rt++y.nt).map (·.2)).Nodup)&&decide (((y.rt++y.nt).map (·.1)).Nodup)&&decide (((y.rb.map (·.2.1))++y.nb.map (·.2)).Nodup)&&decide (((y.rb.map (·.1))++y.nb.map (·.1)).Nodup)&&
 (y.rt.all fun p=>(look pt p.1).isSome)&&(y.rb.all fun p=>(look pb p.1).isSome)&&(y.nt.all fun p=>(look pt p.1).isNone)&&(y.nb.all fun p=>(look pb p.1).isNone)&&decide ((pt.map (·.1)).Nodup)&&decide ((pb.map (·.1)).Nodup)&&
 (pb.all fun p=>(look qb p.1).isSome)&&Kv y.rt y.cv&&(y.md||noZ qt)&&aC as pt pb&&(y.rt.all fun p=>decide (p.1 <1000)||(look qt p.1).isNone)
def Q4:List (Nat × Nat)→List (Nat × Option Tok)→Prop
 | [],_=>True
 |(_,n)::r,t=>look t n=none∧Q4 r t
def Nw:List (Nat × Nat)→List (Nat × Option (List AV))→Prop
 | [],_=>True
 |(_,n)::r,t=>look t n=none∧Nw r t
def VI (y:Way) (args as:List AV) (pt:List (Nat × Tok)) (pb:List (Nat × List AV)) (σ1:St):Prop:=
 Q4 y.nt σ1.t∧Nw y.nb σ1.b∧PI y.rt σ1 pt∧GE y σ1 (σ1.less y) pb∧PasL y (σ1.less y) args as
theorem PV {t}:∀ {l},Q4 l t→∀p ∈ l,(look t p.2).isNone =true
 | [],_,p,h=>by cases h
 |(c,n)::l,hf,p,h=>by
  simp only [Q4] at hf
  rcases List.mem_cons.1 h with rfl|h
  ·rw [hf.1]; rfl
  ·exact PV hf.2 p h
theorem Nx {t}:∀ {l},Nw l t→∀p ∈ l,(look t p.2).isNone =true
 | [],_,p,h=>by cases h
 |(c,n)::l,hf,p,h=>by
  simp only [Nw] at hf
  rcases List.mem_cons.1 h with rfl|h
  ·rw [hf.1]; rfl
  ·exact Nx hf.2 p h
theorem VJ {f} {args} {σ} {as} {pt} {pb} {r} {qt} {qb} {K} (y:Way) (h:AG P f as pt pb r qt qb) (hB:VH y as pt pb qt qb=true)
  (hc:Bu y.cv σ fun σ1=>AP (VI y args as pt pb σ1) (BM y.cv (σ1.after y qt qb) fun σ2=>K (bak y r) σ2)):SF P f args σ K:=by
 refine⟨y,as,pt,pb,r,qt,qb,h,IQ (fun σ1 h=>?_) hc⟩
 unfold VH at hB
 simp only [Bool.and_eq_true,decide_eq_true_eq,and_assoc] at hB
 obtain⟨b1,b2,b3,b4,b5,b6,b7,b8,b9,b10,b11,b12,bm,b13,b14⟩:=hB
 obtain⟨⟨h1,h2,h3,h4,h5⟩,h6⟩:=h
 refine⟨⟨b1,b2,b3,b4,b5,b6,?_,?_,b9,b10⟩,h3,h4,h5,b11,⟨b12,bm⟩,b13,b14,h6⟩
 ·rw [List.all_eq_true] at b7 ⊢
  intro p hp
  rw [b7 p hp,PV h1 p hp]; rfl
 ·rw [List.all_eq_true] at b8 ⊢
  intro p hp
  rw [b8 p hp,Nx h2 p hp]; rfl
theorem ie {L} {wL} {f} {args} {o} {w} {as} {pt} {pb} {r} {qt} {qb} (y:Way) (hL:L=true) (h:AG P f as pt pb r qt qb) (hB:VH y as pt pb qt qb=true)
  (hc:Bu y.cv σ fun σ1=>AP (VI y args as pt pb σ1) (BM y.cv (σ1.after y qt qb) fun σ2=>K (σ2.put dst (bak y r)))):Nv P L pos f args o dst σ K w wL:=.inr ⟨hL,[],VJ (K:=fun v σ'=>K (σ'.put dst v)) y h hB hc⟩
theorem W1 {L} {wL} {f} {args} {o} {w} {as} {pt} {pb} {r} {qt} {qb} (bs:List Nat) (y:Way) (hL:L=true) (h:AG P f as pt pb r qt qb) (hB:VH y as pt pb qt qb=true)
  (hc:FzK bs args σ fun args σ=>Bu y.cv σ fun σ1=>AP (VI y args as pt pb σ1) (BM y.cv (σ1.after y qt qb) fun σ2=>K (σ2.put dst (bak y r)))):Nv P L pos f args o dst σ K w wL:=.inr ⟨hL,bs,Q0 (fun args σ hc=>VJ (K:=fun v σ'=>K (σ'.put dst v)) y h hB hc) hc⟩
@[go_sem ↓] theorem oZ {args} {K}:FzK [] args σ K=K args σ:=rfl
@[go_sem ↓] theorem mA {b} {r} {args} {s} {t} {bb} {K}:FzK (b::r) args ⟨s,t,bb⟩ K=optX ((look bb b).join) fun vs=>AP (1000≤b∧isMp vs=false) (Am (args.map (fzA b vs)) fun args'=>FzK r args' ⟨s,t,(b,none)::bb⟩ K):=rfl
section
variable {b:Nat} {vs:List AV}
@[go_sem] theorem oa {x n sz}:fzA b vs (.bsl x n sz)=(cl (fun _=>none) (only b vs) (.bsl x n sz)).getD (.bsl x n sz):=rfl
@[go_sem] theorem ob {x off}:fzA b vs (.box x off)=(cl (fun _=>none) (only b vs) (.box x off)).getD (.box x off):=rfl
@[go_sem] theorem oc {us}:fzA b vs (.agg us)=(cl (fun _=>none) (only b vs) (.agg us)).getD (.agg us):=rfl
@[go_sem] theorem od {k} {n}:fzA b vs (.int k n)= .int k n:=rfl
@[go_sem] theorem mB {x}:fzA b vs (.bool x)= .bool x:=rfl
@[go_sem] theorem oe {x}:fzA b vs (.str x)= .str x:=rfl
@[go_sem] theorem qA {x}:fzA b vs (.ro x)= .ro x:=rfl
@[go_sem] theorem og {x}:fzA b vs (.own x)= .own x:=rfl
@[go_sem] theorem oh {x} {off}:fzA b vs (.rop x off)= .rop x off:=rfl
@[go_sem] theorem ol {t sz i off}:fzA b vs (.elt t sz i off)= .elt t sz i off:=rfl
@[go_sem] theorem qB {f} {x}:fzA b vs (.fn f x)= .fn f x:=rfl
@[go_sem] theorem mC:fzA b vs .nilp = .nilp :=rfl
@[go_sem] theorem mD:fzA b vs .nils = .nils :=rfl
@[go_sem] theorem om {x}:fzA b vs (.mpr x)= .mpr x:=rfl
@[go_sem] theorem oq:fzA b vs .any = .any :=rfl
end
attribute [go_sem] Option.getD_some Option.getD_none Option.join_some Option.bind_some Option.bind_none only
attribute [go_sem] ne_eq true_imp_iff implies_true false_imp_iff DY D.flat kept VI Q4 Nw PI St.less PJ QI QJ QK WJ WK St.after bak baks GE
@[go_sem ↓] theorem j0:Bu [] σ K=K σ:=by rw [Bu]
@[go_sem ↓] theorem ig {n} {z} {r} {s} {t} {b}:Bu ((n,.nils,z)::r) ⟨s,t,b⟩ K=AP (look t n=none) (Bu r ⟨s,(n,some ⟨[],z,0,false⟩)::t,b⟩ K):=by rw [Bu]; rfl
@[go_sem ↓] theorem j5 {n x m sz} {z} {r} {s} {t} {b}:Bu ((n,.bsl x m sz,z)::r) ⟨s,t,b⟩ K=AP (m=0) (AP (look t n=none) (Bu r ⟨s,(n,some ⟨[],z,0,false⟩)::t,b⟩ K)):=by rw [Bu]; rfl
@[go_sem ↓] theorem j6 {n t' g sz i j:Nat} {r:List (Nat × AV × Option Nat)} {s:List (Nat × AV)} {t:List (Nat × Option Tok)} {b:List (Nat × Option (List AV))}:Bu ((n,.sub t' g [(sz,i,j)],none)::r) ⟨s,t,b⟩ K=
  AP (look t n=none∧n≠t') (optX (look t t').join fun tk=>AP (tk.gen=g) (optX (getP [(sz,i,j)] tk.rows) fun rows=>MR (putR [(sz,i,j)] tk.rows .gone) fun rows'=>Bu r ⟨s,(n,some ⟨rows,none,0,tk.z⟩)::(t',some ⟨rows',tk.sz,g,tk.z⟩)::t,b⟩ K)):=by
 rw [Bu]
 simp only [AP,optX,Gy,List.length_cons,List.length_nil,true_and,Nat.zero_add]
 refine propext ⟨?_,?_⟩
 ·rintro ⟨h2,tk,rows,h4,h5,h6,h7,h8⟩; exact⟨⟨h2,h7⟩,tk,h4,h5,rows,h6,h8⟩
 ·rintro ⟨⟨h2,h7⟩,tk,h4,h5,rows,h6,h8⟩; exact⟨h2,tk,rows,h4,h5,h6,h7,h8⟩
@[go_sem ↓] theorem ou:BM [] σ K=K σ:=by rw [BM]
def unX (n:Nat) (K:St→Prop) (σ:St):Prop:=K {σ with t:=(n,none)::σ.t}
@[go_sem ↓] theorem qC {n} {s} {t} {b}:unX n K ⟨s,t,b⟩=K ⟨s,(n,none)::t,b⟩:=rfl
@[go_sem ↓] theorem mE {n} {z} {r}:BM ((n,.nils,z)::r) σ K=BM r σ (unX n K):=by rw [BM]; rfl; grind
@[go_sem ↓] theorem ov {n x m sz} {z} {r}:BM ((n,.bsl x m sz,z)::r) σ K=BM r σ (unX n K):=by rw [BM]; rfl; grind
def unS (n t' g:Nat) (p:Pth) (K:St→Prop) (σ:St):Prop:=match σ.T n with
 |some tn=>∃tk,σ.T t'=some tk∧Rl p tk.rows=some .gone ∧(n≠t'∧okZ tk.z tn=true)∧K {σ with t:=(n,none)::(t',some ⟨putR p tk.rows (.sl tn.rows),tk.sz,if tn.gen=0∧tk.gen=g then g else tk.gen+tn.gen+1,tk.z⟩)::σ.t}
 |none=>K σ
@[go_sem ↓] theorem oz {n t' g} {p} {z} {r}:BM ((n,.sub t' g p,z)::r) σ K=BM r σ (unS n t' g p K):=by rw [BM]; rfl
def unO (o:Option Tok) (n t' g:Nat) (p:Pth) (K:St→Prop) (σ:St):Prop:=match o with
 |some tn=>AP (n≠t') (optX (σ.T t') fun tk=>AP (okZ tk.z tn=true) (AP (Rl p tk.rows=some .gone) (MR (putR p tk.rows (.sl tn.rows)) fun rows=>K ⟨σ.s,(n,none)::(t',some ⟨rows,tk.sz,if tn.gen=0∧tk.gen=g then g else tk.gen+tn.gen+1,tk.z⟩)::σ.t,σ.b⟩)))
 |none=>K σ
@[go_sem ↓] theorem qD {n t' g:Nat} {p:Pth} {s:List (Nat × AV)} {t:List (Nat × Option Tok)} {b:List (Nat × Option (List AV))}:unS n t' g p K ⟨s,t,b⟩=unO (look t n).join n t' g p K ⟨s,t,b⟩:=by
 grind [unS,unO,St.T,AP,optX,Gy]
@[go_sem] theorem mF {n t' g} {p} {tn}:unO (some tn) n t' g p K σ=AP (n≠t') (optX (σ.T t') fun tk=>AP (okZ tk.z tn=true) (AP (Rl p tk.rows=some .gone) (MR (putR p tk.rows (.sl tn.rows)) fun rows=>K ⟨σ.s,(n,none)::(t',some ⟨rows,tk.sz,if tn.gen=0∧tk.gen=g then g else tk.gen+tn.gen+1,tk.z⟩)::σ.t,σ.b⟩))):=rfl
@[go_sem] theorem mG {n t' g} {p}:unO none n t' g p K σ=K σ:=rfl
theorem ii {α:Type} {l:List α} {i:Nat} {x y:α} (h:l[i]? =some x):(l.set i y)[i]? =some y:=List.getElem?_set_self (BQ h)
theorem E2 {rows r} {sz i j} {row} (h:rows[i]? =some row) (hl:row.length=sz) (hj:row[j]? =some (.sl r)):getP [(sz,i,j)] rows=some r:=by
 grind [getP]
theorem ND {rows} {sz i j} {row} {d d'} (h:rows[i]? =some row) (hj:row[j]? =some d'):putR [(sz,i,j)] rows d=rows.set i (row.set j d):=by
 grind [putR,Ab.put]
theorem fA {rows:List (List D)} {sz i j:Nat} {row:List D} {d d':D} (h:rows[i]? =some row) (hj:row[j]? =some d'):(putR [(sz,i,j)] rows d)[i]? =some (row.set j d):=by
 rw [ND h hj]; grind
section
variable {y:Way} {σ0:St}
@[go_sem] theorem mH:PasL y σ0 [] [] =True:=by rfl
@[go_sem] theorem j7 {a b} {as bs}:PasL y σ0 (a::as) (b::bs)=(DZ y σ0 a b∧PasL y σ0 as bs):=by rfl
@[go_sem] theorem o0 {n c}:DZ y σ0 (.own n) (.own c)=(look y.rt c=some n∨∃z,∃m,look y.rt c=some m∧look y.cv m=some (.own n,z)):=by
 grind [DZ]
def cvX (o:Option (AV × Option Nat)) (a:AV):Prop:=match o with|some x=>x.1 =a|none=>False
theorem TU {o} {a}:(∃z,o=some (a,z))=cvX o a:=by
 unfold cvX
 grind
def rtX (o:Option Nat) (K:Nat→Prop):Prop:=match o with|some n=>K n|none=>False
@[go_sem] theorem mI {n} {K}:rtX (some n) K=K n:=rfl
@[go_sem] theorem mJ {x} {a}:cvX (some x) a=(x.1 =a):=rfl
theorem P7 {o} {p}:(∃n,o=some n∧p n)=rtX o p:=by
 cases o <;> simp [rtX]
@[go_sem] theorem o3 {t g c} {p}:DZ y σ0 (.sub t g p) (.own c)=rtX (look y.rt c) fun n=>cvX (look y.cv n) (.sub t g p):=by
 rw [← P7]
 grind [DZ,TU]
@[go_sem] theorem mK {c}:DZ y σ0 .nils (.own c)=rtX (look y.rt c) fun n=>cvX (look y.cv n) .nils :=by
 rw [← P7]
 grind [DZ,TU]
@[go_sem] theorem o4 {x m sz c}:DZ y σ0 (.bsl x m sz) (.own c)=rtX (look y.rt c) fun n=>cvX (look y.cv n) (.bsl x m sz):=by
 rw [← P7]
 grind [DZ,TU]
@[go_sem] theorem o5 {n off b off'}:DZ y σ0 (.box n off) (.box b off')=match look y.rb b with|some q=>n=q.1 ∧off=q.2 +off'|none=>False:=by
 simp only [DZ,AV.box.injEq]
 cases look y.rb b <;> simp
@[go_sem] theorem o6 {n sz i off c sz' i' off'}:DZ y σ0 (.elt n sz i off) (.elt c sz' i' off')=rtX (look y.rt c) fun m=>n=m∧sz=sz'∧i=i'∧off=off':=by
 rw [← P7]
 grind [DZ]
@[go_sem] theorem o7 {vs us}:DZ y σ0 (.agg vs) (.agg us)=PasL y σ0 vs us:=by rfl
@[go_sem] theorem qE {f f'} {vs us}:DZ y σ0 (.fn f vs) (.fn f' us)=(f=f'∧PasL y σ0 vs us):=by rfl
@[go_sem] theorem o8 {n b}:DZ y σ0 (.mpr n) (.mpr b)=match look y.rb b with|some q=>n=q.1 |none=>False:=by
 simp only [DZ,AV.mpr.injEq]
 cases look y.rb b <;> simp
def clW (y:Way) (σ0:St) (a:AV):Option AV:=cl (if y.md=true then fun _=>none else σ0.T) (if y.md=true then fun _=>none else σ0.B) a
@[go_sem] theorem o9 {a} {k} {n}:DZ y σ0 a (.int k n)=(clW y σ0 a=some (.int k n)):=by cases a <;> simp only [DZ,clW]
@[go_sem] theorem mL {a} {b}:DZ y σ0 a (.bool b)=(clW y σ0 a=some (.bool b)):=by cases a <;> simp only [DZ,clW]
@[go_sem] theorem pA {a} {s}:DZ y σ0 a (.str s)=(clW y σ0 a=some (.str s)):=by cases a <;> simp only [DZ,clW]
@[go_sem] theorem qF {a} {rows}:DZ y σ0 a (.ro rows)=(clW y σ0 a=some (.ro rows)):=by cases a <;> simp only [DZ,clW]
@[go_sem] theorem pB {a} {vs} {off}:DZ y σ0 a (.rop vs off)=narR (clW y σ0 a) vs off:=by cases a <;> simp only [DZ,clW]
@[go_sem] theorem mM {us} {o'} {vs} {off}:narR (some (.rop us o')) vs off=((us=vs∧o'=off)∨(off=0∧Ew us o' vs.length=vs)):=rfl
@[go_sem] theorem mN {a}:DZ y σ0 a .nilp =(clW y σ0 a=some .nilp):=by cases a <;> simp only [DZ,clW]
@[go_sem] theorem pC {a} {q} {rows}:DZ y σ0 a (.mpc q rows)=(clW y σ0 a=some (.mpc q rows)):=by cases a <;> simp only [DZ,clW]
@[go_sem] theorem pE {a}:DZ y σ0 a .any =(clW y σ0 a=some .any):=by cases a <;> simp only [DZ,clW]
@[go_sem] theorem qG {cv rt rb nt nb} {a}:clW ⟨cv,rt,rb,nt,nb,true⟩ σ0 a=cl (fun _=>none) (fun _=>none) a:=by rfl
@[go_sem] theorem qH {cv rt rb nt nb} {a}:clW ⟨cv,rt,rb,nt,nb,false⟩ σ0 a=cl σ0.T σ0.B a:=by rfl
end
def bv (P:Program) (t:TypeId) (v:AV) (σ:St) (K:Bool→Prop) (_:Wrap K):Prop:=U5 P t v σ K
theorem bw {rows} {K} {w} (h:slP (ti P t)) (h0:rows=[] →K true) (h1:K false):bv P t (.ro rows) σ K w:=dW h h0 h1
@[go_sem] theorem j8 {K} {w}:bv P t .nils σ K w=AP (slP (ti P t)) (K true):=Sl
@[go_sem] theorem mO {b n sz} {K} {w}:bv P t (.bsl b n sz) σ K w=AP (slP (ti P t)) (K false):=U6
@[go_sem ↓] theorem j9:opX P pos dst (.makeMap t none) σ K=optX (Xe P t) fun q=>AP (look σ.b pos=none) (K ((σ.put dst (.mpr pos)).setB pos [.mpc q []])):=by
 rw [Oq (fun _=>by rfl)]
 simp only [Ev,optX,AP]
 refine propext ⟨?_,?_⟩
 ·rintro ⟨r,⟨q,h1,rfl⟩,-,h2,h3⟩
  exact⟨q,h1,h2.1,by rw [← I3]; exact h3⟩
 ·rintro ⟨q,h1,h2,h3⟩
  exact⟨_,⟨q,h1,rfl⟩,trivial,⟨h2,trivial⟩,by rw [I3]; exact h3⟩
def lkR (ok:Bool) (o:Option D) (z:AV) (K:AV→Prop):Prop:=K (if ok=true then .tup [(o.map ofD).getD z,.bool o.isSome] else (o.map ofD).getD z)
@[go_sem] theorem qI {o} {z} {K}:lkR false o z K=Am ((o.map ofD).getD z) K:=by rfl
@[go_sem] theorem qJ {o} {z} {K}:lkR true o z K=Am ((o.map ofD).getD z) fun v=>Am o.isSome fun b=>K (.tup [v,.bool b]):=by rfl
def lkX (P:Program) (t:TypeId) (u v:AV) (ok:Bool) (σ:St) (K:AV→Prop):Prop:=∃r,PG P σ.B t u v ok r∧K r
@[go_sem] theorem pF {b} {v} {ok} {K}:lkX P t (.mpr b) v ok σ K=Wz (ti P t) fun kt et=>VE (σ.B b) fun q rows=>AP (UK P kt=some q) (optX (keyD v) fun k=>AP (S8 q k=true) (optX (tz1 P et) fun z=>Am (zAV z) fun z'=>Am (G7 k rows) fun o=>lkR ok o z' K)):=by
 simp only [lkX,PG,Wz,VE,AP,optX,Am,lkR]
 grind
@[go_sem ↓] theorem mP {ok}:opX P pos dst (.lookup t x y ok) σ K=Am (σ.e x) fun u=>Am (σ.e y) fun v=>lkX P t u v ok σ fun r=>K (σ.put dst r):=
 F3 (p:=fun v=>PG P σ.B t (σ.e x) (σ.e y) ok v) (fun _=>by rfl) (fun r=>by rfl)
def Sn (a:AV):Option D:=match J7 [a] with|some [d] =>some d|_=>none
@[go_sem] theorem kA {k} {n}:Sn (.int k n)=some (.int k n):=rfl
@[go_sem] theorem ij {b}:Sn (.bool b)=some (.bool b):=rfl
@[go_sem] theorem kC {s}:Sn (.str s)=some (.str s):=rfl
theorem bz {a} {d}:J7 [a] =some [d] ↔Sn a=some d:=by
 unfold Sn
 cases a <;> simp [J7]
def muX (P:Program) (t:TypeId) (u v x:AV) (σ:St) (K:St→Prop):Prop:=TA P t u v x σ K
@[go_sem] theorem pG {b:Nat} {v x:AV}:muX P t (.mpr b) v x σ K=Wz (ti P t) fun kt et=>VE (σ.B b) fun q rows=>AP (rows.length<68719476736) (AP (UK P kt=some q) (optX (keyD v) fun k=>AP (S8 q k=true) (optX (Sn x) fun d=>MR (mput k d rows) fun rows'=>K (σ.setB b [.mpc q rows'])))):=by
 simp only [muX,TA,Wz,VE,AP,optX,Gy]
 grind [bz]
@[go_sem ↓] theorem gG {m i}:opX P pos dst (.mapUpdate t m i x) σ K=Am (σ.e m) fun u=>Am (σ.e i) fun v=>Am (σ.e x) fun z=>muX P t u v z σ fun σ'=>K (σ'.put dst .any):=by
 rfl
@[go_sem ↓] theorem mQ {m i}:opX P pos dst (.insert t m i x) σ K=Am (σ.e m) fun u=>Am (σ.e i) fun v=>Am (σ.e x) fun z=>muX P t u v z σ fun σ'=>K (σ'.put dst .any):=by
 rfl
attribute [go_sem] keyD
@[go_sem] theorem mR {k} {n}:S8 (.int k) (.int k n)=true:=by simp [S8]
@[go_sem] theorem mS {s}:S8 .str (.str s)=true:=rfl
@[go_sem ↓] theorem qK:opX P pos dst (.pick c a b) σ K=Am (σ.e c) fun u=>Am (σ.e a) fun v=>Am (σ.e b) fun w=>Q3 u v w fun v=>K (σ.put dst v):=hU
@[go_sem ↓] theorem qL:opX P pos dst (.load t a) σ K=Am (σ.e a) fun u=>LG P t u σ fun v=>K (σ.put dst v):=hZ
@[go_sem ↓] theorem ik:opX P pos dst (.nilCheck x) σ K=Am (σ.e x) fun u=>TS u fun v=>K (σ.put dst v):=Wv
@[go_sem ↓] theorem kD {y}:opX P pos dst (.binOp op t x (.tmp y) t') σ K=Am (σ.e x) fun u=>Am (σ.g y) fun v=>Be P op t u v fun v=>K (σ.put dst v):=ZE
@[go_sem ↓] theorem kE {k} {n}:opX P pos dst (.binOp op t x (.const (.int k n)) t') σ K=Am (σ.e x) fun u=>Be P op t u (.int k n) fun v=>K (σ.put dst v):=ZF
@[go_sem ↓] theorem il {b}:opX P pos dst (.binOp op t x (.const (.bool b)) t') σ K=Am (σ.e x) fun u=>Be P op t u (.bool b) fun v=>K (σ.put dst v):=Ww
@[go_sem ↓] theorem kF {b}:opX P pos dst (.binOp op t x (.const (.string b)) t') σ K=Am (σ.e x) fun u=>Be P op t u (.str b) fun v=>K (σ.put dst v):=ZG
@[go_sem ↓] theorem im:opX P pos dst (.binOp op t x (.const (.pointer none)) t') σ K=Am (σ.e x) fun u=>Be P op t u .nilp fun v=>K (σ.put dst v):=Wx
@[go_sem ↓] theorem mT:opX P pos dst (.binOp .eql t x (.const (.slice none 0 0)) t') σ K=Am (σ.e x) fun u=>bv P t u σ (fun b=>K (σ.put dst (.bool b))) ⟨⟩:=bG
@[go_sem ↓] theorem mU:opX P pos dst (.binOp .neq t x (.const (.slice none 0 0)) t') σ K=Am (σ.e x) fun u=>bv P t u σ (fun b=>K (σ.put dst (.bool !b))) ⟨⟩:=bH
@[go_sem ↓] theorem qM {op}:opX P pos dst (.unOp op t x) σ K=Am (σ.e x) fun u=>U8 op u fun v=>K (σ.put dst v):=iI
@[go_sem ↓] theorem kG:opX P pos dst (.convert s d x) σ K=Am (σ.e x) fun u=>LH P s d u σ fun v=>K (σ.put dst v):=ZI
@[go_sem ↓] theorem gH:opX P pos dst (.fieldAddr s x f) σ K=Am (σ.e x) fun u=>faX P s u f fun v=>K (σ.put dst v):=VB
@[go_sem ↓] theorem pH:opX P pos dst (.field s x f) σ K=Am (σ.e x) fun u=>fdX P s u f fun v=>K (σ.put dst v):=eC
@[go_sem ↓] theorem gI:opX P pos dst (.indexAddr t x y) σ K=Am (σ.e x) fun u=>Am (σ.e y) fun v=>iaX P t u v σ fun v=>K (σ.put dst v):=VD
@[go_sem ↓] theorem pI {l h}:opX P pos dst (.slice t x l h none) σ K=Am (σ.e x) fun u=>ZL P σ.T t u (l.map σ.e) (h.map σ.e) fun v=>K (σ.put dst v):=X2
theorem mV {t el} {x} {l h} {n} {tk} {i j} {r} {L} {w1 w2 w3} (he:σ.e x= .own n) (hT:σ.T n=some tk) (hu:ti P t= .sl el) (hz:0<tsz P el) (hr:∀row ∈ tk.rows,row.length=tsz P el) (hi:bndI (l.map σ.e) 0=some i) (hj:bndI (h.map σ.e) tk.rows.length=some j) (hc:cutL tk.rows i j=some r)
  (k:K (σ.put dst (.par n (tsz P el) i.toNat (j - i).toNat))):Wt P L pos dst (.slice t x l h none) (.own n) σ K w1 w2 w3:=by
 refine .inl ?_
 rw [X2,he]
 exact⟨_,.inr ⟨tk,hT,el,hu,⟨hz,hr⟩,i,hi,j,hj,r,hc,rfl⟩,k⟩
@[go_sem ↓] theorem pJ:opX P pos dst (.index t x y) σ K=Am (σ.e x) fun u=>Am (σ.e y) fun v=>elX P t u v fun v=>K (σ.put dst v):=eD
@[go_sem ↓] theorem kH:opX P pos dst (.extract x i) σ K=Am (σ.e x) fun u=>ZM u i fun v=>K (σ.put dst v):=ZN
@[go_sem ↓] theorem qi:opX P pos dst (.call ⟨.builtin .len,List.toArray [x],List.toArray [t]⟩) σ K=Am (σ.e x) fun u=>MQ P t u σ fun v=>K (σ.put dst v):=lV
@[go_sem ↓] theorem qj {ts}:opX P pos dst (.call ⟨.builtin .max,List.toArray [x,y],ts⟩) σ K=Am (σ.e x) fun u=>Am (σ.e y) fun v=>Pg (fun n m=>if n<m then m else n) u v fun v=>K (σ.put dst v):=lW
@[go_sem ↓] theorem qk {ts}:opX P pos dst (.call ⟨.builtin .min,List.toArray [x,y],ts⟩) σ K=Am (σ.e x) fun u=>Am (σ.e y) fun v=>Pg (fun n m=>if m<n then m else n) u v fun v=>K (σ.put dst v):=lX
@[go_sem ↓] theorem ql:opX P pos dst (.box t x) σ K=Am (cellsOf (σ.e x)) fun cs=>bxX pos cs dst (.box pos 0) σ K:=ld
@[go_sem ↓] theorem pK:opX P pos dst (.alloc t) σ K=AP (0<(tz P t).length) (Am ((tz P t).map zAV) fun vs=>bxX pos (some vs) dst (.box pos 0) σ K):=eL
@[go_sem ↓] theorem pL {parts}:opX P pos dst (.build t parts.toArray) σ K=VF P (ti P t) fun fs=>AP ((fs.all fun q=>decide (0<tsz P q.2))=true∧0<(tz P t).length) (Am ((tz P t).map zAV) fun vs=>Am (pvs σ parts) fun ps=>bpX P fs vs ps fun v=>K (σ.put dst v)):=eP
@[go_sem ↓] theorem gJ:opX P pos dst (.makeSlice t l c) σ K=slX (ti P t) fun e=>Am (σ.e l) fun u=>Am (σ.e c) fun v=>mkX P pos e u v dst σ K:=VG
@[go_sem ↓] theorem qN {L} {wL} {args} {ts}:opL P L pos dst (.call ⟨.value g,args.toArray,ts⟩) σ K wL=Am (σ.e g) fun u=>Am (evs σ args) fun vs=>clX P L pos u vs dst σ K wL:=iU
@[go_sem ↓] theorem pM:opX P pos dst (.store t a x) σ K=Am (σ.e a) fun u=>Am (cellsOf (σ.e x)) fun cs=>stX P t u cs σ fun σ'=>K (σ'.put dst .any):=eY
@[go_sem ↓] theorem mW:opX P pos dst (.call ⟨.builtin .append,List.toArray [x,y],List.toArray [t,t]⟩) σ K=slX (ti P t) fun e=>Am (σ.e x) fun u=>Am (σ.e y) fun v=>apX P pos e u v dst σ K:=bh
def apE (P:Program) (pos:Nat) (e:TypeId) (u v:AV) (dst:Option Tmp) (σ:St) (K:St→Prop):Prop:=Xf u=true∧match v with
 | .ro rows=>(0<tsz P e∧(tz P e).length =tsz P e)∧∃z,roZ z (tsz P e) rows fun rows=>(rows.length*P.bytesOf e≤140737488355328∧rows.length≤maxLen)∧look σ.t (pos*16)=none∧K ((σ.setT (pos*16) ⟨rows,some (tsz P e),0,z⟩).put dst (.own (pos*16)))
 |_=>False
theorem cA {z} {sz} {rows} {K K'} (h:∀r,K r→K' r) (k:roZ z sz rows K):roZ z sz rows K':=by
 cases z
 ·exact⟨k.1,h _ k.2⟩
 ·exact⟨k.1,h _ k.2⟩
def roX (z:Bool) (sz:Nat) (rows:List (List D)) (K:List (List D)→Prop):Prop:=roZ z sz rows K
@[go_sem] theorem qm {sz} {rows} {K}:roX false sz rows K=AP (∀row ∈ rows,row.length=sz∧∀d ∈ row,d.flat=true) (K rows):=rfl
@[go_sem] theorem qo {sz:Nat} {rows:List (List D)} {K:List (List D)→Prop}:roX true sz rows K=AP (∀row ∈ rows,row.length=sz∧∀d ∈ row,d≠ .gone) (MR (fzR rows) fun r=>K r):=by
 grind [roX,roZ,AP,Gy]
@[go_sem] theorem qO {e:TypeId} {u:AV} {rows:List (List D)}:apE P pos e u (.ro rows) dst σ K=AP (Xf u=true) (AP (0<tsz P e∧(tz P e).length =tsz P e) (zX fun z=>roX z (tsz P e) rows fun rows=>AP (rows.length*P.bytesOf e≤140737488355328∧rows.length≤maxLen) (AP (look σ.t (pos*16)=none) (MR rows fun rows=>K ((σ.setT (pos*16) ⟨rows,some (tsz P e),0,z⟩).put dst (.own (pos*16))))))):=by simp only [Gy]; rfl
@[go_sem ↓] theorem qP:opE P pos dst (.call ⟨.builtin .append,List.toArray [x,y],List.toArray [t,t]⟩) σ K=slX (ti P t) fun e=>Am (σ.e x) fun u=>Am (σ.e y) fun v=>apE P pos e u v dst σ K:=by
 unfold opE
 simp only [Ev,kP,slX,true_and,Am]
 generalize σ.e x=u
 generalize σ.e y=v
 refine propext ⟨?_,?_⟩
 ·rintro ⟨r,⟨h1,h2⟩,h3,h4,h5⟩
  split at h2
  ·rename_i el rows hel
   obtain⟨h6,z,h7⟩:=h2
   rw [hel]
   refine⟨h1,h6,z,cA (fun rows h8=>?_) h7⟩
   obtain⟨h9,rfl⟩:=h8
   refine⟨h9,h3.1,?_⟩
   cases dst <;> exact h5
  grind
 ·intro h
  generalize hti:ti P t=q at h ⊢
  cases q with
  | sl el=>
   cases v with
   | ro rows=>
    obtain⟨h1,h6,z,h7⟩:=h
    cases z with
    |false=>
     obtain⟨h8,h9,h10,h5⟩:=h7
     exact⟨_,⟨h1,h6,false,h8,h9,rfl⟩,⟨h10,trivial⟩,trivial,by cases dst <;> exact h5⟩
    |true=>
     obtain⟨h8,h9,h10,h5⟩:=h7
     exact⟨_,⟨h1,h6,true,h8,h9,rfl⟩,⟨h10,trivial⟩,trivial,by cases dst <;> exact h5⟩
   |_=>exact h.2.elim
  |_=>exact h.elim
@[go_sem ↓] theorem qQ {e:TypeId} {u v:AV}:apX P pos e u v dst σ K=AP (0<tsz P e∧(tz P e).length =tsz P e) (zX fun z=>QH z e (tsz P e) u σ fun rows σ1=>MO z (tsz P e) v σ1 fun rows2 σ2=>
   AP ((rows.length+rows2.length)*P.bytesOf e≤140737488355328∧rows.length+rows2.length≤maxLen) (AP (look σ2.t (pos*16)=none) (MR (rows++rows2) fun rows=>K ((σ2.setT (pos*16) ⟨rows,some (tsz P e),0,z⟩).put dst (.own (pos*16)))))):=by simp only [Gy]; rfl
end
attribute [go_sem] zAV
section
variable {P:Program} {σ:St} {K:St→Prop} {ops:Array Oper} {base cut i:Nat}
@[go_sem] theorem io {x} {xs b} {w1} {w2} {w3} {w4}:I2 P ops base cut i (List.append (x::xs) b) σ K w1 w2 w3 w4=I2 P ops base cut i (x::List.append xs b) σ K w1 ⟨⟩ w3 w4:=rfl
@[go_sem] theorem kI {b} {w1} {w2} {w3} {w4}:I2 P ops base cut i (List.append [] b) σ K w1 w2 w3 w4=I2 P ops base cut i b σ K w1 ⟨⟩ w3 w4:=rfl
@[go_sem] theorem kJ {a b c} {w1} {w2} {w3} {w4}:I2 P ops base cut i (List.append (List.append a b) c) σ K w1 w2 w3 w4=I2 P ops base cut i (List.append a (List.append b c)) σ K w1 ⟨⟩ w3 w4:=by
 unfold I2; rw [show List.append (List.append a b) c=List.append a (List.append b c) from List.append_assoc a b c]
@[go_sem ↓] theorem cB {dst} {op} {type} {ps} {after} {g} {rest b} {K}:Jd (List.toArray (List.append (⟨some dst,op,type,ps,after,g⟩::rest) b)) 0 K=K dst:=by
 grind [List.append,Wq]
@[go_sem ↓] theorem cC {o} {rest b} {j} {K}:Jd (List.toArray (List.append (o::rest) b)) (j+1) K=Jd (List.toArray (List.append rest b)) j K:=by
 grind [List.append,Wr]
@[go_sem ↓] theorem dD {b} {j} {K}:Jd (List.toArray (List.append [] b)) j K=Jd b.toArray j K:=rfl
@[go_sem ↓] theorem dE {a b c} {j} {K}:Jd (List.toArray (List.append (List.append a b) c)) j K=Jd (List.toArray (List.append a (List.append b c))) j K:=by
 rw [show List.append (List.append a b) c=List.append a (List.append b c) from List.append_assoc a b c]
@[go_sem] theorem pN {a b:List Oper} {p:Oper→Bool}:List.all (List.append a b) p=(List.all a p&&List.all b p):=List.all_append
end
end Go.Proofs.YteckcjgpnegkjaaGreatDoor.Ab
