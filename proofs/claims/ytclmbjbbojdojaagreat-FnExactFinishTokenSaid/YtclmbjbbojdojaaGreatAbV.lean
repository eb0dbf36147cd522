/-
  The abstract walk as rules, third part: memory, calls, results, loops.
-/
import Derived.Test.YtclmbjbbojdojaaGreatAbU
import Derived.IntWalk
namespace Go.Proofs.YtclmbjbbojdojaaGreat.Ab
set_option linter.unusedVariables false
set_option maxHeartbeats 1000000
open Go.RowKit
section
variable {P:Program} {σ:St} {K:St→Prop} {Q:AE→St→Prop}
def sP (t:TI):Prop:=match t with| .str =>True|_=>False
@[go_sem] theorem ol:sP .str =True:=rfl
@[go_sem] theorem lb {t} {rows} {K}:Yt P t (.ro rows) σ K=slX (ti P t) fun _=>K (.int .i64 rows.length):=by
 simp only [Yt,To,slX]
 generalize ti P t=q
 cases q <;> simp
@[go_sem] theorem ie {t} {b n sz} {K}:Yt P t (.bsl b n sz) σ K=slX (ti P t) fun _=>K (.int .i64 n):=by
 simp only [Yt,To,slX]
 generalize ti P t=q
 cases q <;> simp
@[go_sem] theorem ig {t} {t'} {K}:Yt P t (.own t') σ K=slX (ti P t) fun _=>optX (σ.T t') fun tk=>K (.int .i64 tk.rows.length):=by
 simp only [Yt,To,slX,optX]
 grind
def lc (t:TI) (K:TypeId→TypeId→Prop):Prop:=match t with| .map k e=>K k e|_=>False
@[go_sem] theorem om {k e} {K}:lc (.map k e) K=K k e:=rfl
def ii (o:Option (List AV)) (K:KT→List (List D)→Prop):Prop:=∃q rows,o=some [.mpc q rows] ∧K q rows
@[go_sem] theorem nM {q} {rows} {K}:ii (some [.mpc q rows]) K=K q rows:=by
 grind [ii]
def Ro {α:Type} (v:α) (K:α→Prop):Prop:=∃y,v=y∧K y
theorem ME {α:Type} {v:α} {K:α→Prop}:Ro v K=K v:=by simp [Ro]
def bxX (pos:Nat) (cs:Option (List AV)) (dst:Option Tmp) (v:AV) (σ:St) (K:St→Prop):Prop:=optX cs fun vs=>Ac (look σ.b pos=none) (K ((σ.put dst v).setB pos vs))
def bxZ (pos:Nat) (cs:Option (List AV)) (dst:Option Tmp) (v:AV) (σ:St) (K:St→Prop):Prop:=bxX pos cs dst v σ K
theorem ld {pos} {cs} {dst} {v}:bxX pos cs dst v σ K=BI cs fun o=>bxZ pos o dst v σ K:=rfl
@[go_sem ↓] theorem oq {pos} {vs} {dst} {v}:bxZ pos (some vs) dst v σ K=Ac (look σ.b pos=none) (K ((σ.put dst v).setB pos vs)):=by simp [bxZ,bxX,optX]
theorem Kr {dst} {v} {pos} {vs}:σ.add dst ⟨v,[],[(pos,vs)]⟩=(σ.put dst v).setB pos vs:=by cases dst <;> rfl
attribute [go_sem] cellsOf
theorem ot {pos} {dst} {t} {x}:opX P pos dst (.box t x) σ K=bxX pos (cellsOf (σ.e x)) dst (.box pos 0) σ K:=by
 rw [Rn (fun _=>by rfl)]
 simp only [Ev,bxX]
 split
 ·rename_i vs h
  rw [h,Jq]
  refine propext ⟨?_,?_⟩
  ·rintro ⟨r,rfl,-,h1,h2⟩
   exact⟨h1.1,by rw [← Kr]; exact h2⟩
  ·rintro ⟨h1,h2⟩
   exact⟨_,rfl,trivial,⟨h1,trivial⟩,by rw [Kr]; exact h2⟩
 grind [Wd]
theorem ij {pos} {dst} {t}:opX P pos dst (.alloc t) σ K=Ac (0<(tz P t).length) (bxX pos (some ((tz P t).map zAV)) dst (.box pos 0) σ K):=by
 rw [Rn (fun _=>by rfl)]
 simp only [Ev,bxX,Jq,Ac]
 refine propext ⟨?_,?_⟩
 ·rintro ⟨r,⟨vs,rfl,h0,rfl⟩,-,h1,h2⟩
  exact⟨h0,h1.1,by rw [← Kr]; exact h2⟩
 ·rintro ⟨h0,h1,h2⟩
  exact⟨_,⟨_,rfl,h0,rfl⟩,trivial,⟨h1,trivial⟩,by rw [Kr]; exact h2⟩
attribute [go_sem] zAV
def pvs (σ:St):List (Nat × Operand)→List (Nat × AV)
 | [] =>[]
 |x::xs=>(x.1,σ.e x.2)::pvs σ xs
theorem bZ {xs}:pvs σ xs=xs.map fun x=>(x.1,σ.e x.2):=by induction xs with|nil=>rfl|cons x xs ih=>simp [pvs,ih]
attribute [go_sem] pvs EL
def bsX (P:Program) (pos:Nat) (e:TypeId) (n:Nat) (parts:List (Nat × AV)) (dst:Option Tmp) (σ:St) (K:St→Prop):Prop:=
 Ac (parts.length=n∧n*tsz P e≤16777216∧0<tsz P e∧(tz P e).length =tsz P e) (bxX pos (EL (tsz P e) 0 parts) dst (.bsl pos n (tsz P e)) σ K)
@[go_sem ↓] theorem ik {pos} {dst} {t} {n} {parts}:opX P pos dst (.buildSlice t n parts.toArray) σ K=slX (ti P t) fun e=>BI (pvs σ parts) fun ps=>bsX P pos e n ps dst σ K:=by
 rw [Rn (fun _=>by rfl)]
 simp only [Ev,slX,BI,bZ]
 generalize ti P t=q
 split
 ·simp only [eP,bsX,bxX,Ac]
  refine propext ⟨?_,?_⟩
  ·rintro ⟨r,⟨h1,h2,h3,h4,h5⟩,-,h6,h7⟩
   split at h5
   ·rename_i vs h8
    subst h5
    rw [h8,Jq]
    exact⟨⟨h1,h2,h3,h4⟩,h6.1,by rw [← Kr]; exact h7⟩
   grind
  ·rintro ⟨⟨h1,h2,h3,h4⟩,vs,h8,h6,h7⟩
   exact⟨⟨_,[],[(pos,vs)]⟩,⟨h1,h2,h3,h4,by rw [h8]⟩,trivial,⟨h6,trivial⟩,by rw [Kr]; exact h7⟩
 ·simp
attribute [go_sem] bsX
attribute [go_sem] Mu
def Yu (P:Program) (t:TI) (K:List (Nat × TypeId)→Prop):Prop:=match t with| .st fs=>K fs| .arr n el=>Ac (0<tsz P el) (K (Mu (tsz P el) el n 0))|_=>False
@[go_sem] theorem il {fs} {K}:Yu P (.st fs) K=K fs:=rfl
def bpX (P:Program) (fs:List (Nat × TypeId)) (vs:List AV) (ps:List (Nat × AV)) (K:AV→Prop):Prop:=∃ws,Lz P fs vs ps=some ws∧K (.agg ws)
@[go_sem] theorem im {fs} {vs} {K}:bpX P fs vs [] K=K (.agg vs):=by simp [bpX,Lz]
@[go_sem] theorem fe {fs} {vs} {f} {v} {ps} {K}:bpX P fs vs ((f,v)::ps) K=optX fs[f]? fun q=>optX (cellsOf v) fun cs=>Ac (cs.length=tsz P q.2 ∧q.1 +cs.length≤vs.length) (BI (splice vs q.1 cs) fun vs=>bpX P fs vs ps K):=by
 unfold bpX optX Ac BI
 rw [Lz]
 grind
theorem io {pos} {dst} {t} {parts}:opX P pos dst (.build t parts.toArray) σ K=Yu P (ti P t) fun fs=>Ac ((fs.all fun q=>decide (0<tsz P q.2))=true∧0<(tz P t).length) (bpX P fs ((tz P t).map zAV) (pvs σ parts) fun v=>K (σ.put dst v)):=by
 rw [J9 (p:=fun v=>Yu P (ti P t) fun fs=>Ac ((fs.all fun q=>decide (0<tsz P q.2))=true∧0<(tz P t).length) (bpX P fs ((tz P t).map zAV) (pvs σ parts) fun u=>v=u)) (fun _=>by rfl) (fun r=>by
  simp only [Ev,Yu,Ac,bpX,bZ]
  grind)]
 unfold Yu Ac bpX
 grind
attribute [go_sem] zD zDs
@[go_sem] theorem ou {n}:leX n n=True:=eq_true (Int.le_refl n)
def zX (K:ZK→Prop):Prop:=∃z,K z
def zY (K:ZK→Prop) (_:Wrap K):Prop:=∃z,K z
@[go_sem ↓] theorem tR {K}:zX K=zY K ⟨⟩:=rfl
theorem BW {K} {w} (z:ZK) (h:K z):zY K w:=⟨z,h⟩
def mkX (P:Program) (pos:Nat) (e:TypeId) (n m:AV) (dst:Option Tmp) (σ:St) (K:St→Prop):Prop:=match n,m with
 | .int .i64 n,.int .i64 m=>Ac (leX n m) (Ac (0≤n∧m.toNat*P.bytesOf e≤281474976710656∧m≤4611686018427387904) (Ac (0<tsz P e∧(tz P e).length =tsz P e) (zX fun q=>optX (zDs q (tz P e)) fun z=>Ac (look σ.t (pos*16)=none) (Ro (List.replicate n.toNat z) fun rows=>K ((σ.put dst (.own (pos*16))).setT (pos*16) ⟨rows,some (tsz P e),0,q⟩)))))
 |_,_=>False
@[go_sem] theorem ip {pos} {e} {n m} {dst}:mkX P pos e (.int .i64 n) (.int .i64 m) dst σ K=Ac (leX n m) (Ac (0≤n∧m.toNat*P.bytesOf e≤281474976710656∧m≤4611686018427387904) (Ac (0<tsz P e∧(tz P e).length =tsz P e) (zX fun q=>optX (zDs q (tz P e)) fun z=>Ac (look σ.t (pos*16)=none) (Ro (List.replicate n.toNat z) fun rows=>K ((σ.put dst (.own (pos*16))).setT (pos*16) ⟨rows,some (tsz P e),0,q⟩))))):=rfl
theorem ba {dst} {v} {n} {tk}:σ.add dst ⟨v,[(n,tk)],[]⟩=(σ.put dst v).setT n tk:=by cases dst <;> rfl
theorem Yv {pos:Nat} {dst:Option Tmp} {t:TypeId} {l c:Operand}:opX P pos dst (.makeSlice t l c) σ K=slX (ti P t) fun e=>mkX P pos e (σ.e l) (σ.e c) dst σ K:=by
 rw [Rn (fun _=>by rfl)]
 simp only [Ev,slX,mkX]
 generalize ti P t=q
 cases q with
 | sl e=>
  generalize σ.e l=u
  generalize σ.e c=v
  split
  ·rename_i el n m h1
   cases h1
   simp only [js,Ac,optX,zX,ME]
   refine propext ⟨?_,?_⟩
   ·rintro ⟨r,⟨k1,k2,k3,k4,k5,k6,q,z,k7,rfl⟩,k8,-,k9⟩
    exact⟨k1,⟨k2,k3,k4⟩,⟨k5,k6⟩,q,z,k7,k8.1,by rw [← ba]; exact k9⟩
   ·rintro ⟨k1,⟨k2,k3,k4⟩,⟨k5,k6⟩,q,z,k7,k8,k9⟩
    exact⟨⟨_,[(pos*16,⟨_,some (tsz P e),0,q⟩)],[]⟩,⟨k1,k2,k3,k4,k5,k6,q,z,k7,rfl⟩,⟨k8,trivial⟩,trivial,by rw [ba]; exact k9⟩
  grind
 |_=>simp
def We (P:Program) (L:Bool) (pos:Nat) (f:FuncId) (args:List AV) (as:Option (List AV)) (dst:Option Tmp) (σ:St) (K:St→Prop) (_:Wrap L):Prop:=
 ((∃bs rv,as=some bs∧AC P f bs rv∧DY σ (conv (pos*16) rv).2 ∧K (σ.add dst ⟨(conv (pos*16) rv).1,(conv (pos*16) rv).2,[]⟩))∨
  ∃bs rv qt qb,AG P f bs [] [] rv qt qb∧cls (fun _=>none) (fun _=>none) args=some bs∧((qt=[] ∧X2 rv=true∧K (σ.add dst ⟨rv,[],[]⟩))∨(∃q tk,qt=[(q,tk)] ∧rv= .own q∧tk.gen=0∧look σ.t (pos*16)=none∧K (σ.add dst ⟨.own (pos*16),[(pos*16,tk)],[]⟩))∨(∃q k,rv= .box q k)∧K (σ.add dst ⟨.rop [] 0,[],[]⟩)))∨
 (L=true∧bA P f args σ fun v σ'=>K (σ'.put dst v))
@[go_sem] theorem ov:Oe [] =true:=rfl
@[go_sem] theorem oz {fs cs}:Oe (.agg fs::cs)=true:=rfl
@[go_sem] theorem ql {as}:fnA [] as=as:=List.append_nil as
@[go_sem] theorem qm {fs cs as}:fnA (.agg fs::cs) as=fs++(as++cs):=rfl
def clX (P:Program) (L:Bool) (pos:Nat) (g:AV) (args:List AV) (dst:Option Tmp) (σ:St) (K:St→Prop) (w:Wrap L):Prop:=match g with
 | .fn f caps=>Oe caps=true∧We P L pos f (fnA caps args) (cls σ.T σ.B (fnA caps args)) dst σ K w
 |_=>False
@[go_sem] theorem lf {L} {wL} {pos} {f} {caps args} {dst}:clX P L pos (.fn f caps) args dst σ K wL=Ac (Oe caps=true) (BI (fnA caps args) fun vs=>BI (cls σ.T σ.B vs) fun r=>We P L pos f vs r dst σ K wL):=rfl
theorem lg {L} {wL} {pos} {dst} {g} {args} {ts}:opL P L pos dst (.call ⟨.value g,args.toArray,ts⟩) σ K wL=clX P L pos (σ.e g) (evs σ args) dst σ K wL:=by
 have h1:opX P pos dst (.call ⟨.value g,args.toArray,ts⟩) σ K=match σ.e g with
   | .fn f caps=>Oe caps=true∧((∃bs rv,cls σ.T σ.B (fnA caps (evs σ args))=some bs∧AC P f bs rv∧DY σ (conv (pos*16) rv).2 ∧K (σ.add dst ⟨(conv (pos*16) rv).1,(conv (pos*16) rv).2,[]⟩))∨
     ∃bs rv qt qb,AG P f bs [] [] rv qt qb∧cls (fun _=>none) (fun _=>none) (fnA caps (evs σ args))=some bs∧((qt=[] ∧X2 rv=true∧K (σ.add dst ⟨rv,[],[]⟩))∨(∃q tk,qt=[(q,tk)] ∧rv= .own q∧tk.gen=0∧look σ.t (pos*16)=none∧K (σ.add dst ⟨.own (pos*16),[(pos*16,tk)],[]⟩))∨(∃q k,rv= .box q k)∧K (σ.add dst ⟨.rop [] 0,[],[]⟩)))
   |_=>False:=by
  rw [Rn (fun _=>by rfl)]
  simp only [Ev,Tq,XK]
  generalize σ.e g=v
  split
  ·refine propext ⟨?_,?_⟩
   ·rintro ⟨r,⟨ho,h1⟩,h2,-,h4⟩
    refine⟨ho,?_⟩
    rcases h1 with h1|h1
    ·grind
    ·obtain⟨as,rv,qt,qb,h5,h6,h7⟩:=h1
     rcases h7 with ⟨h7,h8,rfl⟩|⟨q,tk,h7,h8,h9,rfl⟩|⟨h7,rfl⟩
     ·grind
     ·exact .inr ⟨as,rv,qt,qb,h5,h6,.inr (.inl ⟨q,tk,h7,h8,h9,h2.1,h4⟩)⟩
     grind
   ·rintro ⟨ho,h⟩
    rcases h with (⟨bs,rv,h1,h5,h2,h4⟩|⟨bs,rv,qt,qb,h5,h6,⟨h7,h8,h4⟩|⟨q,tk,h7,h8,h9,h2,h4⟩|⟨h7,h4⟩⟩)
    ·exact⟨⟨(conv (pos*16) rv).1,(conv (pos*16) rv).2,[]⟩,⟨ho,.inl (by rw [h1]; grind)⟩,h2,trivial,h4⟩
    ·exact⟨⟨rv,[],[]⟩,⟨ho,.inr ⟨bs,rv,qt,qb,h5,h6,.inl ⟨h7,h8,rfl⟩⟩⟩,trivial,trivial,h4⟩
    ·exact⟨⟨.own (pos*16),[(pos*16,tk)],[]⟩,⟨ho,.inr ⟨bs,rv,qt,qb,h5,h6,.inr (.inl ⟨q,tk,h7,h8,h9,rfl⟩)⟩⟩,⟨h2,trivial⟩,trivial,h4⟩
    ·exact⟨⟨.rop [] 0,[],[]⟩,⟨ho,.inr ⟨bs,rv,qt,qb,h5,h6,.inr (.inr ⟨h7,rfl⟩)⟩⟩,trivial,trivial,h4⟩
  ·simp
 have h2:opL P L pos dst (.call ⟨.value g,args.toArray,ts⟩) σ K wL=(opX P pos dst (.call ⟨.value g,args.toArray,ts⟩) σ K∨(L=true∧Og P ⟨dst,.call ⟨.value g,args.toArray,ts⟩,0, "",#[],none⟩ σ K)):=by
  have h3:Tx σ ⟨dst,.call ⟨.value g,args.toArray,ts⟩,0, "",#[],none⟩=false:=rfl
  grind [SY,VP,opL,VQ,opX]
 rw [h2,h1]
 grind [clX,We,Og,XK]
attribute [go_sem] cl cls toD toDs toA toAs Gc E6 Option.map_some Option.map_none
theorem iq {pos} {f} {args bs} {dst} {rv} (h:AC P f bs rv) (hf:DY σ (conv (pos*16) rv).2) (hk:K (σ.add dst ⟨(conv (pos*16) rv).1,(conv (pos*16) rv).2,[]⟩)) {L} {wL}:We P L pos f args (some bs) dst σ K wL:=
 .inl (.inl ⟨bs,rv,rfl,h,hf,hk⟩)
@[go_sem] theorem lh:DY σ [] =True:=rfl
@[go_sem] theorem j9 {n} {tk} {l}:DY σ ((n,tk)::l)=(look σ.t n=none∧DY σ l):=rfl
attribute [go_sem] conv H1 addT addB
@[go_sem] theorem o0 {s t b} {d} {r}:St.add ⟨s,t,b⟩ (some d) r=⟨(d,r.v)::s,addT t r.t,addB b r.b⟩:=rfl
@[go_sem] theorem o3 {s t b} {r}:St.add ⟨s,t,b⟩ none r=⟨s,addT t r.t,addB b r.b⟩:=rfl
section
variable {z:ZK}
@[go_sem] theorem ir {K}:Be z [] σ K=K [] σ:=by rw [Be]
@[go_sem] theorem it {k} {n} {vs} {K}:Be z (.int k n::vs) σ K=Be z vs σ fun ds σ'=>K (.int k n::ds) σ':=by rw [Be]
@[go_sem] theorem ff {b} {vs} {K}:Be z (.bool b::vs) σ K=Be z vs σ fun ds σ'=>K (.bool b::ds) σ':=by rw [Be]
@[go_sem] theorem sQ:Bi .no = .sl [] :=rfl
@[go_sem] theorem sR:Bi .yes = .fz [] :=rfl
@[go_sem] theorem sS:Bi .nl = .nl :=rfl
@[go_sem] theorem li {rows} {vs} {K}:Be z (.ro rows::vs) σ K=Ac (z= .yes) (Be z vs σ fun ds σ'=>K (.fz rows::ds) σ'):=by rw [Be]; rfl
@[go_sem] theorem iu {b n sz} {vs} {K}:Be z (.bsl b n sz::vs) σ K=if n=0 then Be z vs σ fun ds σ'=>K (Bi z::ds) σ' else cU z b n sz σ fun rows σ1=>Be z vs σ1 fun ds σ'=>K (.sl rows::ds) σ':=by rw [Be]
@[go_sem ↓] theorem qn {b n sz} {K}:cU z b n sz σ K=Ac (1000≤b) (Ac (0<sz) (optX (σ.B b) fun vs=>optX (MS z vs) fun ds=>Ac (ds.length=n*sz) (BI (BR sz n ds) fun rows=>K rows (σ.killB b)))):=rfl
@[go_sem] theorem o4 {s t b} {x}:St.killB ⟨s,t,b⟩ x=⟨s,t,(x,none)::b⟩:=rfl
attribute [go_sem] Ox litD MS unD unDs
@[go_sem] theorem iw {t} {vs} {K}:Be z (.own t::vs) σ K=optX (σ.T t) fun tk=>Ac (okZ z tk=true) (Be z vs (σ.killT t) fun ds σ'=>K (.sl tk.rows::ds) σ'):=by rw [Be]; rfl
end
def stX (P:Program) (t:TypeId) (a:AV) (cs:Option (List AV)) (σ:St) (K:St→Prop):Prop:=
 optX cs fun cs=>Ac (cs.length=tsz P t∧0<tsz P t∧cs.all AV.one=true) (match a with
  | .box b off=>∃vs,σ.B b=some vs∧isMp vs=false∧off+cs.length≤vs.length∧K (σ.setB b (splice vs off cs))
  | .elt t' sz i off=>∃tk0,σ.T t'=some tk0∧Be tk0.z cs σ fun ds σ'=>∃tk row,(σ'.T t'=some tk∧tk.z=tk0.z)∧tk.rows[i]? =some row∧row.length=sz∧off+ds.length≤sz∧K (σ'.setT t' ⟨tk.rows.set i (splice row off ds),tk.sz,if E7 row off ds=true then tk.gen else tk.gen+1,tk.z⟩)
  | .els t' g p sz i off=>Be .no cs σ fun ds σ'=>∃rows,subR σ'.T t' g p=some rows∧∃row,rows[i]? =some row∧(p≠ [] ∧row.length=sz∧off+ds.length≤sz∧E7 row off ds=true)∧∃tk,σ'.T t'=some tk∧K (σ'.setT t' ⟨putR p tk.rows (.sl (rows.set i (splice row off ds))),tk.sz,tk.gen,tk.z⟩)
  |_=>False)
theorem ix {pos} {dst} {t} {a x}:opX P pos dst (.store t a x) σ K=stX P t (σ.e a) (cellsOf (σ.e x)) σ fun σ'=>K (σ'.put dst .any):=by
 grind [opX,aop,Oy,stX,Jq,Ac,Wd]
@[go_sem] theorem iy {t} {b off} {cs}:stX P t (.box b off) (some cs) σ K=Ac (cs.length=tsz P t∧0<tsz P t∧cs.all AV.one=true) (optX (σ.B b) fun vs=>Ac (isMp vs=false) (Ac (off+cs.length≤vs.length) (BI (splice vs off cs) fun vs'=>K (σ.setB b vs')))):=by
 rw [stX,Jq]; rfl
@[go_sem] theorem iz {t:TypeId} {t' sz i off:Nat} {cs:List AV}:stX P t (.elt t' sz i off) (some cs) σ K=Ac (cs.length=tsz P t∧0<tsz P t∧cs.all AV.one=true) (optX (σ.T t') fun tk0=>Be tk0.z cs σ fun ds σ'=>optX (σ'.T t') fun tk=>Ac (tk.z=tk0.z) (optX tk.rows[i]? fun row=>Ac (row.length=sz∧off+ds.length≤sz) (Ro (tk.rows.set i (splice row off ds)) fun rows=>K (σ'.setT t' ⟨rows,tk.sz,if E7 row off ds=true then tk.gen else tk.gen+1,tk.z⟩)))):=by
 rw [stX,Jq]
 grind [Ac,optX,ME]
section
variable {z:ZK}
@[go_sem] theorem db {e} {sz} {K}:Ts z e sz .nils σ K=K [] σ:=rfl
@[go_sem] theorem fg {e} {sz b n sz'} {K}:Ts z e sz (.bsl b n sz') σ K=if n=0 then K [] σ else Ac (sz'=sz) (cU z b n sz σ K):=rfl
@[go_sem] theorem fh {e} {sz t} {K}:Ts z e sz (.own t) σ K=optX (σ.T t) fun tk=>Ac (tk.sz=some sz∧okZ z tk=true) (K tk.rows (σ.killT t)):=rfl
@[go_sem] theorem dc {sz} {K}:Mw z sz .nils σ K=K [] σ:=rfl
@[go_sem] theorem fi {sz b n sz'} {K}:Mw z sz (.bsl b n sz') σ K=optX (σ.B b) fun vs=>Ac (sz'=sz∧vs.length=n*sz∧vs.all AV.one=true) (Be z vs σ fun ds σ'=>BI (BR sz n ds) fun rows=>K rows σ'):=by
 simp only [Mw,optX,Ac,BI]
 grind
@[go_sem] theorem i7 {sz} {rows} {K}:Mw .no sz (.ro rows) σ K=Ac (∀row ∈ rows,row.length=sz∧∀d ∈ row,d.flat=true) (K rows σ):=rfl
@[go_sem] theorem o5 {sz} {rows} {K}:Mw .nl sz (.ro rows) σ K=Ac (∀row ∈ rows,row.length=sz∧∀d ∈ row,d.flat=true) (K rows σ):=rfl
@[go_sem] theorem fj {sz:Nat} {rows:List (List D)} {K:List (List D)→St→Prop}:Mw .yes sz (.ro rows) σ K=Ac (∀row ∈ rows,row.length=sz∧∀d ∈ row,d≠ .gone) (Ro (fzR rows) fun r=>K r σ):=by
 grind [Mw,Ac,ME]
@[go_sem] theorem fk {sz t} {K}:Mw z sz (.own t) σ K=optX (σ.T t) fun tk=>Ac (okZ z tk=true) (Ac (∀row ∈ tk.rows,row.length=sz) (K tk.rows (σ.killT t))):=by
 grind [Mw,optX,Ac]
end
attribute [go_sem] BR
def apX (P:Program) (pos:Nat) (e:TypeId) (x y:AV) (dst:Option Tmp) (σ:St) (K:St→Prop):Prop:=
 Ac (0<tsz P e∧(tz P e).length =tsz P e) (zX fun z=>Ts z e (tsz P e) x σ fun rows σ1=>Mw z (tsz P e) y σ1 fun rows2 σ2=>
   Ac ((rows.length+rows2.length)*P.bytesOf e≤140737488355328∧rows.length+rows2.length≤maxLen) (Ac (look σ2.t (pos*16)=none) (K ((σ2.setT (pos*16) ⟨rows++rows2,some (tsz P e),0,z⟩).put dst (.own (pos*16))))))
theorem fl {pos} {dst} {x y} {t}:opX P pos dst (.call ⟨.builtin .append,List.toArray [x,y],List.toArray [t,t]⟩) σ K=slX (ti P t) fun e=>apX P pos e (σ.e x) (σ.e y) dst σ K:=by
 unfold opX
 simp only [aop,Zk,slX,true_and]
 generalize ti P t=q
 split
 ·rename_i e
  show (0<tsz P e∧(tz P e).length =tsz P e∧_)=((0<tsz P e∧(tz P e).length =tsz P e)∧_)
  rw [and_assoc]
  congr 1
  congr 1
  show (∃z,_)=(∃z,_)
  congr 1
  funext z
  congr 1
  funext rows σ1
  congr 1
  funext rows2 σ2
  show (_∧_∧_∧_)=((_∧_)∧_∧_)
  rw [and_assoc]
 grind
end
attribute [go_sem ↓] ld
attribute [go_sem ↓] lb ie ig il im fe ip lf ir it ff li iu iw iy iz db fg fh dc fi i7 fj fk
end Go.Proofs.YtclmbjbbojdojaaGreat.Ab
namespace Go.Proofs.YtclmbjbbojdojaaGreat.Ab
set_option linter.unusedVariables false
open Go.RowKit
section
variable {P:Program} {σ:St} {K:St→Prop} {Q:AE→St→Prop}
@[go_sem] theorem lj {n} (h1: -9223372036854775808≤n) (h2:n≤9223372036854775807):IntKind.i64.wrap n=n:=Go.IntWalk.i64_in n ⟨h1,h2⟩
@[go_sem ↓] theorem o6 {K}:OH P σ [] K=K [] :=rfl
@[go_sem ↓] theorem o7 {t} {l} {K}:OH P σ (.tmp t::l) K=BI (σ.g t) fun v=>OH P σ l fun vs=>K (v::vs):=rfl
@[go_sem ↓] theorem nN {a} {t} {l} {K}:OH P σ (.cell a t::l) K=NH P t (σ.g a) σ fun v=>OH P σ l fun vs=>K (v::vs):=rfl
@[go_sem] theorem i8 {k} {n m}:EI (.int k n) (.int k m) σ K=Ac (n=m) (K σ):=by simp [EI,Ac]
@[go_sem] theorem fo {b c}:EI (.bool b) (.bool c) σ K=Ac (b=c) (K σ):=by rfl
@[go_sem] theorem i9 {s s'}:EI (.str s) (.str s') σ K=Ac (s=s') (K σ):=by rfl
@[go_sem] theorem ft:EI .nilp .nilp σ K=K σ:=by rfl
@[go_sem] theorem fu {ap} {rows}:EI .nils (.ow ap rows) σ K=Ac (rows=[]) (K σ):=by rfl
@[go_sem] theorem jA {b n sz} {ap} {rows}:EI (.bsl b n sz) (.ow ap rows) σ K=Ac (n=0) (Ac (rows=[]) (K σ)):=by rfl
@[go_sem] theorem jB {t} {ap} {rows}:EI (.own t) (.ow ap rows) σ K=optX (σ.T t) fun tk=>Ac (tk.rows=rows) (Ac (ap=none∨tk.sz=ap) (Ac (tk.z= .no) (K (σ.killT t)))):=by rfl
@[go_sem] theorem jC {rows rows'}:EI (.ro rows) (.ro rows') σ K=Ac (rows=rows') (K σ):=by rfl
@[go_sem] theorem jD {vs} {rs}:EI (.agg vs) (.agg rs) σ K=LO vs rs σ K:=by rfl
@[go_sem] theorem jE {vs} {rs}:EI (.tup vs) (.tup rs) σ K=LO vs rs σ K:=by rfl
@[go_sem] theorem fv:LO [] [] σ K=K σ:=by rfl
@[go_sem] theorem dd {v} {vs} {r} {rs}:LO (v::vs) (r::rs) σ K=EI v r σ fun σ'=>LO vs rs σ' K:=by rfl
def de (r:RV) (σ:St) (vs:List AV):Prop:=match vs with
 | [v] =>EI v r σ fun _=>True
 |vs=>EI (.tup vs) r σ fun _=>True
@[go_sem ↓] theorem qo {r}:de r σ [] =EI (.tup []) r σ fun _=>True:=rfl
@[go_sem ↓] theorem qp {r} {v}:de r σ [v] =EI v r σ fun _=>True:=rfl
@[go_sem ↓] theorem qq {r} {v u} {vs}:de r σ (v::u::vs)=EI (.tup (v::u::vs)) r σ fun _=>True:=rfl
def endX (P:Program) (l:List ResultVar) (r:RV) (q:AE) (σ:St):Prop:=match q with| .exit _=>False|_=>OH P σ l (de r σ)
@[go_sem ↓] theorem ll {l} {r}:endX P l r .normal σ=OH P σ l (de r σ):=rfl
@[go_sem ↓] theorem qr {l} {r}:endX P l r .ret σ=OH P σ l (de r σ):=rfl
theorem o8 (hm:P.follows .mixedOrders =true) {f} {fn} {c} {l} {args} {r} (hf:P.funcs[f]? =some fn) (hb:fn.body=some c) (hr:fn.results=l.toArray) (hnm:(fn.name == "runtime.NumGoroutine")=false)
  (hn:decide (args.length≤fn.ntmps)=true) (hok:HA fn.ntmps c=true) (h:awp P c (endX P l r) (st0 args)):AC P f args r:=by
 refine aA hm hf hb hnm (of_decide_eq_true hn) hok ?_
 have e:endQ P fn.results.toList r=endX P l r:=by
  rw [hr]
  funext q σ
  cases q <;> rfl
 rw [e]
 exact h
attribute [go_sem] st0 Uc
def fw {X:Type} (R:X→Prop) (inv:X→St) (μ:X→Nat) (x:X) (σ:St):Prop:=∃x',gx σ (inv x')∧R x'∧μ x'<μ x
def lm {X:Type} (R:X→Prop) (inv:X→St) (μ:X→Nat) (x:X) (σ:St) (_:Wrap R) (_:Wrap inv) (_:Wrap μ) (_:Wrap x):Prop:=fw R inv μ x σ
@[go_sem ↓] theorem nO {X:Type} {R:X→Prop} {inv:X→St} {μ:X→Nat} {x:X} {σ:St}:fw R inv μ x σ=lm R inv μ x σ ⟨⟩ ⟨⟩ ⟨⟩ ⟨⟩:=rfl
attribute [go_sem] K7 X7 Ty Tz ren rens HE H4 List.nodup_nil List.all_nil List.all_cons AV.int.injEq AV.bool.injEq AV.str.injEq AV.ro.injEq AV.rop.injEq AV.agg.injEq AV.fn.injEq AV.own.injEq AV.box.injEq AV.bsl.injEq AV.elt.injEq List.cons.injEq Tok.mk.injEq Option.isSome_some exists_eq_left' exists_eq_left
end
attribute [go_sem ↓] i8 fo i9 ft fu jA jB jC jD jE fv dd
end Go.Proofs.YtclmbjbbojdojaaGreat.Ab
namespace Go.Proofs.YtclmbjbbojdojaaGreat.Ab
set_option linter.unusedVariables false
open Go.RowKit
section
variable {P:Program} {σ:St} {K:St→Prop} {pos:Nat} {dst:Option Tmp} {t t' s d:TypeId} {x y a b c g l:Operand} {f i:Nat} {op:BinOp}
def slY (t:TI) (K:TypeId→Prop) (_:Wrap K):Prop:=slX t K
@[go_sem ↓] theorem sT {t} {K}:slX t K=slY t K ⟨⟩:=rfl
@[go_sem] theorem sU {e} {K} {w}:slY (.sl e) K w=K e:=rfl
def kA (t:TI) (K:IntKind→Prop) (_:Wrap K):Prop:=fZ t K
@[go_sem ↓] theorem o9 {t} {K}:fZ t K=kA t K ⟨⟩:=rfl
@[go_sem] theorem nP {k} {K} {w}:kA (.int k) K w=K k:=rfl
def stY (P:Program) (t:TI) (K:List (Nat × TypeId)→Prop) (_:Wrap K):Prop:=Yu P t K
@[go_sem ↓] theorem sV {t} {K}:Yu P t K=stY P t K ⟨⟩:=rfl
@[go_sem] theorem sW {fs} {K} {w}:stY P (.st fs) K w=K fs:=rfl
@[go_sem] theorem qu {n} {el} {K} {w}:stY P (.arr n el) K w=Ac (0<tsz P el) (BI (Mu (tsz P el) el n 0) K):=rfl
def dg (rows:List (List D)) (n:Int) (sz:Nat) (K:List D→Prop) (_:Wrap K):Prop:=Yr rows n sz K
@[go_sem ↓] theorem qv {rows} {n} {sz} {K}:Yr rows n sz K=dg rows n sz K ⟨⟩:=rfl
def pA {α:Type} (v:α) (K:α→Prop) (_:Wrap K):Prop:=Ro v K
@[go_sem ↓] theorem qw {α:Type} {v:α} {K:α→Prop}:Ro v K=pA v K ⟨⟩:=rfl
theorem AP {α:Type} {v} {K} {w} (y:α) (h:v=y) (hk:K y):pA v K w:=⟨y,h,hk⟩
def K8 (n:Nat) (rs:List RV) (K:List AV→List (Nat × Tok)→Prop) (_:Wrap K):Prop:=K (H1 n rs).1 (H1 n rs).2
def cv1 (n:Nat) (r:RV) (K:AV→List (Nat × Tok)→Prop):Prop:=K (conv n r).1 (conv n r).2
section
variable {n:Nat} {rs us:List RV} {L:List AV→List (Nat × Tok)→Prop} {L1:AV→List (Nat × Tok)→Prop} {w:Wrap L}
@[go_sem] theorem jF:K8 n [] L w=L [] [] :=rfl
@[go_sem] theorem jG {k} {x}:K8 n (.int k x::rs) L w=K8 n rs (fun vs ts=>L (.int k x::vs) ts) ⟨⟩:=by rfl
@[go_sem] theorem fx {b}:K8 n (.bool b::rs) L w=K8 n rs (fun vs ts=>L (.bool b::vs) ts) ⟨⟩:=by rfl
@[go_sem] theorem jH {x}:K8 n (.str x::rs) L w=K8 n rs (fun vs ts=>L (.str x::vs) ts) ⟨⟩:=by rfl
@[go_sem] theorem ln {x}:K8 n (.ro x::rs) L w=K8 n rs (fun vs ts=>L (.any ::vs) ts) ⟨⟩:=by rfl
@[go_sem] theorem fy:K8 n (.nilp ::rs) L w=K8 n rs (fun vs ts=>L (.nilp ::vs) ts) ⟨⟩:=by rfl
@[go_sem] theorem lo {ap} {x}:K8 n (.ow ap x::rs) L w=K8 (n+1) rs (fun vs ts=>L (.own n::vs) ((n,⟨x,ap,0,.no⟩)::ts)) ⟨⟩:=by rfl
@[go_sem] theorem jI:K8 n (.agg us::rs) L w=K8 n us (fun ws ts=>K8 (n+ts.length) rs (fun vs ts'=>L (.agg ws::vs) (ts++ts')) ⟨⟩) ⟨⟩:=by rfl
@[go_sem] theorem jJ:K8 n (.tup us::rs) L w=K8 n us (fun ws ts=>K8 (n+ts.length) rs (fun vs ts'=>L (.tup ws::vs) (ts++ts')) ⟨⟩) ⟨⟩:=by rfl
@[go_sem ↓] theorem qx {k} {x}:cv1 n (.int k x) L1=L1 (.int k x) [] :=rfl
@[go_sem ↓] theorem pB {b}:cv1 n (.bool b) L1=L1 (.bool b) [] :=rfl
@[go_sem ↓] theorem qy {x}:cv1 n (.str x) L1=L1 (.str x) [] :=rfl
@[go_sem ↓] theorem sX {x}:cv1 n (.ro x) L1=L1 .any [] :=rfl
@[go_sem ↓] theorem pC:cv1 n .nilp L1=L1 .nilp [] :=rfl
@[go_sem ↓] theorem sY {ap} {x}:cv1 n (.ow ap x) L1=L1 (.own n) [(n,⟨x,ap,0,.no⟩)] :=rfl
@[go_sem ↓] theorem qz:cv1 n (.agg us) L1=K8 n us (fun ws ts=>L1 (.agg ws) ts) ⟨⟩:=by rfl
@[go_sem ↓] theorem q9:cv1 n (.tup us) L1=K8 n us (fun ws ts=>L1 (.tup ws) ts) ⟨⟩:=by rfl
end
attribute [go_sem ↓] jF jG fx jH ln fy lo jI jJ
def Uj (P:Program) (L:Bool) (pos:Nat) (f:FuncId) (args:List AV) (as:Option (List AV)) (dst:Option Tmp) (σ:St) (K:St→Prop) (_:Wrap K) (w:Wrap L):Prop:=We P L pos f args as dst σ K w
@[go_sem ↓] theorem pE {L} {wL} {f} {args} {as}:We P L pos f args as dst σ K wL=Uj P L pos f args as dst σ K ⟨⟩ wL:=rfl
theorem AY {f} {args bs} {w} {rv} (h:AC P f bs rv) (hk:BI (pos*16) fun m=>cv1 m rv fun v ts=>Ac (DY σ ts) (K (σ.add dst ⟨v,ts,[]⟩))) {L} {wL}:Uj P L pos f args (some bs) dst σ K w wL:=iq h hk.1 hk.2
theorem be {f} {args bs} {w} {q} {rows} {sz} {z} {o} (h:AG P f bs [] [] (.own q) [(q,⟨rows,sz,0,z⟩)] []) (e:cls (fun _=>none) (fun _=>none) args=some bs) (hk:Ac (look σ.t (pos*16)=none) (K (σ.add dst ⟨.own (pos*16),[(pos*16,⟨rows,sz,0,z⟩)],[]⟩))) {L} {wL}:Uj P L pos f args o dst σ K w wL:=.inl (.inr ⟨bs,.own q,_,[],h,e,.inr (.inl ⟨q,_,rfl,rfl,rfl,hk.1,hk.2⟩)⟩)
attribute [go_sem] X2
def bf (y:Way) (as:List AV) (pt:List (Nat × Tok)) (pb:List (Nat × List AV)) (qt:List (Nat × Tok)) (qb:List (Nat × List AV)):Bool:=
 decide (((y.rt++y.nt).map (·.2)).Nodup)&&decide (((y.rt++y.nt).map (·.1)).Nodup)&&decide (((y.rb.map (·.2.1))++y.nb.map (·.2)).Nodup)&&decide (((y.rb.map (·.1))++y.nb.map (·.1)).Nodup)&&
 (y.rt.all fun p=>(look pt p.1).isSome)&&(y.rb.all fun p=>(look pb p.1).isSome)&&(y.nt.all fun p=>(look pt p.1).isNone)&&(y.nb.all fun p=>(look pb p.1).isNone)&&decide ((pt.map (·.1)).Nodup)&&decide ((pb.map (·.1)).Nodup)&&
 (pb.all fun p=>(look qb p.1).isSome)&&Mx y.rt y.cv&&(y.md||noZ qt)&&eR as pt pb&&(y.rt.all fun p=>decide (p.1 <1000)||(look qt p.1).isNone)
def Uk:List (Nat × Nat)→List (Nat × Option Tok)→Prop
 | [],_=>True
 |(_,n)::r,t=>look t n=none∧Uk r t
def QV:List (Nat × Nat)→List (Nat × Option (List AV))→Prop
 | [],_=>True
 |(_,n)::r,t=>look t n=none∧QV r t
def bg (y:Way) (args as:List AV) (pt:List (Nat × Tok)) (pb:List (Nat × List AV)) (σ1:St):Prop:=
 Uk y.nt σ1.t∧QV y.nb σ1.b∧SW y.rt σ1 pt∧H3 y σ1 (σ1.less y) pb∧PasL y (σ1.less y) args as
theorem Sn {t}:∀ {l},Uk l t→∀p ∈ l,(look t p.2).isNone =true
 | [],_,p,h=>by cases h
 |(c,n)::l,hf,p,h=>by
  simp only [Uk] at hf
  rcases List.mem_cons.1 h with rfl|h
  ·rw [hf.1]; rfl
  ·exact Sn hf.2 p h
theorem QW {t}:∀ {l},QV l t→∀p ∈ l,(look t p.2).isNone =true
 | [],_,p,h=>by cases h
 |(c,n)::l,hf,p,h=>by
  simp only [QV] at hf
  rcases List.mem_cons.1 h with rfl|h
  ·rw [hf.1]; rfl
  ·exact QW hf.2 p h
theorem f4 {f} {args} {σ} {as} {pt} {pb} {r} {qt} {qb} {K} (y:Way) (h:AG P f as pt pb r qt qb) (hB:bf y as pt pb qt qb=true)
  (hc:Ds y.cv σ fun σ1=>Ac (bg y args as pt pb σ1) (Ci y.cv (σ1.after y qt qb) fun σ2=>K (bak y r) σ2)):V5 P f args σ K:=by
 refine⟨y,as,pt,pb,r,qt,qb,h,J7 (fun σ1 h=>?_) hc⟩
 unfold bf at hB
 simp only [Bool.and_eq_true,decide_eq_true_eq,and_assoc] at hB
 obtain⟨b1,b2,b3,b4,b5,b6,b7,b8,b9,b10,b11,b12,bm,b13,b14⟩:=hB
 obtain⟨⟨h1,h2,h3,h4,h5⟩,h6⟩:=h
 refine⟨⟨b1,b2,b3,b4,b5,b6,?_,?_,b9,b10⟩,h3,h4,h5,b11,⟨b12,bm⟩,b13,b14,h6⟩
 ·rw [List.all_eq_true] at b7 ⊢
  intro p hp
  rw [b7 p hp,Sn h1 p hp]; rfl
 ·rw [List.all_eq_true] at b8 ⊢
  intro p hp
  rw [b8 p hp,QW h2 p hp]; rfl
theorem lp {L} {wL} {f} {args} {o} {w} {as} {pt} {pb} {r} {qt} {qb} (y:Way) (hL:L=true) (h:AG P f as pt pb r qt qb) (hB:bf y as pt pb qt qb=true)
  (hc:Ds y.cv σ fun σ1=>Ac (bg y args as pt pb σ1) (Ci y.cv (σ1.after y qt qb) fun σ2=>K (σ2.put dst (bak y r)))):Uj P L pos f args o dst σ K w wL:=.inr ⟨hL,[],f4 (K:=fun v σ'=>K (σ'.put dst v)) y h hB hc⟩
@[go_sem ↓] theorem rA {args} {K}:FzK [] args σ K=K args σ:=rfl
@[go_sem ↓] theorem pF {b} {r} {args} {s} {t} {bb} {K}:FzK (b::r) args ⟨s,t,bb⟩ K=optX ((look bb b).join) fun vs=>Ac (1000≤b∧isMp vs=false) (BI (args.map (fzA b vs)) fun args'=>FzK r args' ⟨s,t,(b,none)::bb⟩ K):=rfl
section
variable {b:Nat} {vs:List AV}
@[go_sem] theorem rB {x n sz}:fzA b vs (.bsl x n sz)=(cl (fun _=>none) (only b vs) (.bsl x n sz)).getD (.bsl x n sz):=rfl
@[go_sem] theorem rC {x off}:fzA b vs (.box x off)=(cl (fun _=>none) (only b vs) (.box x off)).getD (.box x off):=rfl
@[go_sem] theorem rD {us}:fzA b vs (.agg us)=(cl (fun _=>none) (only b vs) (.agg us)).getD (.agg us):=rfl
@[go_sem] theorem rE {k} {n}:fzA b vs (.int k n)= .int k n:=rfl
@[go_sem] theorem pG {x}:fzA b vs (.bool x)= .bool x:=rfl
@[go_sem] theorem rF {x}:fzA b vs (.str x)= .str x:=rfl
@[go_sem] theorem sZ {x}:fzA b vs (.ro x)= .ro x:=rfl
@[go_sem] theorem rG {x}:fzA b vs (.own x)= .own x:=rfl
@[go_sem] theorem rH {x} {off}:fzA b vs (.rop x off)= .rop x off:=rfl
@[go_sem] theorem rI {t sz i off}:fzA b vs (.elt t sz i off)= .elt t sz i off:=rfl
@[go_sem] theorem sa {f} {x}:fzA b vs (.fn f x)= .fn f x:=rfl
@[go_sem] theorem pH:fzA b vs .nilp = .nilp :=rfl
@[go_sem] theorem pI:fzA b vs .nils = .nils :=rfl
@[go_sem] theorem rJ {x}:fzA b vs (.mpr x)= .mpr x:=rfl
@[go_sem] theorem rK:fzA b vs .any = .any :=rfl
end
attribute [go_sem] Option.getD_some Option.getD_none Option.join_some Option.bind_some Option.bind_none only
attribute [go_sem] ne_eq true_imp_iff implies_true false_imp_iff E7 D.flat kept bg Uk QV SW St.less SX Tt Tu Tv Zl Zm St.after bak baks H3
@[go_sem ↓] theorem nQ:Ds [] σ K=K σ:=by rw [Ds]
@[go_sem ↓] theorem nR {n t' g sz i j:Nat} {r:List (Nat × AV × Option Nat)} {s:List (Nat × AV)} {t:List (Nat × Option Tok)} {b:List (Nat × Option (List AV))}:Ds ((n,.sub t' g [(sz,i,j)],none)::r) ⟨s,t,b⟩ K=
  Ac (look t n=none∧n≠t') (optX (look t t').join fun tk=>Ac (tk.gen=g) (optX (getP [(sz,i,j)] tk.rows) fun rows=>Ro (putR [(sz,i,j)] tk.rows .gone) fun rows'=>Ds r ⟨s,(n,some ⟨rows,none,0,tk.z⟩)::(t',some ⟨rows',tk.sz,g,tk.z⟩)::t,b⟩ K)):=by
 rw [Ds]
 simp only [Ac,optX,ME,List.length_cons,List.length_nil,true_and,Nat.zero_add]
 refine propext ⟨?_,?_⟩
 ·rintro ⟨h2,tk,rows,h4,h5,h6,h7,h8⟩; exact⟨⟨h2,h7⟩,tk,h4,h5,rows,h6,h8⟩
 ·rintro ⟨⟨h2,h7⟩,tk,h4,h5,rows,h6,h8⟩; exact⟨h2,tk,rows,h4,h5,h6,h7,h8⟩
@[go_sem ↓] theorem rL:Ci [] σ K=K σ:=by rw [Ci]
def unX (n:Nat) (K:St→Prop) (σ:St):Prop:=K {σ with t:=(n,none)::σ.t}
@[go_sem ↓] theorem sd {n} {s} {t} {b}:unX n K ⟨s,t,b⟩=K ⟨s,(n,none)::t,b⟩:=rfl
def unS (n t' g:Nat) (p:Pth) (K:St→Prop) (σ:St):Prop:=match σ.T n with
 |some tn=>∃tk,σ.T t'=some tk∧P7 p tk.rows=some .gone ∧(n≠t'∧okZ tk.z tn=true)∧K {σ with t:=(n,none)::(t',some ⟨putR p tk.rows (.sl tn.rows),tk.sz,if tn.gen=0∧tk.gen=g then g else tk.gen+tn.gen+1,tk.z⟩)::σ.t}
 |none=>K σ
@[go_sem ↓] theorem rM {n t' g} {p} {z} {r}:Ci ((n,.sub t' g p,z)::r) σ K=Ci r σ (unS n t' g p K):=by rw [Ci]; rfl
def unO (o:Option Tok) (n t' g:Nat) (p:Pth) (K:St→Prop) (σ:St):Prop:=match o with
 |some tn=>Ac (n≠t') (optX (σ.T t') fun tk=>Ac (okZ tk.z tn=true) (Ac (P7 p tk.rows=some .gone) (Ro (putR p tk.rows (.sl tn.rows)) fun rows=>K ⟨σ.s,(n,none)::(t',some ⟨rows,tk.sz,if tn.gen=0∧tk.gen=g then g else tk.gen+tn.gen+1,tk.z⟩)::σ.t,σ.b⟩)))
 |none=>K σ
@[go_sem ↓] theorem sf {n t' g:Nat} {p:Pth} {s:List (Nat × AV)} {t:List (Nat × Option Tok)} {b:List (Nat × Option (List AV))}:unS n t' g p K ⟨s,t,b⟩=unO (look t n).join n t' g p K ⟨s,t,b⟩:=by
 grind [unS,unO,St.T,Ac,optX,ME]
@[go_sem] theorem pJ {n t' g} {p} {tn}:unO (some tn) n t' g p K σ=Ac (n≠t') (optX (σ.T t') fun tk=>Ac (okZ tk.z tn=true) (Ac (P7 p tk.rows=some .gone) (Ro (putR p tk.rows (.sl tn.rows)) fun rows=>K ⟨σ.s,(n,none)::(t',some ⟨rows,tk.sz,if tn.gen=0∧tk.gen=g then g else tk.gen+tn.gen+1,tk.z⟩)::σ.t,σ.b⟩))):=rfl
@[go_sem] theorem pK {n t' g} {p}:unO none n t' g p K σ=K σ:=rfl
theorem FV {α:Type} {l:List α} {i:Nat} {x y:α} (h:l[i]? =some x):(l.set i y)[i]? =some y:=List.getElem?_set_self (Bb h)
theorem lq {rows r} {sz i j} {row} {d} (h:rows[i]? =some row) (hl:row.length=sz) (hj:row[j]? =some d) (hd:Ie d=some r):getP [(sz,i,j)] rows=some r:=by
 rw [getP,h]
 simp [hl,hj,hd,getP]
theorem KA {rows r} {sz i j} {row} (h:rows[i]? =some row) (hl:row.length=sz) (hj:row[j]? =some (.sl r)):getP [(sz,i,j)] rows=some r:=lq h hl hj rfl
theorem KC {rows} {sz i j} {row} {d} (h:rows[i]? =some row) (hl:row.length=sz) (hj:row[j]? =some d):P7 [(sz,i,j)] rows=some d:=by
 grind [P7]
theorem Ei {rows} {sz i j} {row} {d d'} (h:rows[i]? =some row) (hj:row[j]? =some d'):putR [(sz,i,j)] rows d=rows.set i (row.set j d):=by
 grind [putR,Ab.put]
theorem bh {rows:List (List D)} {sz i j:Nat} {row:List D} {d d':D} (h:rows[i]? =some row) (hj:row[j]? =some d'):(putR [(sz,i,j)] rows d)[i]? =some (row.set j d):=by
 rw [Ei h hj]; grind
section
variable {y:Way} {σ0:St}
@[go_sem] theorem pL:PasL y σ0 [] [] =True:=by rfl
@[go_sem] theorem nS {a b} {as bs}:PasL y σ0 (a::as) (b::bs)=(H2 y σ0 a b∧PasL y σ0 as bs):=by rfl
@[go_sem] theorem rN {n c}:H2 y σ0 (.own n) (.own c)=(look y.rt c=some n∨∃z,∃m,look y.rt c=some m∧look y.cv m=some (.own n,z)):=by
 grind [H2]
def cvX (o:Option (AV × Option Nat)) (a:AV):Prop:=match o with|some x=>x.1 =a|none=>False
theorem jK {o} {a}:(∃z,o=some (a,z))=cvX o a:=by
 unfold cvX
 grind
def rtX (o:Option Nat) (K:Nat→Prop):Prop:=match o with|some n=>K n|none=>False
@[go_sem] theorem pM {n} {K}:rtX (some n) K=K n:=rfl
@[go_sem] theorem pN {x} {a}:cvX (some x) a=(x.1 =a):=rfl
theorem jL {o} {p}:(∃n,o=some n∧p n)=rtX o p:=by
 cases o <;> simp [rtX]
@[go_sem] theorem rO {t g c} {p}:H2 y σ0 (.sub t g p) (.own c)=rtX (look y.rt c) fun n=>cvX (look y.cv n) (.sub t g p):=by
 rw [← jL]
 grind [H2,jK]
@[go_sem] theorem rP {n off b off'}:H2 y σ0 (.box n off) (.box b off')=match look y.rb b with|some q=>n=q.1 ∧off=q.2 +off'|none=>False:=by
 simp only [H2,AV.box.injEq]
 cases look y.rb b <;> simp
@[go_sem] theorem rQ {vs us}:H2 y σ0 (.agg vs) (.agg us)=PasL y σ0 vs us:=by rfl
@[go_sem] theorem sg {f f'} {vs us}:H2 y σ0 (.fn f vs) (.fn f' us)=(f=f'∧PasL y σ0 vs us):=by rfl
def clW (y:Way) (σ0:St) (a:AV):Option AV:=cl (if y.md=true then fun _=>none else σ0.T) (if y.md=true then fun _=>none else σ0.B) a
@[go_sem] theorem rR {a} {k} {n}:H2 y σ0 a (.int k n)=(clW y σ0 a=some (.int k n)):=by cases a <;> simp only [H2,clW]
@[go_sem] theorem pO {a} {b}:H2 y σ0 a (.bool b)=(clW y σ0 a=some (.bool b)):=by cases a <;> simp only [H2,clW]
@[go_sem] theorem si {a} {rows}:H2 y σ0 a (.ro rows)=(clW y σ0 a=some (.ro rows)):=by cases a <;> simp only [H2,clW]
@[go_sem] theorem rS {a} {vs} {off}:H2 y σ0 a (.rop vs off)=narR (clW y σ0 a) vs off:=by cases a <;> simp only [H2,clW]
@[go_sem] theorem pP {us} {o'} {vs} {off}:narR (some (.rop us o')) vs off=((us=vs∧o'=off)∨(off=0∧GS us o' vs.length=vs)):=rfl
@[go_sem] theorem sj {cv rt rb nt nb} {a}:clW ⟨cv,rt,rb,nt,nb,true⟩ σ0 a=cl (fun _=>none) (fun _=>none) a:=by rfl
@[go_sem] theorem sm {cv rt rb nt nb} {a}:clW ⟨cv,rt,rb,nt,nb,false⟩ σ0 a=cl σ0.T σ0.B a:=by rfl
end
def pQ (P:Program) (t:TypeId) (v:AV) (σ:St) (K:Bool→Prop) (_:Wrap K):Prop:=lT P t v σ K
theorem Wf {rows} {K} {w} (h:slP (ti P t)) (h0:rows=[] →K true) (h1:K false):pQ P t (.ro rows) σ K w:=iG h h0 h1
@[go_sem ↓] theorem nT:opX P pos dst (.makeMap t none) σ K=optX (eQ P t) fun q=>Ac (look σ.b pos=none) (K ((σ.put dst (.mpr pos)).setB pos [.mpc q []])):=by
 rw [Rn (fun _=>by rfl)]
 simp only [Ev,optX,Ac]
 refine propext ⟨?_,?_⟩
 ·rintro ⟨r,⟨q,h1,rfl⟩,-,h2,h3⟩
  exact⟨q,h1,h2.1,by rw [← Kr]; exact h3⟩
 ·rintro ⟨q,h1,h2,h3⟩
  exact⟨_,⟨q,h1,rfl⟩,trivial,⟨h2,trivial⟩,by rw [Kr]; exact h3⟩
def lkR (ok:Bool) (o:Option D) (z:AV) (K:AV→Prop):Prop:=K (if ok=true then .tup [(o.map ofD).getD z,.bool o.isSome] else (o.map ofD).getD z)
@[go_sem] theorem sn {o} {z} {K}:lkR false o z K=BI ((o.map ofD).getD z) K:=by rfl
@[go_sem] theorem so {o} {z} {K}:lkR true o z K=BI ((o.map ofD).getD z) fun v=>BI o.isSome fun b=>K (.tup [v,.bool b]):=by rfl
def lkX (P:Program) (t:TypeId) (u v:AV) (ok:Bool) (σ:St) (K:AV→Prop):Prop:=∃r,SU P σ.B t u v ok r∧K r
@[go_sem] theorem rT {b} {v} {ok} {K}:lkX P t (.mpr b) v ok σ K=lc (ti P t) fun kt et=>ii (σ.B b) fun q rows=>Ac (ktOf P kt=some q) (optX (keyD v) fun k=>Ac (isKB q k=true) (optX (tz1 P et) fun z=>BI (zAV z) fun z'=>BI (G8 k rows) fun o=>lkR ok o z' K)):=by
 simp only [lkX,SU,lc,ii,Ac,optX,BI,lkR]
 grind
@[go_sem ↓] theorem pR {ok}:opX P pos dst (.lookup t x y ok) σ K=BI (σ.e x) fun u=>BI (σ.e y) fun v=>lkX P t u v ok σ fun r=>K (σ.put dst r):=
 J9 (p:=fun v=>SU P σ.B t (σ.e x) (σ.e y) ok v) (fun _=>by rfl) (fun r=>by rfl)
def f6 (a:AV):Option D:=match Ox [a] with|some [d] =>some d|_=>none
@[go_sem] theorem nU {k} {n}:f6 (.int k n)=some (.int k n):=rfl
@[go_sem] theorem lr {b}:f6 (.bool b)=some (.bool b):=rfl
@[go_sem] theorem nV {s}:f6 (.str s)=some (.str s):=rfl
def muX (P:Program) (t:TypeId) (u v x:AV) (σ:St) (K:St→Prop):Prop:=W3 P t u v x σ K
@[go_sem ↓] theorem kC {m i}:opX P pos dst (.mapUpdate t m i x) σ K=BI (σ.e m) fun u=>BI (σ.e i) fun v=>BI (σ.e x) fun z=>muX P t u v z σ fun σ'=>K (σ'.put dst .any):=by
 rfl
@[go_sem ↓] theorem pS {m i}:opX P pos dst (.insert t m i x) σ K=BI (σ.e m) fun u=>BI (σ.e i) fun v=>BI (σ.e x) fun z=>muX P t u v z σ fun σ'=>K (σ'.put dst .any):=by
 rfl
attribute [go_sem] keyD V3
@[go_sem] theorem nW {ks} {ds}:isKB (.wide ks) (.ptr ds)=Mv ks ds:=rfl
@[go_sem] theorem lw {k ks n ds}:Mv (k::ks) (.int k n::ds)=Mv ks ds:=by simp [Mv]
@[go_sem] theorem nX:Mv [] [] =true:=rfl
@[go_sem] theorem pT {s}:isKB .str (.str s)=true:=rfl
@[go_sem ↓] theorem sp:opX P pos dst (.pick c a b) σ K=BI (σ.e c) fun u=>BI (σ.e a) fun v=>BI (σ.e b) fun w=>Ui u v w fun v=>K (σ.put dst v):=lO
@[go_sem ↓] theorem sr:opX P pos dst (.load t a) σ K=BI (σ.e a) fun u=>NH P t u σ fun v=>K (σ.put dst v):=lP
@[go_sem ↓] theorem lx:opX P pos dst (.nilCheck x) σ K=BI (σ.e x) fun u=>XJ u fun v=>K (σ.put dst v):=aI
@[go_sem ↓] theorem nY {y}:opX P pos dst (.binOp op t x (.tmp y) t') σ K=BI (σ.e x) fun u=>BI (σ.g y) fun v=>HB P op t u v fun v=>K (σ.put dst v):=dV
@[go_sem ↓] theorem nZ {k} {n}:opX P pos dst (.binOp op t x (.const (.int k n)) t') σ K=BI (σ.e x) fun u=>HB P op t u (.int k n) fun v=>K (σ.put dst v):=dW
@[go_sem ↓] theorem pU:opX P pos dst (.binOp .eql t x (.const (.slice none 0 0)) t') σ K=BI (σ.e x) fun u=>pQ P t u σ (fun b=>K (σ.put dst (.bool b))) ⟨⟩:=fT
@[go_sem ↓] theorem ss {op}:opX P pos dst (.unOp op t x) σ K=BI (σ.e x) fun u=>iT op u fun v=>K (σ.put dst v):=lU
@[go_sem ↓] theorem kD:opX P pos dst (.fieldAddr s x f) σ K=BI (σ.e x) fun u=>faX P s u f fun v=>K (σ.put dst v):=Yq
@[go_sem ↓] theorem kE:opX P pos dst (.indexAddr t x y) σ K=BI (σ.e x) fun u=>BI (σ.e y) fun v=>iaX P t u v σ fun v=>K (σ.put dst v):=Ys
@[go_sem ↓] theorem rU:opX P pos dst (.index t x y) σ K=BI (σ.e x) fun u=>BI (σ.e y) fun v=>elX P t u v fun v=>K (σ.put dst v):=ia
@[go_sem ↓] theorem na:opX P pos dst (.extract x i) σ K=BI (σ.e x) fun u=>dZ u i fun v=>K (σ.put dst v):=da
@[go_sem ↓] theorem tS:opX P pos dst (.call ⟨.builtin .len,List.toArray [x],List.toArray [t]⟩) σ K=BI (σ.e x) fun u=>Yt P t u σ fun v=>K (σ.put dst v):=oh
@[go_sem ↓] theorem tT:opX P pos dst (.box t x) σ K=BI (cellsOf (σ.e x)) fun cs=>bxX pos cs dst (.box pos 0) σ K:=ot
@[go_sem ↓] theorem rV:opX P pos dst (.alloc t) σ K=Ac (0<(tz P t).length) (BI ((tz P t).map zAV) fun vs=>bxX pos (some vs) dst (.box pos 0) σ K):=ij
@[go_sem ↓] theorem rW {parts}:opX P pos dst (.build t parts.toArray) σ K=Yu P (ti P t) fun fs=>Ac ((fs.all fun q=>decide (0<tsz P q.2))=true∧0<(tz P t).length) (BI ((tz P t).map zAV) fun vs=>BI (pvs σ parts) fun ps=>bpX P fs vs ps fun v=>K (σ.put dst v)):=io
@[go_sem ↓] theorem kF:opX P pos dst (.makeSlice t l c) σ K=slX (ti P t) fun e=>BI (σ.e l) fun u=>BI (σ.e c) fun v=>mkX P pos e u v dst σ K:=Yv
@[go_sem ↓] theorem su {L} {wL} {args} {ts}:opL P L pos dst (.call ⟨.value g,args.toArray,ts⟩) σ K wL=BI (σ.e g) fun u=>BI (evs σ args) fun vs=>clX P L pos u vs dst σ K wL:=lg
@[go_sem ↓] theorem rX:opX P pos dst (.store t a x) σ K=BI (σ.e a) fun u=>BI (cellsOf (σ.e x)) fun cs=>stX P t u cs σ fun σ'=>K (σ'.put dst .any):=ix
@[go_sem ↓] theorem pV:opX P pos dst (.call ⟨.builtin .append,List.toArray [x,y],List.toArray [t,t]⟩) σ K=slX (ti P t) fun e=>BI (σ.e x) fun u=>BI (σ.e y) fun v=>apX P pos e u v dst σ K:=fl
def apE (P:Program) (pos:Nat) (e:TypeId) (u v:AV) (dst:Option Tmp) (σ:St) (K:St→Prop):Prop:=a9 u=true∧match v with
 | .ro rows=>(0<tsz P e∧(tz P e).length =tsz P e)∧∃z,roZ z (tsz P e) rows fun rows=>(rows.length*P.bytesOf e≤140737488355328∧rows.length≤maxLen)∧look σ.t (pos*16)=none∧K ((σ.setT (pos*16) ⟨rows,some (tsz P e),0,z⟩).put dst (.own (pos*16)))
 |_=>False
theorem f7 {z} {sz} {rows} {K K'} (h:∀r,K r→K' r) (k:roZ z sz rows K):roZ z sz rows K':=by
 cases z
 ·exact⟨k.1,h _ k.2⟩
 ·exact⟨k.1,h _ k.2⟩
 ·exact⟨k.1,h _ k.2⟩
def roX (z:ZK) (sz:Nat) (rows:List (List D)) (K:List (List D)→Prop):Prop:=roZ z sz rows K
@[go_sem] theorem tU {sz} {rows} {K}:roX .no sz rows K=Ac (∀row ∈ rows,row.length=sz∧∀d ∈ row,d.flat=true) (K rows):=rfl
@[go_sem] theorem sv {e:TypeId} {u:AV} {rows:List (List D)}:apE P pos e u (.ro rows) dst σ K=Ac (a9 u=true) (Ac (0<tsz P e∧(tz P e).length =tsz P e) (zX fun z=>roX z (tsz P e) rows fun rows=>Ac (rows.length*P.bytesOf e≤140737488355328∧rows.length≤maxLen) (Ac (look σ.t (pos*16)=none) (Ro rows fun rows=>K ((σ.setT (pos*16) ⟨rows,some (tsz P e),0,z⟩).put dst (.own (pos*16))))))):=by simp only [ME]; rfl
@[go_sem ↓] theorem sw:opE P pos dst (.call ⟨.builtin .append,List.toArray [x,y],List.toArray [t,t]⟩) σ K=slX (ti P t) fun e=>BI (σ.e x) fun u=>BI (σ.e y) fun v=>apE P pos e u v dst σ K:=by
 unfold opE
 simp only [Ev,nm,slX,true_and,BI]
 generalize σ.e x=u
 generalize σ.e y=v
 refine propext ⟨?_,?_⟩
 ·rintro ⟨r,⟨h1,h2⟩,h3,h4,h5⟩
  split at h2
  ·rename_i el rows hel
   obtain⟨h6,z,h7⟩:=h2
   rw [hel]
   refine⟨h1,h6,z,f7 (fun rows h8=>?_) h7⟩
   obtain⟨h9,rfl⟩:=h8
   refine⟨h9,h3.1,?_⟩
   cases dst <;> exact h5
  grind
 ·intro h
  generalize hti:ti P t=q at h ⊢
  cases q with
  | sl el=>
   cases v with
   | ro rows=>
    obtain⟨h1,h6,z,h7⟩:=h
    cases z with
    |no=>
     obtain⟨h8,h9,h10,h5⟩:=h7
     exact⟨_,⟨h1,h6,.no,h8,h9,rfl⟩,⟨h10,trivial⟩,trivial,by cases dst <;> exact h5⟩
    |nl=>
     obtain⟨h8,h9,h10,h5⟩:=h7
     exact⟨_,⟨h1,h6,.nl,h8,h9,rfl⟩,⟨h10,trivial⟩,trivial,by cases dst <;> exact h5⟩
    |yes=>
     obtain⟨h8,h9,h10,h5⟩:=h7
     exact⟨_,⟨h1,h6,.yes,h8,h9,rfl⟩,⟨h10,trivial⟩,trivial,by cases dst <;> exact h5⟩
   |_=>exact h.2.elim
  |_=>exact h.elim
@[go_sem ↓] theorem sx {e:TypeId} {u v:AV}:apX P pos e u v dst σ K=Ac (0<tsz P e∧(tz P e).length =tsz P e) (zX fun z=>Ts z e (tsz P e) u σ fun rows σ1=>Mw z (tsz P e) v σ1 fun rows2 σ2=>
   Ac ((rows.length+rows2.length)*P.bytesOf e≤140737488355328∧rows.length+rows2.length≤maxLen) (Ac (look σ2.t (pos*16)=none) (Ro (rows++rows2) fun rows=>K ((σ2.setT (pos*16) ⟨rows,some (tsz P e),0,z⟩).put dst (.own (pos*16)))))):=by simp only [ME]; rfl
end
attribute [go_sem] zAV
section
variable {P:Program} {σ:St} {K:St→Prop} {ops:Array Oper} {base cut i:Nat}
@[go_sem] theorem ly {x} {xs b} {w1} {w2} {w3} {w4}:NG P ops base cut i (List.append (x::xs) b) σ K w1 w2 w3 w4=NG P ops base cut i (x::List.append xs b) σ K w1 ⟨⟩ w3 w4:=rfl
@[go_sem] theorem nc {b} {w1} {w2} {w3} {w4}:NG P ops base cut i (List.append [] b) σ K w1 w2 w3 w4=NG P ops base cut i b σ K w1 ⟨⟩ w3 w4:=rfl
@[go_sem ↓] theorem gu {b} {j} {K}:Sm (List.toArray (List.append [] b)) j K=Sm b.toArray j K:=rfl
end
end Go.Proofs.YtclmbjbbojdojaaGreat.Ab
