/-
  The abstract walk as rules, third part: memory, calls, results, loops.
-/
import Derived.Test.YtclmbjbbojdojaaGreatAbU
import Derived.IntWalk
namespace Go.Proofs.YtclmbjbbojdojaaGreat.Ab
set_option linter.unusedVariables false
set_option maxHeartbeats 1000000
open Go.RowKit
section
variable {P:Program} {σ:St} {K:St→Prop} {Q:AE→St→Prop}
def ou (t:TI):Prop:=match t with| .str =>True|_=>False
@[go_sem] theorem lH:ou .str =True:=rfl
@[go_sem] theorem iD {t} {rows} {K}:WZ P t (.ro rows) σ K=slX (ti P t) fun _=>K (.int .i64 rows.length):=by
 simp only [WZ,Rb,slX]
 generalize ti P t=q
 cases q <;> simp
@[go_sem] theorem eM {t} {b n sz} {K}:WZ P t (.bsl b n sz) σ K=slX (ti P t) fun _=>K (.int .i64 n):=by
 simp only [WZ,Rb,slX]
 generalize ti P t=q
 cases q <;> simp
@[go_sem] theorem eN {t} {t'} {K}:WZ P t (.own t') σ K=slX (ti P t) fun _=>optX (σ.T t') fun tk=>K (.int .i64 tk.rows.length):=by
 simp only [WZ,Rb,slX,optX]
 grind
def iE (t:TI) (K:TypeId→TypeId→Prop):Prop:=match t with| .map k e=>K k e|_=>False
@[go_sem] theorem lI {k e} {K}:iE (.map k e) K=K k e:=rfl
def eO (o:Option (List AV)) (K:KT→List (List D)→Prop):Prop:=∃q rows,o=some [.mpc q rows] ∧K q rows
@[go_sem] theorem jn {q} {rows} {K}:eO (some [.mpc q rows]) K=K q rows:=by
 grind [eO]
def TJ {α:Type} (v:α) (K:α→Prop):Prop:=∃y,v=y∧K y
theorem U3 {α:Type} {v:α} {K:α→Prop}:TJ v K=K v:=by simp [TJ]
def bxX (pos:Nat) (cs:Option (List AV)) (dst:Option Tmp) (v:AV) (σ:St) (K:St→Prop):Prop:=optX cs fun vs=>Af (look σ.b pos=none) (K ((σ.put dst v).setB pos vs))
def bxZ (pos:Nat) (cs:Option (List AV)) (dst:Option Tmp) (v:AV) (σ:St) (K:St→Prop):Prop:=bxX pos cs dst v σ K
theorem iF {pos} {cs} {dst} {v}:bxX pos cs dst v σ K=BL cs fun o=>bxZ pos o dst v σ K:=rfl
@[go_sem ↓] theorem lJ {pos} {vs} {dst} {v}:bxZ pos (some vs) dst v σ K=Af (look σ.b pos=none) (K ((σ.put dst v).setB pos vs)):=by simp [bxZ,bxX,optX]
theorem Jq {dst} {v} {pos} {vs}:σ.add dst ⟨v,[],[(pos,vs)]⟩=(σ.put dst v).setB pos vs:=by cases dst <;> rfl
attribute [go_sem] cellsOf
theorem lK {pos} {dst} {t} {x}:opX P pos dst (.box t x) σ K=bxX pos (cellsOf (σ.e x)) dst (.box pos 0) σ K:=by
 rw [P3 (fun _=>by rfl)]
 simp only [Ev,bxX]
 split
 ·rename_i vs h
  rw [h,Iv]
  refine propext ⟨?_,?_⟩
  ·rintro ⟨r,rfl,-,h1,h2⟩
   exact⟨h1.1,by rw [← Jq]; exact h2⟩
  ·rintro ⟨h1,h2⟩
   exact⟨_,rfl,trivial,⟨h1,trivial⟩,by rw [Jq]; exact h2⟩
 grind [UN]
theorem eP {pos} {dst} {t}:opX P pos dst (.alloc t) σ K=Af (0<(tz P t).length) (bxX pos (some ((tz P t).map zAV)) dst (.box pos 0) σ K):=by
 rw [P3 (fun _=>by rfl)]
 simp only [Ev,bxX,Iv,Af]
 refine propext ⟨?_,?_⟩
 ·rintro ⟨r,⟨vs,rfl,h0,rfl⟩,-,h1,h2⟩
  exact⟨h0,h1.1,by rw [← Jq]; exact h2⟩
 ·rintro ⟨h0,h1,h2⟩
  exact⟨_,⟨_,rfl,h0,rfl⟩,trivial,⟨h1,trivial⟩,by rw [Jq]; exact h2⟩
attribute [go_sem] zAV
def pvs (σ:St):List (Nat × Operand)→List (Nat × AV)
 | [] =>[]
 |x::xs=>(x.1,σ.e x.2)::pvs σ xs
theorem Yo {xs}:pvs σ xs=xs.map fun x=>(x.1,σ.e x.2):=by induction xs with|nil=>rfl|cons x xs ih=>simp [pvs,ih]
attribute [go_sem] pvs Dk
def bsX (P:Program) (pos:Nat) (e:TypeId) (n:Nat) (parts:List (Nat × AV)) (dst:Option Tmp) (σ:St) (K:St→Prop):Prop:=
 Af (parts.length=n∧n*tsz P e≤16777216∧0<tsz P e∧(tz P e).length =tsz P e) (bxX pos (Dk (tsz P e) 0 parts) dst (.bsl pos n (tsz P e)) σ K)
@[go_sem ↓] theorem eQ {pos} {dst} {t} {n} {parts}:opX P pos dst (.buildSlice t n parts.toArray) σ K=slX (ti P t) fun e=>BL (pvs σ parts) fun ps=>bsX P pos e n ps dst σ K:=by
 rw [P3 (fun _=>by rfl)]
 simp only [Ev,slX,BL,Yo]
 generalize ti P t=q
 split
 ·simp only [aw,bsX,bxX,Af]
  refine propext ⟨?_,?_⟩
  ·rintro ⟨r,⟨h1,h2,h3,h4,h5⟩,-,h6,h7⟩
   split at h5
   ·rename_i vs h8
    subst h5
    rw [h8,Iv]
    exact⟨⟨h1,h2,h3,h4⟩,h6.1,by rw [← Jq]; exact h7⟩
   grind
  ·rintro ⟨⟨h1,h2,h3,h4⟩,vs,h8,h6,h7⟩
   exact⟨⟨_,[],[(pos,vs)]⟩,⟨h1,h2,h3,h4,by rw [h8]⟩,trivial,⟨h6,trivial⟩,by rw [Jq]; exact h7⟩
 ·simp
attribute [go_sem] bsX
attribute [go_sem] LO
def Wa (P:Program) (t:TI) (K:List (Nat × TypeId)→Prop):Prop:=match t with| .st fs=>K fs| .arr n el=>Af (0<tsz P el) (K (LO (tsz P el) el n 0))|_=>False
@[go_sem] theorem eR {fs} {K}:Wa P (.st fs) K=K fs:=rfl
def bpX (P:Program) (fs:List (Nat × TypeId)) (vs:List AV) (ps:List (Nat × AV)) (K:AV→Prop):Prop:=∃ws,Kc P fs vs ps=some ws∧K (.agg ws)
@[go_sem] theorem eS {fs} {vs} {K}:bpX P fs vs [] K=K (.agg vs):=by simp [bpX,Kc]
@[go_sem] theorem bw {fs} {vs} {f} {v} {ps} {K}:bpX P fs vs ((f,v)::ps) K=optX fs[f]? fun q=>optX (cellsOf v) fun cs=>Af (cs.length=tsz P q.2 ∧q.1 +cs.length≤vs.length) (BL (splice vs q.1 cs) fun vs=>bpX P fs vs ps K):=by
 unfold bpX optX Af BL
 rw [Kc]
 grind
theorem eU {pos} {dst} {t} {parts}:opX P pos dst (.build t parts.toArray) σ K=Wa P (ti P t) fun fs=>Af ((fs.all fun q=>decide (0<tsz P q.2))=true∧0<(tz P t).length) (bpX P fs ((tz P t).map zAV) (pvs σ parts) fun v=>K (σ.put dst v)):=by
 rw [JI (p:=fun v=>Wa P (ti P t) fun fs=>Af ((fs.all fun q=>decide (0<tsz P q.2))=true∧0<(tz P t).length) (bpX P fs ((tz P t).map zAV) (pvs σ parts) fun u=>v=u)) (fun _=>by rfl) (fun r=>by
  simp only [Ev,Wa,Af,bpX,Yo]
  grind)]
 unfold Wa Af bpX
 grind
attribute [go_sem] zD zDs
@[go_sem] theorem lL {n}:leX n n=True:=eq_true (Int.le_refl n)
def zX (K:ZK→Prop):Prop:=∃z,K z
def zY (K:ZK→Prop) (_:Wrap K):Prop:=∃z,K z
@[go_sem ↓] theorem pi {K}:zX K=zY K ⟨⟩:=rfl
theorem C3 {K} {w} (z:ZK) (h:K z):zY K w:=⟨z,h⟩
def mkX (P:Program) (pos:Nat) (e:TypeId) (n m:AV) (dst:Option Tmp) (σ:St) (K:St→Prop):Prop:=match n,m with
 | .int .i64 n,.int .i64 m=>Af (leX n m) (Af (0≤n∧m.toNat*P.bytesOf e≤281474976710656∧m≤4611686018427387904) (Af (0<tsz P e∧(tz P e).length =tsz P e) (zX fun q=>optX (zDs q (tz P e)) fun z=>Af (look σ.t (pos*16)=none) (TJ (List.replicate n.toNat z) fun rows=>K ((σ.put dst (.own (pos*16))).setT (pos*16) ⟨rows,some (tsz P e),0,q⟩)))))
 |_,_=>False
@[go_sem] theorem eV {pos} {e} {n m} {dst}:mkX P pos e (.int .i64 n) (.int .i64 m) dst σ K=Af (leX n m) (Af (0≤n∧m.toNat*P.bytesOf e≤281474976710656∧m≤4611686018427387904) (Af (0<tsz P e∧(tz P e).length =tsz P e) (zX fun q=>optX (zDs q (tz P e)) fun z=>Af (look σ.t (pos*16)=none) (TJ (List.replicate n.toNat z) fun rows=>K ((σ.put dst (.own (pos*16))).setT (pos*16) ⟨rows,some (tsz P e),0,q⟩))))):=rfl
theorem Yp {dst} {v} {n} {tk}:σ.add dst ⟨v,[(n,tk)],[]⟩=(σ.put dst v).setT n tk:=by cases dst <;> rfl
theorem Wb {pos:Nat} {dst:Option Tmp} {t:TypeId} {l c:Operand}:opX P pos dst (.makeSlice t l c) σ K=slX (ti P t) fun e=>mkX P pos e (σ.e l) (σ.e c) dst σ K:=by
 rw [P3 (fun _=>by rfl)]
 simp only [Ev,slX,mkX]
 generalize ti P t=q
 cases q with
 | sl e=>
  generalize σ.e l=u
  generalize σ.e c=v
  split
  ·rename_i el n m h1
   cases h1
   simp only [fi,Af,optX,zX,U3]
   refine propext ⟨?_,?_⟩
   ·rintro ⟨r,⟨k1,k2,k3,k4,k5,k6,q,z,k7,rfl⟩,k8,-,k9⟩
    exact⟨k1,⟨k2,k3,k4⟩,⟨k5,k6⟩,q,z,k7,k8.1,by rw [← Yp]; exact k9⟩
   ·rintro ⟨k1,⟨k2,k3,k4⟩,⟨k5,k6⟩,q,z,k7,k8,k9⟩
    exact⟨⟨_,[(pos*16,⟨_,some (tsz P e),0,q⟩)],[]⟩,⟨k1,k2,k3,k4,k5,k6,q,z,k7,rfl⟩,⟨k8,trivial⟩,trivial,by rw [Yp]; exact k9⟩
  grind
 |_=>simp
def UO (P:Program) (L:Bool) (pos:Nat) (f:FuncId) (args:List AV) (as:Option (List AV)) (dst:Option Tmp) (σ:St) (K:St→Prop) (_:Wrap L):Prop:=
 ((∃bs rv,as=some bs∧AC P f bs rv∧Cz σ (conv (pos*16) rv).2 ∧K (σ.add dst ⟨(conv (pos*16) rv).1,(conv (pos*16) rv).2,[]⟩))∨
  ∃bs rv qt qb,AG P f bs [] [] rv qt qb∧cls (fun _=>none) (fun _=>none) args=some bs∧((qt=[] ∧Vi rv=true∧K (σ.add dst ⟨rv,[],[]⟩))∨(∃q tk,qt=[(q,tk)] ∧rv= .own q∧tk.gen=0∧look σ.t (pos*16)=none∧K (σ.add dst ⟨.own (pos*16),[(pos*16,tk)],[]⟩))∨(∃q k,rv= .box q k)∧K (σ.add dst ⟨.rop [] 0,[],[]⟩)))∨
 (L=true∧YP P f args σ fun v σ'=>K (σ'.put dst v))
@[go_sem] theorem lM:Mt [] =true:=rfl
@[go_sem] theorem lN {fs cs}:Mt (.agg fs::cs)=true:=rfl
@[go_sem] theorem nM {as}:fnA [] as=as:=List.append_nil as
@[go_sem] theorem nN {fs cs as}:fnA (.agg fs::cs) as=fs++(as++cs):=rfl
def clX (P:Program) (L:Bool) (pos:Nat) (g:AV) (args:List AV) (dst:Option Tmp) (σ:St) (K:St→Prop) (w:Wrap L):Prop:=match g with
 | .fn f caps=>Mt caps=true∧UO P L pos f (fnA caps args) (cls σ.T σ.B (fnA caps args)) dst σ K w
 |_=>False
@[go_sem] theorem iG {L} {wL} {pos} {f} {caps args} {dst}:clX P L pos (.fn f caps) args dst σ K wL=Af (Mt caps=true) (BL (fnA caps args) fun vs=>BL (cls σ.T σ.B vs) fun r=>UO P L pos f vs r dst σ K wL):=rfl
theorem iH {L} {wL} {pos} {dst} {g} {args} {ts}:opL P L pos dst (.call ⟨.value g,args.toArray,ts⟩) σ K wL=clX P L pos (σ.e g) (evs σ args) dst σ K wL:=by
 have h1:opX P pos dst (.call ⟨.value g,args.toArray,ts⟩) σ K=match σ.e g with
   | .fn f caps=>Mt caps=true∧((∃bs rv,cls σ.T σ.B (fnA caps (evs σ args))=some bs∧AC P f bs rv∧Cz σ (conv (pos*16) rv).2 ∧K (σ.add dst ⟨(conv (pos*16) rv).1,(conv (pos*16) rv).2,[]⟩))∨
     ∃bs rv qt qb,AG P f bs [] [] rv qt qb∧cls (fun _=>none) (fun _=>none) (fnA caps (evs σ args))=some bs∧((qt=[] ∧Vi rv=true∧K (σ.add dst ⟨rv,[],[]⟩))∨(∃q tk,qt=[(q,tk)] ∧rv= .own q∧tk.gen=0∧look σ.t (pos*16)=none∧K (σ.add dst ⟨.own (pos*16),[(pos*16,tk)],[]⟩))∨(∃q k,rv= .box q k)∧K (σ.add dst ⟨.rop [] 0,[],[]⟩)))
   |_=>False:=by
  rw [P3 (fun _=>by rfl)]
  simp only [Ev,Rd,U2]
  generalize σ.e g=v
  split
  ·refine propext ⟨?_,?_⟩
   ·rintro ⟨r,⟨ho,h1⟩,h2,-,h4⟩
    refine⟨ho,?_⟩
    rcases h1 with h1|h1
    ·grind
    ·obtain⟨as,rv,qt,qb,h5,h6,h7⟩:=h1
     rcases h7 with ⟨h7,h8,rfl⟩|⟨q,tk,h7,h8,h9,rfl⟩|⟨h7,rfl⟩
     ·grind
     ·exact .inr ⟨as,rv,qt,qb,h5,h6,.inr (.inl ⟨q,tk,h7,h8,h9,h2.1,h4⟩)⟩
     grind
   ·rintro ⟨ho,h⟩
    rcases h with (⟨bs,rv,h1,h5,h2,h4⟩|⟨bs,rv,qt,qb,h5,h6,⟨h7,h8,h4⟩|⟨q,tk,h7,h8,h9,h2,h4⟩|⟨h7,h4⟩⟩)
    ·exact⟨⟨(conv (pos*16) rv).1,(conv (pos*16) rv).2,[]⟩,⟨ho,.inl (by rw [h1]; grind)⟩,h2,trivial,h4⟩
    ·exact⟨⟨rv,[],[]⟩,⟨ho,.inr ⟨bs,rv,qt,qb,h5,h6,.inl ⟨h7,h8,rfl⟩⟩⟩,trivial,trivial,h4⟩
    ·exact⟨⟨.own (pos*16),[(pos*16,tk)],[]⟩,⟨ho,.inr ⟨bs,rv,qt,qb,h5,h6,.inr (.inl ⟨q,tk,h7,h8,h9,rfl⟩)⟩⟩,⟨h2,trivial⟩,trivial,h4⟩
    ·exact⟨⟨.rop [] 0,[],[]⟩,⟨ho,.inr ⟨bs,rv,qt,qb,h5,h6,.inr (.inr ⟨h7,rfl⟩)⟩⟩,trivial,trivial,h4⟩
  ·simp
 have h2:opL P L pos dst (.call ⟨.value g,args.toArray,ts⟩) σ K wL=(opX P pos dst (.call ⟨.value g,args.toArray,ts⟩) σ K∨(L=true∧Mv P ⟨dst,.call ⟨.value g,args.toArray,ts⟩,0, "",#[],none⟩ σ K)):=by
  have h3:Ri σ ⟨dst,.call ⟨.value g,args.toArray,ts⟩,0, "",#[],none⟩=false:=rfl
  grind [QX,TC,opL,TD,opX]
 rw [h2,h1]
 grind [clX,UO,Mv,U2]
attribute [go_sem] cl cls toD toDs toA toAs Fi EN Option.map_some Option.map_none
theorem eW {pos} {f} {args bs} {dst} {rv} (h:AC P f bs rv) (hf:Cz σ (conv (pos*16) rv).2) (hk:K (σ.add dst ⟨(conv (pos*16) rv).1,(conv (pos*16) rv).2,[]⟩)) {L} {wL}:UO P L pos f args (some bs) dst σ K wL:=
 .inl (.inl ⟨bs,rv,rfl,h,hf,hk⟩)
@[go_sem] theorem iI:Cz σ [] =True:=rfl
@[go_sem] theorem f8 {n} {tk} {l}:Cz σ ((n,tk)::l)=(look σ.t n=none∧Cz σ l):=rfl
attribute [go_sem] conv HB addT addB
@[go_sem] theorem lO {s t b} {d} {r}:St.add ⟨s,t,b⟩ (some d) r=⟨(d,r.v)::s,addT t r.t,addB b r.b⟩:=rfl
@[go_sem] theorem lP {s t b} {r}:St.add ⟨s,t,b⟩ none r=⟨s,addT t r.t,addB b r.b⟩:=rfl
section
variable {z:ZK}
@[go_sem] theorem eX {K}:BW z [] σ K=K [] σ:=by rw [BW]
@[go_sem] theorem eY {k} {n} {vs} {K}:BW z (.int k n::vs) σ K=BW z vs σ fun ds σ'=>K (.int k n::ds) σ':=by rw [BW]
@[go_sem] theorem bz {b} {vs} {K}:BW z (.bool b::vs) σ K=BW z vs σ fun ds σ'=>K (.bool b::ds) σ':=by rw [BW]
@[go_sem] theorem ov:AZ .no = .sl [] :=rfl
@[go_sem] theorem oz:AZ .yes = .fz [] :=rfl
@[go_sem] theorem o0:AZ .nl = .nl :=rfl
@[go_sem] theorem iJ {rows} {vs} {K}:BW z (.ro rows::vs) σ K=Af (z= .yes) (BW z vs σ fun ds σ'=>K (.fz rows::ds) σ'):=by rw [BW]; rfl
@[go_sem] theorem eZ {b n sz} {vs} {K}:BW z (.bsl b n sz::vs) σ K=if n=0 then BW z vs σ fun ds σ'=>K (AZ z::ds) σ' else ZL z b n sz σ fun rows σ1=>BW z vs σ1 fun ds σ'=>K (.sl rows::ds) σ':=by rw [BW]
@[go_sem ↓] theorem nO {b n sz} {K}:ZL z b n sz σ K=Af (1000≤b) (Af (0<sz) (optX (σ.B b) fun vs=>optX (K3 z vs) fun ds=>Af (ds.length=n*sz) (BL (BP sz n ds) fun rows=>K rows (σ.killB b)))):=rfl
@[go_sem] theorem lQ {s t b} {x}:St.killB ⟨s,t,b⟩ x=⟨s,t,(x,none)::b⟩:=rfl
attribute [go_sem] NJ litD K3 unD unDs
@[go_sem] theorem ec {t} {vs} {K}:BW z (.own t::vs) σ K=optX (σ.T t) fun tk=>Af (okZ z tk=true) (BW z vs (σ.killT t) fun ds σ'=>K (.sl tk.rows::ds) σ'):=by rw [BW]; rfl
end
def stX (P:Program) (t:TypeId) (a:AV) (cs:Option (List AV)) (σ:St) (K:St→Prop):Prop:=
 optX cs fun cs=>Af (cs.length=tsz P t∧0<tsz P t∧cs.all AV.one=true) (match a with
  | .box b off=>∃vs,σ.B b=some vs∧isMp vs=false∧off+cs.length≤vs.length∧K (σ.setB b (splice vs off cs))
  | .elt t' sz i off=>∃tk0,σ.T t'=some tk0∧BW tk0.z cs σ fun ds σ'=>∃tk row,(σ'.T t'=some tk∧tk.z=tk0.z)∧tk.rows[i]? =some row∧row.length=sz∧off+ds.length≤sz∧K (σ'.setT t' ⟨tk.rows.set i (splice row off ds),tk.sz,if EO row off ds=true then tk.gen else tk.gen+1,tk.z⟩)
  | .els t' g p sz i off=>BW .no cs σ fun ds σ'=>∃rows,subR σ'.T t' g p=some rows∧∃row,rows[i]? =some row∧(p≠ [] ∧row.length=sz∧off+ds.length≤sz∧EO row off ds=true)∧∃tk,σ'.T t'=some tk∧K (σ'.setT t' ⟨putR p tk.rows (.sl (rows.set i (splice row off ds))),tk.sz,tk.gen,tk.z⟩)
  |_=>False)
theorem ef {pos} {dst} {t} {a x}:opX P pos dst (.store t a x) σ K=stX P t (σ.e a) (cellsOf (σ.e x)) σ fun σ'=>K (σ'.put dst .any):=by
 grind [opX,aop,NK,stX,Iv,Af,UN]
@[go_sem] theorem eh {t} {b off} {cs}:stX P t (.box b off) (some cs) σ K=Af (cs.length=tsz P t∧0<tsz P t∧cs.all AV.one=true) (optX (σ.B b) fun vs=>Af (isMp vs=false) (Af (off+cs.length≤vs.length) (BL (splice vs off cs) fun vs'=>K (σ.setB b vs')))):=by
 rw [stX,Iv]; rfl
@[go_sem] theorem ei {t:TypeId} {t' sz i off:Nat} {cs:List AV}:stX P t (.elt t' sz i off) (some cs) σ K=Af (cs.length=tsz P t∧0<tsz P t∧cs.all AV.one=true) (optX (σ.T t') fun tk0=>BW tk0.z cs σ fun ds σ'=>optX (σ'.T t') fun tk=>Af (tk.z=tk0.z) (optX tk.rows[i]? fun row=>Af (row.length=sz∧off+ds.length≤sz) (TJ (tk.rows.set i (splice row off ds)) fun rows=>K (σ'.setT t' ⟨rows,tk.sz,if EO row off ds=true then tk.gen else tk.gen+1,tk.z⟩)))):=by
 rw [stX,Iv]
 grind [Af,optX,U3]
section
variable {z:ZK}
@[go_sem] theorem aB {e} {sz} {K}:Re z e sz .nils σ K=K [] σ:=rfl
@[go_sem] theorem cB {e} {sz b n sz'} {K}:Re z e sz (.bsl b n sz') σ K=if n=0 then K [] σ else Af (sz'=sz) (ZL z b n sz σ K):=rfl
@[go_sem] theorem cC {e} {sz t} {K}:Re z e sz (.own t) σ K=optX (σ.T t) fun tk=>Af (tk.sz=some sz∧okZ z tk=true) (K tk.rows (σ.killT t)):=rfl
@[go_sem] theorem aC {sz} {K}:NL z sz .nils σ K=K [] σ:=rfl
@[go_sem] theorem cD {sz b n sz'} {K}:NL z sz (.bsl b n sz') σ K=optX (σ.B b) fun vs=>Af (sz'=sz∧vs.length=n*sz∧vs.all AV.one=true) (BW z vs σ fun ds σ'=>BL (BP sz n ds) fun rows=>K rows σ'):=by
 simp only [NL,optX,Af,BL]
 grind
@[go_sem] theorem ek {sz} {rows} {K}:NL .no sz (.ro rows) σ K=Af (∀row ∈ rows,row.length=sz∧∀d ∈ row,d.flat=true) (K rows σ):=rfl
@[go_sem] theorem lR {sz} {rows} {K}:NL .nl sz (.ro rows) σ K=Af (∀row ∈ rows,row.length=sz∧∀d ∈ row,d.flat=true) (K rows σ):=rfl
@[go_sem] theorem cE {sz t} {K}:NL z sz (.own t) σ K=optX (σ.T t) fun tk=>Af (okZ z tk=true) (Af (∀row ∈ tk.rows,row.length=sz) (K tk.rows (σ.killT t))):=by
 grind [NL,optX,Af]
end
attribute [go_sem] BP
def apX (P:Program) (pos:Nat) (e:TypeId) (x y:AV) (dst:Option Tmp) (σ:St) (K:St→Prop):Prop:=
 Af (0<tsz P e∧(tz P e).length =tsz P e) (zX fun z=>Re z e (tsz P e) x σ fun rows σ1=>NL z (tsz P e) y σ1 fun rows2 σ2=>
   Af ((rows.length+rows2.length)*P.bytesOf e≤140737488355328∧rows.length+rows2.length≤maxLen) (Af (look σ2.t (pos*16)=none) (K ((σ2.setT (pos*16) ⟨rows++rows2,some (tsz P e),0,z⟩).put dst (.own (pos*16))))))
theorem cF {pos} {dst} {x y} {t}:opX P pos dst (.call ⟨.builtin .append,List.toArray [x,y],List.toArray [t,t]⟩) σ K=slX (ti P t) fun e=>apX P pos e (σ.e x) (σ.e y) dst σ K:=by
 unfold opX
 simp only [aop,XQ,slX,true_and]
 generalize ti P t=q
 split
 ·rename_i e
  show (0<tsz P e∧(tz P e).length =tsz P e∧_)=((0<tsz P e∧(tz P e).length =tsz P e)∧_)
  rw [and_assoc]
  congr 1
  congr 1
  show (∃z,_)=(∃z,_)
  congr 1
  funext z
  congr 1
  funext rows σ1
  congr 1
  funext rows2 σ2
  show (_∧_∧_∧_)=((_∧_)∧_∧_)
  rw [and_assoc]
 grind
end
attribute [go_sem ↓] iF
attribute [go_sem ↓] iD eM eN eR eS bw eV iG eX eY bz iJ eZ ec eh ei aB cB cC aC cD ek cE
end Go.Proofs.YtclmbjbbojdojaaGreat.Ab
namespace Go.Proofs.YtclmbjbbojdojaaGreat.Ab
set_option linter.unusedVariables false
open Go.RowKit
section
variable {P:Program} {σ:St} {K:St→Prop} {Q:AE→St→Prop}
@[go_sem] theorem iK {n} (h1: -9223372036854775808≤n) (h2:n≤9223372036854775807):IntKind.i64.wrap n=n:=Go.IntWalk.i64_in n ⟨h1,h2⟩
@[go_sem ↓] theorem lS {K}:Mi P σ [] K=K [] :=rfl
@[go_sem ↓] theorem lT {t} {l} {K}:Mi P σ (.tmp t::l) K=BL (σ.g t) fun v=>Mi P σ l fun vs=>K (v::vs):=rfl
@[go_sem ↓] theorem jo {a} {t} {l} {K}:Mi P σ (.cell a t::l) K=Ll P t (σ.g a) σ fun v=>Mi P σ l fun vs=>K (v::vs):=rfl
@[go_sem] theorem em {k} {n m}:Df (.int k n) (.int k m) σ K=Af (n=m) (K σ):=by simp [Df,Af]
@[go_sem] theorem cG {b c}:Df (.bool b) (.bool c) σ K=Af (b=c) (K σ):=by rfl
@[go_sem] theorem en {s s'}:Df (.str s) (.str s') σ K=Af (s=s') (K σ):=by rfl
@[go_sem] theorem cH:Df .nilp .nilp σ K=K σ:=by rfl
@[go_sem] theorem cI {ap} {rows}:Df .nils (.ow ap rows) σ K=Af (rows=[]) (K σ):=by rfl
@[go_sem] theorem eo {b n sz} {ap} {rows}:Df (.bsl b n sz) (.ow ap rows) σ K=Af (n=0) (Af (rows=[]) (K σ)):=by rfl
@[go_sem] theorem ep {t} {ap} {rows}:Df (.own t) (.ow ap rows) σ K=optX (σ.T t) fun tk=>Af (tk.rows=rows) (Af (ap=none∨tk.sz=ap) (Af (tk.z= .no) (K (σ.killT t)))):=by rfl
@[go_sem] theorem eq {rows rows'}:Df (.ro rows) (.ro rows') σ K=Af (rows=rows') (K σ):=by rfl
@[go_sem] theorem eu {vs} {rs}:Df (.agg vs) (.agg rs) σ K=KE vs rs σ K:=by rfl
@[go_sem] theorem ew {vs} {rs}:Df (.tup vs) (.tup rs) σ K=KE vs rs σ K:=by rfl
@[go_sem] theorem cJ:KE [] [] σ K=K σ:=by rfl
@[go_sem] theorem aD {v} {vs} {r} {rs}:KE (v::vs) (r::rs) σ K=Df v r σ fun σ'=>KE vs rs σ' K:=by rfl
def aE (r:RV) (σ:St) (vs:List AV):Prop:=match vs with
 | [v] =>Df v r σ fun _=>True
 |vs=>Df (.tup vs) r σ fun _=>True
@[go_sem ↓] theorem nP {r}:aE r σ [] =Df (.tup []) r σ fun _=>True:=rfl
@[go_sem ↓] theorem nQ {r} {v}:aE r σ [v] =Df v r σ fun _=>True:=rfl
@[go_sem ↓] theorem nR {r} {v u} {vs}:aE r σ (v::u::vs)=Df (.tup (v::u::vs)) r σ fun _=>True:=rfl
def endX (P:Program) (l:List ResultVar) (r:RV) (q:AE) (σ:St):Prop:=match q with| .exit _=>False|_=>Mi P σ l (aE r σ)
@[go_sem ↓] theorem iL {l} {r}:endX P l r .normal σ=Mi P σ l (aE r σ):=rfl
@[go_sem ↓] theorem nS {l} {r}:endX P l r .ret σ=Mi P σ l (aE r σ):=rfl
theorem lU (hm:P.follows .mixedOrders =true) {f} {fn} {c} {l} {args} {r} (hf:P.funcs[f]? =some fn) (hb:fn.body=some c) (hr:fn.results=l.toArray) (hnm:(fn.name == "runtime.NumGoroutine")=false)
  (hn:decide (args.length≤fn.ntmps)=true) (hok:GM fn.ntmps c=true) (h:awp P c (endX P l r) (st0 args)):AC P f args r:=by
 refine Xr hm hf hb hnm (of_decide_eq_true hn) hok ?_
 have e:endQ P fn.results.toList r=endX P l r:=by
  rw [hr]
  funext q σ
  cases q <;> rfl
 rw [e]
 exact h
attribute [go_sem] st0 SO
def cK {X:Type} (R:X→Prop) (inv:X→St) (μ:X→Nat) (x:X) (σ:St):Prop:=∃x',dO σ (inv x')∧R x'∧μ x'<μ x
def iM {X:Type} (R:X→Prop) (inv:X→St) (μ:X→Nat) (x:X) (σ:St) (_:Wrap R) (_:Wrap inv) (_:Wrap μ) (_:Wrap x):Prop:=cK R inv μ x σ
@[go_sem ↓] theorem jp {X:Type} {R:X→Prop} {inv:X→St} {μ:X→Nat} {x:X} {σ:St}:cK R inv μ x σ=iM R inv μ x σ ⟨⟩ ⟨⟩ ⟨⟩ ⟨⟩:=rfl
attribute [go_sem] Kd Vm Rj Rk ren rens GP HD List.nodup_nil List.all_nil List.all_cons AV.int.injEq AV.bool.injEq AV.str.injEq AV.ro.injEq AV.rop.injEq AV.agg.injEq AV.fn.injEq AV.own.injEq AV.box.injEq AV.bsl.injEq AV.elt.injEq List.cons.injEq Tok.mk.injEq Option.isSome_some exists_eq_left' exists_eq_left
end
attribute [go_sem ↓] em cG en cH cI eo ep eq eu ew cJ aD
end Go.Proofs.YtclmbjbbojdojaaGreat.Ab
namespace Go.Proofs.YtclmbjbbojdojaaGreat.Ab
set_option linter.unusedVariables false
open Go.RowKit
section
variable {P:Program} {σ:St} {K:St→Prop} {pos:Nat} {dst:Option Tmp} {t t' s d:TypeId} {x y a b c g l:Operand} {f i:Nat} {op:BinOp}
def slY (t:TI) (K:TypeId→Prop) (_:Wrap K):Prop:=slX t K
@[go_sem ↓] theorem o3 {t} {K}:slX t K=slY t K ⟨⟩:=rfl
@[go_sem] theorem o4 {e} {K} {w}:slY (.sl e) K w=K e:=rfl
def gA (t:TI) (K:IntKind→Prop) (_:Wrap K):Prop:=bu t K
@[go_sem ↓] theorem lV {t} {K}:bu t K=gA t K ⟨⟩:=rfl
@[go_sem] theorem jq {k} {K} {w}:gA (.int k) K w=K k:=rfl
def stY (P:Program) (t:TI) (K:List (Nat × TypeId)→Prop) (_:Wrap K):Prop:=Wa P t K
@[go_sem ↓] theorem o5 {t} {K}:Wa P t K=stY P t K ⟨⟩:=rfl
@[go_sem] theorem o6 {fs} {K} {w}:stY P (.st fs) K w=K fs:=rfl
@[go_sem] theorem nT {n} {el} {K} {w}:stY P (.arr n el) K w=Af (0<tsz P el) (BL (LO (tsz P el) el n 0) K):=rfl
def cL (rows:List (List D)) (n:Int) (sz:Nat) (K:List D→Prop) (_:Wrap K):Prop:=WX rows n sz K
@[go_sem ↓] theorem nU {rows} {n} {sz} {K}:WX rows n sz K=cL rows n sz K ⟨⟩:=rfl
def lW {α:Type} (v:α) (K:α→Prop) (_:Wrap K):Prop:=TJ v K
@[go_sem ↓] theorem nV {α:Type} {v:α} {K:α→Prop}:TJ v K=lW v K ⟨⟩:=rfl
theorem Bo {α:Type} {v} {K} {w} (y:α) (h:v=y) (hk:K y):lW v K w:=⟨y,h,hk⟩
def J1 (n:Nat) (rs:List RV) (K:List AV→List (Nat × Tok)→Prop) (_:Wrap K):Prop:=K (HB n rs).1 (HB n rs).2
def cv1 (n:Nat) (r:RV) (K:AV→List (Nat × Tok)→Prop):Prop:=K (conv n r).1 (conv n r).2
section
variable {n:Nat} {rs us:List RV} {L:List AV→List (Nat × Tok)→Prop} {L1:AV→List (Nat × Tok)→Prop} {w:Wrap L}
@[go_sem] theorem fA:J1 n [] L w=L [] [] :=rfl
@[go_sem] theorem fB {k} {x}:J1 n (.int k x::rs) L w=J1 n rs (fun vs ts=>L (.int k x::vs) ts) ⟨⟩:=by rfl
@[go_sem] theorem cM {b}:J1 n (.bool b::rs) L w=J1 n rs (fun vs ts=>L (.bool b::vs) ts) ⟨⟩:=by rfl
@[go_sem] theorem fC {x}:J1 n (.str x::rs) L w=J1 n rs (fun vs ts=>L (.str x::vs) ts) ⟨⟩:=by rfl
@[go_sem] theorem iN {x}:J1 n (.ro x::rs) L w=J1 n rs (fun vs ts=>L (.any ::vs) ts) ⟨⟩:=by rfl
@[go_sem] theorem cO:J1 n (.nilp ::rs) L w=J1 n rs (fun vs ts=>L (.nilp ::vs) ts) ⟨⟩:=by rfl
@[go_sem] theorem iO {ap} {x}:J1 n (.ow ap x::rs) L w=J1 (n+1) rs (fun vs ts=>L (.own n::vs) ((n,⟨x,ap,0,.no⟩)::ts)) ⟨⟩:=by rfl
@[go_sem] theorem fD:J1 n (.agg us::rs) L w=J1 n us (fun ws ts=>J1 (n+ts.length) rs (fun vs ts'=>L (.agg ws::vs) (ts++ts')) ⟨⟩) ⟨⟩:=by rfl
@[go_sem] theorem fE:J1 n (.tup us::rs) L w=J1 n us (fun ws ts=>J1 (n+ts.length) rs (fun vs ts'=>L (.tup ws::vs) (ts++ts')) ⟨⟩) ⟨⟩:=by rfl
@[go_sem ↓] theorem nW {k} {x}:cv1 n (.int k x) L1=L1 (.int k x) [] :=rfl
@[go_sem ↓] theorem lX {b}:cv1 n (.bool b) L1=L1 (.bool b) [] :=rfl
@[go_sem ↓] theorem nX {x}:cv1 n (.str x) L1=L1 (.str x) [] :=rfl
@[go_sem ↓] theorem o7 {x}:cv1 n (.ro x) L1=L1 .any [] :=rfl
@[go_sem ↓] theorem lY:cv1 n .nilp L1=L1 .nilp [] :=rfl
@[go_sem ↓] theorem o8 {ap} {x}:cv1 n (.ow ap x) L1=L1 (.own n) [(n,⟨x,ap,0,.no⟩)] :=rfl
@[go_sem ↓] theorem nY:cv1 n (.agg us) L1=J1 n us (fun ws ts=>L1 (.agg ws) ts) ⟨⟩:=by rfl
@[go_sem ↓] theorem nZ:cv1 n (.tup us) L1=J1 n us (fun ws ts=>L1 (.tup ws) ts) ⟨⟩:=by rfl
end
attribute [go_sem ↓] fA fB cM fC iN cO iO fD fE
def UP (P:Program) (L:Bool) (pos:Nat) (f:FuncId) (args:List AV) (as:Option (List AV)) (dst:Option Tmp) (σ:St) (K:St→Prop) (_:Wrap K) (w:Wrap L):Prop:=UO P L pos f args as dst σ K w
@[go_sem ↓] theorem lZ {L} {wL} {f} {args} {as}:UO P L pos f args as dst σ K wL=UP P L pos f args as dst σ K ⟨⟩ wL:=rfl
theorem AK {f} {args bs} {w} {rv} (h:AC P f bs rv) (hk:BL (pos*16) fun m=>cv1 m rv fun v ts=>Af (Cz σ ts) (K (σ.add dst ⟨v,ts,[]⟩))) {L} {wL}:UP P L pos f args (some bs) dst σ K w wL:=eW h hk.1 hk.2
attribute [go_sem] Vi
def Yq (y:Way) (as:List AV) (pt:List (Nat × Tok)) (pb:List (Nat × List AV)) (qt:List (Nat × Tok)) (qb:List (Nat × List AV)):Bool:=
 decide (((y.rt++y.nt).map (·.2)).Nodup)&&decide (((y.rt++y.nt).map (·.1)).Nodup)&&decide (((y.rb.map (·.2.1))++y.nb.map (·.2)).Nodup)&&decide (((y.rb.map (·.1))++y.nb.map (·.1)).Nodup)&&
 (y.rt.all fun p=>(look pt p.1).isSome)&&(y.rb.all fun p=>(look pb p.1).isSome)&&(y.nt.all fun p=>(look pt p.1).isNone)&&(y.nb.all fun p=>(look pb p.1).isNone)&&decide ((pt.map (·.1)).Nodup)&&decide ((pb.map (·.1)).Nodup)&&
 (pb.all fun p=>(look qb p.1).isSome)&&LQ y.rt y.cv&&(y.md||noZ qt)&&ay as pt pb&&(y.rt.all fun p=>decide (p.1 <1000)||(look qt p.1).isNone)
def SV:List (Nat × Nat)→List (Nat × Option Tok)→Prop
 | [],_=>True
 |(_,n)::r,t=>look t n=none∧SV r t
def Oh:List (Nat × Nat)→List (Nat × Option (List AV))→Prop
 | [],_=>True
 |(_,n)::r,t=>look t n=none∧Oh r t
def Yr (y:Way) (args as:List AV) (pt:List (Nat × Tok)) (pb:List (Nat × List AV)) (σ1:St):Prop:=
 SV y.nt σ1.t∧Oh y.nb σ1.b∧QV y.rt σ1 pt∧HC y σ1 (σ1.less y) pb∧PasL y (σ1.less y) args as
theorem Ql {t}:∀ {l},SV l t→∀p ∈ l,(look t p.2).isNone =true
 | [],_,p,h=>by cases h
 |(c,n)::l,hf,p,h=>by
  simp only [SV] at hf
  rcases List.mem_cons.1 h with rfl|h
  ·rw [hf.1]; rfl
  ·exact Ql hf.2 p h
theorem Oi {t}:∀ {l},Oh l t→∀p ∈ l,(look t p.2).isNone =true
 | [],_,p,h=>by cases h
 |(c,n)::l,hf,p,h=>by
  simp only [Oh] at hf
  rcases List.mem_cons.1 h with rfl|h
  ·rw [hf.1]; rfl
  ·exact Oi hf.2 p h
theorem cP {f} {args} {σ} {as} {pt} {pb} {r} {qt} {qb} {K} (y:Way) (h:AG P f as pt pb r qt qb) (hB:Yq y as pt pb qt qb=true)
  (hc:D5 y.cv σ fun σ1=>Af (Yr y args as pt pb σ1) (C0 y.cv (σ1.after y qt qb) fun σ2=>K (bak y r) σ2)):To P f args σ K:=by
 refine⟨y,as,pt,pb,r,qt,qb,h,JG (fun σ1 h=>?_) hc⟩
 unfold Yq at hB
 simp only [Bool.and_eq_true,decide_eq_true_eq,and_assoc] at hB
 obtain⟨b1,b2,b3,b4,b5,b6,b7,b8,b9,b10,b11,b12,bm,b13,b14⟩:=hB
 obtain⟨⟨h1,h2,h3,h4,h5⟩,h6⟩:=h
 refine⟨⟨b1,b2,b3,b4,b5,b6,?_,?_,b9,b10⟩,h3,h4,h5,b11,⟨b12,bm⟩,b13,b14,h6⟩
 ·rw [List.all_eq_true] at b7 ⊢
  intro p hp
  rw [b7 p hp,Ql h1 p hp]; rfl
 ·rw [List.all_eq_true] at b8 ⊢
  intro p hp
  rw [b8 p hp,Oi h2 p hp]; rfl
theorem iP {L} {wL} {f} {args} {o} {w} {as} {pt} {pb} {r} {qt} {qb} (y:Way) (hL:L=true) (h:AG P f as pt pb r qt qb) (hB:Yq y as pt pb qt qb=true)
  (hc:D5 y.cv σ fun σ1=>Af (Yr y args as pt pb σ1) (C0 y.cv (σ1.after y qt qb) fun σ2=>K (σ2.put dst (bak y r)))):UP P L pos f args o dst σ K w wL:=.inr ⟨hL,[],cP (K:=fun v σ'=>K (σ'.put dst v)) y h hB hc⟩
@[go_sem ↓] theorem na {args} {K}:FzK [] args σ K=K args σ:=rfl
@[go_sem ↓] theorem lb {b} {r} {args} {s} {t} {bb} {K}:FzK (b::r) args ⟨s,t,bb⟩ K=optX ((look bb b).join) fun vs=>Af (1000≤b∧isMp vs=false) (BL (args.map (fzA b vs)) fun args'=>FzK r args' ⟨s,t,(b,none)::bb⟩ K):=rfl
section
variable {b:Nat} {vs:List AV}
@[go_sem] theorem nc {x n sz}:fzA b vs (.bsl x n sz)=(cl (fun _=>none) (only b vs) (.bsl x n sz)).getD (.bsl x n sz):=rfl
@[go_sem] theorem nf {x off}:fzA b vs (.box x off)=(cl (fun _=>none) (only b vs) (.box x off)).getD (.box x off):=rfl
@[go_sem] theorem ng {us}:fzA b vs (.agg us)=(cl (fun _=>none) (only b vs) (.agg us)).getD (.agg us):=rfl
@[go_sem] theorem nh {k} {n}:fzA b vs (.int k n)= .int k n:=rfl
@[go_sem] theorem lc {x}:fzA b vs (.bool x)= .bool x:=rfl
@[go_sem] theorem ni {x}:fzA b vs (.str x)= .str x:=rfl
@[go_sem] theorem o9 {x}:fzA b vs (.ro x)= .ro x:=rfl
@[go_sem] theorem nj {x}:fzA b vs (.own x)= .own x:=rfl
@[go_sem] theorem nk {x} {off}:fzA b vs (.rop x off)= .rop x off:=rfl
@[go_sem] theorem nm {t sz i off}:fzA b vs (.elt t sz i off)= .elt t sz i off:=rfl
@[go_sem] theorem pA {f} {x}:fzA b vs (.fn f x)= .fn f x:=rfl
@[go_sem] theorem ld:fzA b vs .nilp = .nilp :=rfl
@[go_sem] theorem lf:fzA b vs .nils = .nils :=rfl
@[go_sem] theorem np {x}:fzA b vs (.mpr x)= .mpr x:=rfl
@[go_sem] theorem nq:fzA b vs .any = .any :=rfl
end
attribute [go_sem] Option.getD_some Option.getD_none Option.join_some Option.bind_some Option.bind_none only
attribute [go_sem] ne_eq true_imp_iff implies_true false_imp_iff EO D.flat kept Yr SV Oh QV St.less QW Rf Rg Rh XR XS St.after bak baks HC
@[go_sem ↓] theorem jr:D5 [] σ K=K σ:=by rw [D5]
@[go_sem ↓] theorem nr:C0 [] σ K=K σ:=by rw [C0]
def unX (n:Nat) (K:St→Prop) (σ:St):Prop:=K {σ with t:=(n,none)::σ.t}
@[go_sem ↓] theorem pB {n} {s} {t} {b}:unX n K ⟨s,t,b⟩=K ⟨s,(n,none)::t,b⟩:=rfl
def unO (o:Option Tok) (n t' g:Nat) (p:Pth) (K:St→Prop) (σ:St):Prop:=match o with
 |some tn=>Af (n≠t') (optX (σ.T t') fun tk=>Af (okZ tk.z tn=true) (Af (Pi p tk.rows=some .gone) (TJ (putR p tk.rows (.sl tn.rows)) fun rows=>K ⟨σ.s,(n,none)::(t',some ⟨rows,tk.sz,if tn.gen=0∧tk.gen=g then g else tk.gen+tn.gen+1,tk.z⟩)::σ.t,σ.b⟩)))
 |none=>K σ
@[go_sem] theorem lg {n t' g} {p} {tn}:unO (some tn) n t' g p K σ=Af (n≠t') (optX (σ.T t') fun tk=>Af (okZ tk.z tn=true) (Af (Pi p tk.rows=some .gone) (TJ (putR p tk.rows (.sl tn.rows)) fun rows=>K ⟨σ.s,(n,none)::(t',some ⟨rows,tk.sz,if tn.gen=0∧tk.gen=g then g else tk.gen+tn.gen+1,tk.z⟩)::σ.t,σ.b⟩))):=rfl
@[go_sem] theorem lh {n t' g} {p}:unO none n t' g p K σ=K σ:=rfl
theorem iQ {rows r} {sz i j} {row} {d} (h:rows[i]? =some row) (hl:row.length=sz) (hj:row[j]? =some d) (hd:HZ d=some r):getP [(sz,i,j)] rows=some r:=by
 rw [getP,h]
 simp [hl,hj,hd,getP]
theorem cQ {rows r} {sz i j} {row} (h:rows[i]? =some row) (hl:row.length=sz) (hj:row[j]? =some (.sl r)):getP [(sz,i,j)] rows=some r:=iQ h hl hj rfl
theorem cR {rows} {sz i j} {row} {d} (h:rows[i]? =some row) (hl:row.length=sz) (hj:row[j]? =some d):Pi [(sz,i,j)] rows=some d:=by
 grind [Pi]
theorem U4 {rows} {sz i j} {row} {d d'} (h:rows[i]? =some row) (hj:row[j]? =some d'):putR [(sz,i,j)] rows d=rows.set i (row.set j d):=by
 grind [putR,Ab.put]
theorem Ys {rows:List (List D)} {sz i j:Nat} {row:List D} {d d':D} (h:rows[i]? =some row) (hj:row[j]? =some d'):(putR [(sz,i,j)] rows d)[i]? =some (row.set j d):=by
 rw [U4 h hj]; grind
section
variable {y:Way} {σ0:St}
@[go_sem] theorem li:PasL y σ0 [] [] =True:=by rfl
@[go_sem] theorem js {a b} {as bs}:PasL y σ0 (a::as) (b::bs)=(IS y σ0 a b∧PasL y σ0 as bs):=by rfl
@[go_sem] theorem nu {n c}:IS y σ0 (.own n) (.own c)=(look y.rt c=some n∨∃z,∃m,look y.rt c=some m∧look y.cv m=some (.own n,z)):=by
 grind [IS]
def cvX (o:Option (AV × Option Nat)) (a:AV):Prop:=match o with|some x=>x.1 =a|none=>False
def rtX (o:Option Nat) (K:Nat→Prop):Prop:=match o with|some n=>K n|none=>False
@[go_sem] theorem lj {n} {K}:rtX (some n) K=K n:=rfl
@[go_sem] theorem ll {x} {a}:cvX (some x) a=(x.1 =a):=rfl
@[go_sem] theorem nv {n off b off'}:IS y σ0 (.box n off) (.box b off')=match look y.rb b with|some q=>n=q.1 ∧off=q.2 +off'|none=>False:=by
 simp only [IS,AV.box.injEq]
 cases look y.rb b <;> simp
@[go_sem] theorem nw {vs us}:IS y σ0 (.agg vs) (.agg us)=PasL y σ0 vs us:=by rfl
@[go_sem] theorem pC {f f'} {vs us}:IS y σ0 (.fn f vs) (.fn f' us)=(f=f'∧PasL y σ0 vs us):=by rfl
def clW (y:Way) (σ0:St) (a:AV):Option AV:=cl (if y.md=true then fun _=>none else σ0.T) (if y.md=true then fun _=>none else σ0.B) a
@[go_sem] theorem nx {a} {k} {n}:IS y σ0 a (.int k n)=(clW y σ0 a=some (.int k n)):=by cases a <;> simp only [IS,clW]
@[go_sem] theorem pE {a} {rows}:IS y σ0 a (.ro rows)=(clW y σ0 a=some (.ro rows)):=by cases a <;> simp only [IS,clW]
@[go_sem] theorem ny {a} {vs} {off}:IS y σ0 a (.rop vs off)=narR (clW y σ0 a) vs off:=by cases a <;> simp only [IS,clW]
@[go_sem] theorem lm {us} {o'} {vs} {off}:narR (some (.rop us o')) vs off=((us=vs∧o'=off)∨(off=0∧Fa us o' vs.length=vs)):=rfl
@[go_sem] theorem pF {cv rt rb nt nb} {a}:clW ⟨cv,rt,rb,nt,nb,true⟩ σ0 a=cl (fun _=>none) (fun _=>none) a:=by rfl
@[go_sem] theorem pG {cv rt rb nt nb} {a}:clW ⟨cv,rt,rb,nt,nb,false⟩ σ0 a=cl σ0.T σ0.B a:=by rfl
end
def ln (P:Program) (t:TypeId) (v:AV) (σ:St) (K:Bool→Prop) (_:Wrap K):Prop:=hH P t v σ K
theorem lo {rows} {K} {w} (h:slP (ti P t)) (h0:rows=[] →K true) (h1:K false):ln P t (.ro rows) σ K w:=dp h h0 h1
@[go_sem ↓] theorem jt:opX P pos dst (.makeMap t none) σ K=optX (ax P t) fun q=>Af (look σ.b pos=none) (K ((σ.put dst (.mpr pos)).setB pos [.mpc q []])):=by
 rw [P3 (fun _=>by rfl)]
 simp only [Ev,optX,Af]
 refine propext ⟨?_,?_⟩
 ·rintro ⟨r,⟨q,h1,rfl⟩,-,h2,h3⟩
  exact⟨q,h1,h2.1,by rw [← Jq]; exact h3⟩
 ·rintro ⟨q,h1,h2,h3⟩
  exact⟨_,⟨q,h1,rfl⟩,trivial,⟨h2,trivial⟩,by rw [Jq]; exact h3⟩
def lkR (ok:Bool) (o:Option D) (z:AV) (K:AV→Prop):Prop:=K (if ok=true then .tup [(o.map ofD).getD z,.bool o.isSome] else (o.map ofD).getD z)
@[go_sem] theorem pH {o} {z} {K}:lkR false o z K=BL ((o.map ofD).getD z) K:=by rfl
@[go_sem] theorem pI {o} {z} {K}:lkR true o z K=BL ((o.map ofD).getD z) fun v=>BL o.isSome fun b=>K (.tup [v,.bool b]):=by rfl
def lkX (P:Program) (t:TypeId) (u v:AV) (ok:Bool) (σ:St) (K:AV→Prop):Prop:=∃r,QT P σ.B t u v ok r∧K r
@[go_sem] theorem nz {b} {v} {ok} {K}:lkX P t (.mpr b) v ok σ K=iE (ti P t) fun kt et=>eO (σ.B b) fun q rows=>Af (ktOf P kt=some q) (optX (keyD v) fun k=>Af (isKB q k=true) (optX (tz1 P et) fun z=>BL (zAV z) fun z'=>BL (GJ k rows) fun o=>lkR ok o z' K)):=by
 simp only [lkX,QT,iE,eO,Af,optX,BL,lkR]
 grind
@[go_sem ↓] theorem lp {ok}:opX P pos dst (.lookup t x y ok) σ K=BL (σ.e x) fun u=>BL (σ.e y) fun v=>lkX P t u v ok σ fun r=>K (σ.put dst r):=
 JI (p:=fun v=>QT P σ.B t (σ.e x) (σ.e y) ok v) (fun _=>by rfl) (fun r=>by rfl)
def cS (a:AV):Option D:=match NJ [a] with|some [d] =>some d|_=>none
@[go_sem] theorem ju {k} {n}:cS (.int k n)=some (.int k n):=rfl
@[go_sem] theorem iR {b}:cS (.bool b)=some (.bool b):=rfl
@[go_sem] theorem jv {s}:cS (.str s)=some (.str s):=rfl
def muX (P:Program) (t:TypeId) (u v x:AV) (σ:St) (K:St→Prop):Prop:=Um P t u v x σ K
@[go_sem ↓] theorem gB {m i}:opX P pos dst (.mapUpdate t m i x) σ K=BL (σ.e m) fun u=>BL (σ.e i) fun v=>BL (σ.e x) fun z=>muX P t u v z σ fun σ'=>K (σ'.put dst .any):=by
 rfl
@[go_sem ↓] theorem lq {m i}:opX P pos dst (.insert t m i x) σ K=BL (σ.e m) fun u=>BL (σ.e i) fun v=>BL (σ.e x) fun z=>muX P t u v z σ fun σ'=>K (σ'.put dst .any):=by
 rfl
attribute [go_sem] keyD Tm
@[go_sem] theorem jw {ks} {ds}:isKB (.wide ks) (.ptr ds)=LP ks ds:=rfl
@[go_sem] theorem iS {k ks n ds}:LP (k::ks) (.int k n::ds)=LP ks ds:=by simp [LP]
@[go_sem] theorem jx:LP [] [] =true:=rfl
@[go_sem] theorem lr {s}:isKB .str (.str s)=true:=rfl
@[go_sem ↓] theorem pJ:opX P pos dst (.pick c a b) σ K=BL (σ.e c) fun u=>BL (σ.e a) fun v=>BL (σ.e b) fun w=>SU u v w fun v=>K (σ.put dst v):=g6
@[go_sem ↓] theorem pK:opX P pos dst (.load t a) σ K=BL (σ.e a) fun u=>Ll P t u σ fun v=>K (σ.put dst v):=g7
@[go_sem ↓] theorem iT:opX P pos dst (.nilCheck x) σ K=BL (σ.e x) fun u=>U1 u fun v=>K (σ.put dst v):=Xz
@[go_sem ↓] theorem jy {y}:opX P pos dst (.binOp op t x (.tmp y) t') σ K=BL (σ.e x) fun u=>BL (σ.g y) fun v=>Fm P op t u v fun v=>K (σ.put dst v):=Z5
@[go_sem ↓] theorem jz {k} {n}:opX P pos dst (.binOp op t x (.const (.int k n)) t') σ K=BL (σ.e x) fun u=>Fm P op t u (.int k n) fun v=>K (σ.put dst v):=Z6
@[go_sem ↓] theorem lw:opX P pos dst (.binOp .eql t x (.const (.slice none 0 0)) t') σ K=BL (σ.e x) fun u=>ln P t u σ (fun b=>K (σ.put dst (.bool b))) ⟨⟩:=bk
@[go_sem ↓] theorem pL {op}:opX P pos dst (.unOp op t x) σ K=BL (σ.e x) fun u=>eC op u fun v=>K (σ.put dst v):=hJ
@[go_sem ↓] theorem gC:opX P pos dst (.fieldAddr s x f) σ K=BL (σ.e x) fun u=>faX P s u f fun v=>K (σ.put dst v):=WW
@[go_sem ↓] theorem gD:opX P pos dst (.indexAddr t x y) σ K=BL (σ.e x) fun u=>BL (σ.e y) fun v=>iaX P t u v σ fun v=>K (σ.put dst v):=WY
@[go_sem ↓] theorem n8:opX P pos dst (.index t x y) σ K=BL (σ.e x) fun u=>BL (σ.e y) fun v=>elX P t u v fun v=>K (σ.put dst v):=eJ
@[go_sem ↓] theorem j0:opX P pos dst (.extract x i) σ K=BL (σ.e x) fun u=>Z9 u i fun v=>K (σ.put dst v):=aA
@[go_sem ↓] theorem pj:opX P pos dst (.call ⟨.builtin .len,List.toArray [x],List.toArray [t]⟩) σ K=BL (σ.e x) fun u=>WZ P t u σ fun v=>K (σ.put dst v):=lG
@[go_sem ↓] theorem pk:opX P pos dst (.box t x) σ K=BL (cellsOf (σ.e x)) fun cs=>bxX pos cs dst (.box pos 0) σ K:=lK
@[go_sem ↓] theorem n9:opX P pos dst (.alloc t) σ K=Af (0<(tz P t).length) (BL ((tz P t).map zAV) fun vs=>bxX pos (some vs) dst (.box pos 0) σ K):=eP
@[go_sem ↓] theorem oA {parts}:opX P pos dst (.build t parts.toArray) σ K=Wa P (ti P t) fun fs=>Af ((fs.all fun q=>decide (0<tsz P q.2))=true∧0<(tz P t).length) (BL ((tz P t).map zAV) fun vs=>BL (pvs σ parts) fun ps=>bpX P fs vs ps fun v=>K (σ.put dst v)):=eU
@[go_sem ↓] theorem gE:opX P pos dst (.makeSlice t l c) σ K=slX (ti P t) fun e=>BL (σ.e l) fun u=>BL (σ.e c) fun v=>mkX P pos e u v dst σ K:=Wb
@[go_sem ↓] theorem pM {L} {wL} {args} {ts}:opL P L pos dst (.call ⟨.value g,args.toArray,ts⟩) σ K wL=BL (σ.e g) fun u=>BL (evs σ args) fun vs=>clX P L pos u vs dst σ K wL:=iH
@[go_sem ↓] theorem oC:opX P pos dst (.store t a x) σ K=BL (σ.e a) fun u=>BL (cellsOf (σ.e x)) fun cs=>stX P t u cs σ fun σ'=>K (σ'.put dst .any):=ef
@[go_sem ↓] theorem lx:opX P pos dst (.call ⟨.builtin .append,List.toArray [x,y],List.toArray [t,t]⟩) σ K=slX (ti P t) fun e=>BL (σ.e x) fun u=>BL (σ.e y) fun v=>apX P pos e u v dst σ K:=cF
def roX (z:ZK) (sz:Nat) (rows:List (List D)) (K:List (List D)→Prop):Prop:=roZ z sz rows K
@[go_sem] theorem pm {sz} {rows} {K}:roX .no sz rows K=Af (∀row ∈ rows,row.length=sz∧∀d ∈ row,d.flat=true) (K rows):=rfl
@[go_sem ↓] theorem pN {e:TypeId} {u v:AV}:apX P pos e u v dst σ K=Af (0<tsz P e∧(tz P e).length =tsz P e) (zX fun z=>Re z e (tsz P e) u σ fun rows σ1=>NL z (tsz P e) v σ1 fun rows2 σ2=>
   Af ((rows.length+rows2.length)*P.bytesOf e≤140737488355328∧rows.length+rows2.length≤maxLen) (Af (look σ2.t (pos*16)=none) (TJ (rows++rows2) fun rows=>K ((σ2.setT (pos*16) ⟨rows,some (tsz P e),0,z⟩).put dst (.own (pos*16)))))):=by simp only [U3]; rfl
end
attribute [go_sem] zAV
section
variable {P:Program} {σ:St} {K:St→Prop} {ops:Array Oper} {base cut i:Nat}
@[go_sem] theorem iU {x} {xs b} {w1} {w2} {w3} {w4}:Lk P ops base cut i (List.append (x::xs) b) σ K w1 w2 w3 w4=Lk P ops base cut i (x::List.append xs b) σ K w1 ⟨⟩ w3 w4:=rfl
@[go_sem] theorem j5 {b} {w1} {w2} {w3} {w4}:Lk P ops base cut i (List.append [] b) σ K w1 w2 w3 w4=Lk P ops base cut i b σ K w1 ⟨⟩ w3 w4:=rfl
@[go_sem ↓] theorem dL {b} {j} {K}:Qk (List.toArray (List.append [] b)) j K=Qk b.toArray j K:=rfl
end
end Go.Proofs.YtclmbjbbojdojaaGreat.Ab
