/-
  The abstract walk as rules, third part: memory, calls, results, loops.
-/
import Derived.Test.YtnfgeocnolheoaaGreatAbU
import Derived.IntWalk
namespace Go.Proofs.YtnfgeocnolheoaaGreat.Ab
set_option linter.unusedVariables false
set_option maxHeartbeats 1000000
open Go.RowKit
section
variable {P:Program} {σ:St} {K:St→Prop} {Q:AE→St→Prop}
def iw (t:TI):Prop:=match t with| .str =>True|_=>False
@[go_sem] theorem mA:iw .str =True:=rfl
@[go_sem] theorem fO {t} {s} {K}:NL P t (.str s) σ K=AR (iw (ti P t)) (K (.int .i64 s.size)):=by
 simp only [NL,Nv,AR,iw]
 generalize ti P t=q
 cases q <;> simp
@[go_sem] theorem ix {t} {rows} {K}:NL P t (.ro rows) σ K=slX (ti P t) fun _=>K (.int .i64 rows.length):=by
 simp only [NL,Nv,slX]
 generalize ti P t=q
 cases q <;> simp
@[go_sem] theorem cd {t} {K}:NL P t .nils σ K=slX (ti P t) fun _=>K (.int .i64 0):=by
 simp only [NL,Nv,slX]
 generalize ti P t=q
 cases q <;> simp
@[go_sem] theorem fP {t} {b n sz} {K}:NL P t (.bsl b n sz) σ K=slX (ti P t) fun _=>K (.int .i64 n):=by
 simp only [NL,Nv,slX]
 generalize ti P t=q
 cases q <;> simp
@[go_sem] theorem fQ {t} {t'} {K}:NL P t (.own t') σ K=slX (ti P t) fun _=>optX (σ.T t') fun tk=>K (.int .i64 tk.rows.length):=by
 simp only [NL,Nv,slX,optX]
 grind
@[go_sem] theorem fR {t} {t' g} {p} {K}:NL P t (.sub t' g p) σ K=slX (ti P t) fun _=>optX (subR σ.T t' g p) fun rows=>K (.int .i64 rows.length):=by
 simp only [NL,Nv,slX,optX]
 grind
def X7 (t:TI) (K:TypeId→TypeId→Prop):Prop:=match t with| .map k e=>K k e|_=>False
@[go_sem] theorem mB {k e} {K}:X7 (.map k e) K=K k e:=rfl
def Wc (o:Option (List AV)) (K:KT→List (List D)→Prop):Prop:=∃q rows,o=some [.mpc q rows] ∧K q rows
@[go_sem] theorem kN {q} {rows} {K}:Wc (some [.mpc q rows]) K=K q rows:=by
 grind [Wc]
@[go_sem] theorem fS {t} {b} {K}:NL P t (.mpr b) σ K=X7 (ti P t) fun _ _=>Wc (σ.B b) fun _ rows=>K (.int .i64 rows.length):=by
 simp only [NL,Nv,X7,Wc]
 grind
def NM {α:Type} (v:α) (K:α→Prop):Prop:=∃y,v=y∧K y
theorem ID {α:Type} {v:α} {K:α→Prop}:NM v K=K v:=by simp [NM]
def bxX (pos:Nat) (cs:Option (List AV)) (dst:Option Tmp) (v:AV) (σ:St) (K:St→Prop):Prop:=optX cs fun vs=>AR (look σ.b pos=none) (K ((σ.put dst v).setB pos vs))
def bxZ (pos:Nat) (cs:Option (List AV)) (dst:Option Tmp) (v:AV) (σ:St) (K:St→Prop):Prop:=bxX pos cs dst v σ K
theorem iy {pos} {cs} {dst} {v}:bxX pos cs dst v σ K=Ay cs fun o=>bxZ pos o dst v σ K:=rfl
@[go_sem ↓] theorem mC {pos} {vs} {dst} {v}:bxZ pos (some vs) dst v σ K=AR (look σ.b pos=none) (K ((σ.put dst v).setB pos vs)):=by simp [bxZ,bxX,optX]
theorem J2 {dst} {v} {pos} {vs}:σ.add dst ⟨v,[],[(pos,vs)]⟩=(σ.put dst v).setB pos vs:=by cases dst <;> rfl
attribute [go_sem] cellsOf
theorem mD {pos} {dst} {t} {x}:opX P pos dst (.box t x) σ K=bxX pos (cellsOf (σ.e x)) dst (.box pos 0) σ K:=by
 rw [P6 (fun _=>by rfl)]
 simp only [Ev,bxX]
 split
 ·rename_i vs h
  rw [h,Hv]
  refine propext ⟨?_,?_⟩
  ·rintro ⟨r,rfl,-,h1,h2⟩
   exact⟨h1.1,by rw [← J2]; exact h2⟩
  ·rintro ⟨h1,h2⟩
   exact⟨_,rfl,trivial,⟨h1,trivial⟩,by rw [J2]; exact h2⟩
 grind [UL]
theorem fT {pos} {dst} {t}:opX P pos dst (.alloc t) σ K=AR (0<(tz P t).length) (bxX pos (some ((tz P t).map zAV)) dst (.box pos 0) σ K):=by
 rw [P6 (fun _=>by rfl)]
 simp only [Ev,bxX,Hv,AR]
 refine propext ⟨?_,?_⟩
 ·rintro ⟨r,⟨vs,rfl,h0,rfl⟩,-,h1,h2⟩
  exact⟨h0,h1.1,by rw [← J2]; exact h2⟩
 ·rintro ⟨h0,h1,h2⟩
  exact⟨_,⟨_,rfl,h0,rfl⟩,trivial,⟨h1,trivial⟩,by rw [J2]; exact h2⟩
attribute [go_sem] zAV
def pvs (σ:St):List (Nat × Operand)→List (Nat × AV)
 | [] =>[]
 |x::xs=>(x.1,σ.e x.2)::pvs σ xs
theorem Y2 {xs}:pvs σ xs=xs.map fun x=>(x.1,σ.e x.2):=by induction xs with|nil=>rfl|cons x xs ih=>simp [pvs,ih]
attribute [go_sem] pvs D4
def bsX (P:Program) (pos:Nat) (e:TypeId) (n:Nat) (parts:List (Nat × AV)) (dst:Option Tmp) (σ:St) (K:St→Prop):Prop:=
 AR (parts.length=n∧n*tsz P e≤16777216∧0<tsz P e∧(tz P e).length =tsz P e) (bxX pos (D4 (tsz P e) 0 parts) dst (.bsl pos n (tsz P e)) σ K)
@[go_sem ↓] theorem fU {pos} {dst} {t} {n} {parts}:opX P pos dst (.buildSlice t n parts.toArray) σ K=slX (ti P t) fun e=>Ay (pvs σ parts) fun ps=>bsX P pos e n ps dst σ K:=by
 rw [P6 (fun _=>by rfl)]
 simp only [Ev,slX,Ay,Y2]
 generalize ti P t=q
 split
 ·simp only [bI,bsX,bxX,AR]
  refine propext ⟨?_,?_⟩
  ·rintro ⟨r,⟨h1,h2,h3,h4,h5⟩,-,h6,h7⟩
   split at h5
   ·rename_i vs h8
    subst h5
    rw [h8,Hv]
    exact⟨⟨h1,h2,h3,h4⟩,h6.1,by rw [← J2]; exact h7⟩
   grind
  ·rintro ⟨⟨h1,h2,h3,h4⟩,vs,h8,h6,h7⟩
   exact⟨⟨_,[],[(pos,vs)]⟩,⟨h1,h2,h3,h4,by rw [h8]⟩,trivial,⟨h6,trivial⟩,by rw [J2]; exact h7⟩
 ·simp
attribute [go_sem] bsX
attribute [go_sem] MA
def Wd (P:Program) (t:TI) (K:List (Nat × TypeId)→Prop):Prop:=match t with| .st fs=>K fs| .arr n el=>AR (0<tsz P el) (K (MA (tsz P el) el n 0))|_=>False
@[go_sem] theorem fV {fs} {K}:Wd P (.st fs) K=K fs:=rfl
def bpX (P:Program) (fs:List (Nat × TypeId)) (vs:List AV) (ps:List (Nat × AV)) (K:AV→Prop):Prop:=∃ws,LC P fs vs ps=some ws∧K (.agg ws)
@[go_sem] theorem fW {fs} {vs} {K}:bpX P fs vs [] K=K (.agg vs):=by simp [bpX,LC]
@[go_sem] theorem cf {fs} {vs} {f} {v} {ps} {K}:bpX P fs vs ((f,v)::ps) K=optX fs[f]? fun q=>optX (cellsOf v) fun cs=>AR (cs.length=tsz P q.2 ∧q.1 +cs.length≤vs.length) (Ay (splice vs q.1 cs) fun vs=>bpX P fs vs ps K):=by
 unfold bpX optX AR Ay
 rw [LC]
 grind
theorem fX {pos} {dst} {t} {parts}:opX P pos dst (.build t parts.toArray) σ K=Wd P (ti P t) fun fs=>AR ((fs.all fun q=>decide (0<tsz P q.2))=true∧0<(tz P t).length) (bpX P fs ((tz P t).map zAV) (pvs σ parts) fun v=>K (σ.put dst v)):=by
 rw [G8 (p:=fun v=>Wd P (ti P t) fun fs=>AR ((fs.all fun q=>decide (0<tsz P q.2))=true∧0<(tz P t).length) (bpX P fs ((tz P t).map zAV) (pvs σ parts) fun u=>v=u)) (fun _=>by rfl) (fun r=>by
  simp only [Ev,Wd,AR,bpX,Y2]
  grind)]
 unfold Wd AR bpX
 grind
attribute [go_sem] zD zDs
@[go_sem] theorem mE {n}:leX n n=True:=eq_true (Int.le_refl n)
def mkX (P:Program) (pos:Nat) (e:TypeId) (n m:AV) (dst:Option Tmp) (σ:St) (K:St→Prop):Prop:=match n,m with
 | .int .i64 n,.int .i64 m=>AR (leX n m) (AR (0≤n∧m.toNat*P.bytesOf e≤281474976710656∧m≤4611686018427387904) (AR (0<tsz P e∧(tz P e).length =tsz P e) (optX (zDs (tz P e)) fun z=>AR (look σ.t (pos*16)=none) (NM (List.replicate n.toNat z) fun rows=>K ((σ.put dst (.own (pos*16))).setT (pos*16) ⟨rows,some (tsz P e),0,false⟩)))))
 |_,_=>False
@[go_sem] theorem fY {pos} {e} {n m} {dst}:mkX P pos e (.int .i64 n) (.int .i64 m) dst σ K=AR (leX n m) (AR (0≤n∧m.toNat*P.bytesOf e≤281474976710656∧m≤4611686018427387904) (AR (0<tsz P e∧(tz P e).length =tsz P e) (optX (zDs (tz P e)) fun z=>AR (look σ.t (pos*16)=none) (NM (List.replicate n.toNat z) fun rows=>K ((σ.put dst (.own (pos*16))).setT (pos*16) ⟨rows,some (tsz P e),0,false⟩))))):=rfl
theorem Y3 {dst} {v} {n} {tk}:σ.add dst ⟨v,[(n,tk)],[]⟩=(σ.put dst v).setT n tk:=by cases dst <;> rfl
theorem We {pos:Nat} {dst:Option Tmp} {t:TypeId} {l c:Operand}:opX P pos dst (.makeSlice t l c) σ K=slX (ti P t) fun e=>mkX P pos e (σ.e l) (σ.e c) dst σ K:=by
 rw [P6 (fun _=>by rfl)]
 simp only [Ev,slX,mkX]
 generalize ti P t=q
 cases q with
 | sl e=>
  generalize σ.e l=u
  generalize σ.e c=v
  split
  ·rename_i el n m h1
   cases h1
   simp only [gX,AR,optX,ID]
   refine propext ⟨?_,?_⟩
   ·rintro ⟨r,⟨k1,k2,k3,k4,k5,k6,z,k7,rfl⟩,k8,-,k9⟩
    exact⟨k1,⟨k2,k3,k4⟩,⟨k5,k6⟩,z,k7,k8.1,by rw [← Y3]; exact k9⟩
   ·rintro ⟨k1,⟨k2,k3,k4⟩,⟨k5,k6⟩,z,k7,k8,k9⟩
    exact⟨⟨_,[(pos*16,⟨_,some (tsz P e),0,false⟩)],[]⟩,⟨k1,k2,k3,k4,k5,k6,z,k7,rfl⟩,⟨k8,trivial⟩,trivial,by rw [Y3]; exact k9⟩
  grind
 |_=>simp
def UN (P:Program) (L:Bool) (pos:Nat) (f:FuncId) (args:List AV) (as:Option (List AV)) (dst:Option Tmp) (σ:St) (K:St→Prop) (_:Wrap L):Prop:=
 ((∃bs rv,as=some bs∧AC P f bs rv∧Dd σ (conv (pos*16) rv).2 ∧K (σ.add dst ⟨(conv (pos*16) rv).1,(conv (pos*16) rv).2,[]⟩))∨
  ∃bs rv qt qb,AG P f bs [] [] rv qt qb∧cls (fun _=>none) (fun _=>none) args=some bs∧((qt=[] ∧Tq rv=true∧K (σ.add dst ⟨rv,[],[]⟩))∨(∃q tk,qt=[(q,tk)] ∧rv= .own q∧tk.gen=0∧look σ.t (pos*16)=none∧K (σ.add dst ⟨.own (pos*16),[(pos*16,tk)],[]⟩))∨(∃q k,rv= .box q k)∧K (σ.add dst ⟨.rop [] 0,[],[]⟩)))∨
 (L=true∧Yi P f args σ fun v σ'=>K (σ'.put dst v))
@[go_sem] theorem mF:Na [] =true:=rfl
@[go_sem] theorem mG {fs cs}:Na (.agg fs::cs)=true:=rfl
@[go_sem] theorem n8 {as}:fnA [] as=as:=List.append_nil as
@[go_sem] theorem n9 {fs cs as}:fnA (.agg fs::cs) as=fs++(as++cs):=rfl
def clX (P:Program) (L:Bool) (pos:Nat) (g:AV) (args:List AV) (dst:Option Tmp) (σ:St) (K:St→Prop) (w:Wrap L):Prop:=match g with
 | .fn f caps=>Na caps=true∧UN P L pos f (fnA caps args) (cls σ.T σ.B (fnA caps args)) dst σ K w
 |_=>False
@[go_sem] theorem iz {L} {wL} {pos} {f} {caps args} {dst}:clX P L pos (.fn f caps) args dst σ K wL=AR (Na caps=true) (Ay (fnA caps args) fun vs=>Ay (cls σ.T σ.B vs) fun r=>UN P L pos f vs r dst σ K wL):=rfl
theorem i4 {L} {wL} {pos} {dst} {g} {args} {ts}:opL P L pos dst (.call ⟨.value g,args.toArray,ts⟩) σ K wL=clX P L pos (σ.e g) (evs σ args) dst σ K wL:=by
 have h1:opX P pos dst (.call ⟨.value g,args.toArray,ts⟩) σ K=match σ.e g with
   | .fn f caps=>Na caps=true∧((∃bs rv,cls σ.T σ.B (fnA caps (evs σ args))=some bs∧AC P f bs rv∧Dd σ (conv (pos*16) rv).2 ∧K (σ.add dst ⟨(conv (pos*16) rv).1,(conv (pos*16) rv).2,[]⟩))∨
     ∃bs rv qt qb,AG P f bs [] [] rv qt qb∧cls (fun _=>none) (fun _=>none) (fnA caps (evs σ args))=some bs∧((qt=[] ∧Tq rv=true∧K (σ.add dst ⟨rv,[],[]⟩))∨(∃q tk,qt=[(q,tk)] ∧rv= .own q∧tk.gen=0∧look σ.t (pos*16)=none∧K (σ.add dst ⟨.own (pos*16),[(pos*16,tk)],[]⟩))∨(∃q k,rv= .box q k)∧K (σ.add dst ⟨.rop [] 0,[],[]⟩)))
   |_=>False:=by
  rw [P6 (fun _=>by rfl)]
  simp only [Ev,Ri,Uy]
  generalize σ.e g=v
  split
  ·refine propext ⟨?_,?_⟩
   ·rintro ⟨r,⟨ho,h1⟩,h2,-,h4⟩
    refine⟨ho,?_⟩
    rcases h1 with h1|h1
    ·grind
    ·obtain⟨as,rv,qt,qb,h5,h6,h7⟩:=h1
     rcases h7 with ⟨h7,h8,rfl⟩|⟨q,tk,h7,h8,h9,rfl⟩|⟨h7,rfl⟩
     ·grind
     ·exact .inr ⟨as,rv,qt,qb,h5,h6,.inr (.inl ⟨q,tk,h7,h8,h9,h2.1,h4⟩)⟩
     grind
   ·rintro ⟨ho,h⟩
    rcases h with (⟨bs,rv,h1,h5,h2,h4⟩|⟨bs,rv,qt,qb,h5,h6,⟨h7,h8,h4⟩|⟨q,tk,h7,h8,h9,h2,h4⟩|⟨h7,h4⟩⟩)
    ·exact⟨⟨(conv (pos*16) rv).1,(conv (pos*16) rv).2,[]⟩,⟨ho,.inl (by rw [h1]; grind)⟩,h2,trivial,h4⟩
    ·exact⟨⟨rv,[],[]⟩,⟨ho,.inr ⟨bs,rv,qt,qb,h5,h6,.inl ⟨h7,h8,rfl⟩⟩⟩,trivial,trivial,h4⟩
    ·exact⟨⟨.own (pos*16),[(pos*16,tk)],[]⟩,⟨ho,.inr ⟨bs,rv,qt,qb,h5,h6,.inr (.inl ⟨q,tk,h7,h8,h9,rfl⟩)⟩⟩,⟨h2,trivial⟩,trivial,h4⟩
    ·exact⟨⟨.rop [] 0,[],[]⟩,⟨ho,.inr ⟨bs,rv,qt,qb,h5,h6,.inr (.inr ⟨h7,rfl⟩)⟩⟩,trivial,trivial,h4⟩
  ·simp
 have h2:opL P L pos dst (.call ⟨.value g,args.toArray,ts⟩) σ K wL=(opX P pos dst (.call ⟨.value g,args.toArray,ts⟩) σ K∨(L=true∧MC P ⟨dst,.call ⟨.value g,args.toArray,ts⟩,0, "",#[],none⟩ σ K)):=by
  grind [Rn,SliK,opL,Ro,opX]
 rw [h2,h1]
 grind [clX,UN,MC,Uy]
attribute [go_sem] cl cls toD toDs toA toAs Dl Cl Option.map_some Option.map_none
theorem fZ {pos} {f} {args bs} {dst} {rv} (h:AC P f bs rv) (hf:Dd σ (conv (pos*16) rv).2) (hk:K (σ.add dst ⟨(conv (pos*16) rv).1,(conv (pos*16) rv).2,[]⟩)) {L} {wL}:UN P L pos f args (some bs) dst σ K wL:=
 .inl (.inl ⟨bs,rv,rfl,h,hf,hk⟩)
@[go_sem] theorem i5:Dd σ [] =True:=rfl
@[go_sem] theorem gm {n} {tk} {l}:Dd σ ((n,tk)::l)=(look σ.t n=none∧Dd σ l):=rfl
attribute [go_sem] conv HL addT addB
@[go_sem] theorem mH {s t b} {d} {r}:St.add ⟨s,t,b⟩ (some d) r=⟨(d,r.v)::s,addT t r.t,addB b r.b⟩:=rfl
@[go_sem] theorem mI {s t b} {r}:St.add ⟨s,t,b⟩ none r=⟨s,addT t r.t,addB b r.b⟩:=rfl
section
variable {z:Bool}
@[go_sem] theorem fc {K}:BU z [] σ K=K [] σ:=by rw [BU]
@[go_sem] theorem fe {k} {n} {vs} {K}:BU z (.int k n::vs) σ K=BU z vs σ fun ds σ'=>K (.int k n::ds) σ':=by rw [BU]
@[go_sem] theorem cg {b} {vs} {K}:BU z (.bool b::vs) σ K=BU z vs σ fun ds σ'=>K (.bool b::ds) σ':=by rw [BU]
@[go_sem] theorem ff {s} {vs} {K}:BU z (.str s::vs) σ K=BU z vs σ fun ds σ'=>K (.str s::ds) σ':=by rw [BU]
@[go_sem] theorem ci {vs} {K}:BU z (.nils ::vs) σ K=BU z vs σ fun ds σ'=>K (Ui z::ds) σ':=by rw [BU]
@[go_sem] theorem pe:Ui false= .sl [] :=rfl
@[go_sem] theorem pg:Ui true= .fz [] :=rfl
@[go_sem] theorem cj {vs} {K}:BU z (.nilp ::vs) σ K=BU z vs σ fun ds σ'=>K (.nilp ::ds) σ':=by rw [BU]
@[go_sem] theorem i6 {rows} {vs} {K}:BU z (.ro rows::vs) σ K=AR (z=true) (BU z vs σ fun ds σ'=>K (.fz rows::ds) σ'):=by rw [BU]; rfl
@[go_sem] theorem fg {ws} {off} {vs} {K}:BU z (.rop ws off::vs) σ K=AR (z=true) (optX (unD (.rop ws off)) fun d=>BU z vs σ fun ds σ'=>K (d::ds) σ'):=by rw [BU]; rfl
@[go_sem] theorem fh {b n sz} {vs} {K}:BU z (.bsl b n sz::vs) σ K=if n=0 then BU z vs σ fun ds σ'=>K (Ui z::ds) σ' else ZT z b n sz σ fun rows σ1=>BU z vs σ1 fun ds σ'=>K (.sl rows::ds) σ':=by rw [BU]
@[go_sem ↓] theorem oA {b n sz} {K}:ZT z b n sz σ K=AR (1000≤b) (AR (0<sz) (optX (σ.B b) fun vs=>optX (Lq z vs) fun ds=>AR (ds.length=n*sz) (Ay (Cg sz n ds) fun rows=>K rows (σ.killB b)))):=rfl
@[go_sem] theorem mJ {s t b} {x}:St.killB ⟨s,t,b⟩ x=⟨s,t,(x,none)::b⟩:=rfl
attribute [go_sem] LD litD Lq unD unDs
@[go_sem] theorem fi {t} {vs} {K}:BU z (.own t::vs) σ K=optX (σ.T t) fun tk=>AR (okZ z tk=true) (BU z vs (σ.killT t) fun ds σ'=>K (.sl tk.rows::ds) σ'):=by rw [BU]; rfl
end
def stX (P:Program) (t:TypeId) (a:AV) (cs:Option (List AV)) (σ:St) (K:St→Prop):Prop:=
 optX cs fun cs=>AR (cs.length=tsz P t∧0<tsz P t∧cs.all AV.one=true) (match a with
  | .box b off=>∃vs,σ.B b=some vs∧isMp vs=false∧off+cs.length≤vs.length∧K (σ.setB b (splice vs off cs))
  | .elt t' sz i off=>∃tk0,σ.T t'=some tk0∧BU tk0.z cs σ fun ds σ'=>∃tk row,(σ'.T t'=some tk∧tk.z=tk0.z)∧tk.rows[i]? =some row∧row.length=sz∧off+ds.length≤sz∧K (σ'.setT t' ⟨tk.rows.set i (splice row off ds),tk.sz,if EB row off ds=true then tk.gen else tk.gen+1,tk.z⟩)
  | .els t' g p sz i off=>BU false cs σ fun ds σ'=>∃rows,subR σ'.T t' g p=some rows∧∃row,rows[i]? =some row∧(p≠ [] ∧row.length=sz∧off+ds.length≤sz∧EB row off ds=true)∧∃tk,σ'.T t'=some tk∧K (σ'.setT t' ⟨putR p tk.rows (.sl (rows.set i (splice row off ds))),tk.sz,tk.gen,tk.z⟩)
  |_=>False)
theorem fj {pos} {dst} {t} {a x}:opX P pos dst (.store t a x) σ K=stX P t (σ.e a) (cellsOf (σ.e x)) σ fun σ'=>K (σ'.put dst .any):=by
 grind [opX,aop,Nx,stX,Hv,AR,UL]
@[go_sem] theorem fk {t} {b off} {cs}:stX P t (.box b off) (some cs) σ K=AR (cs.length=tsz P t∧0<tsz P t∧cs.all AV.one=true) (optX (σ.B b) fun vs=>AR (isMp vs=false) (AR (off+cs.length≤vs.length) (Ay (splice vs off cs) fun vs'=>K (σ.setB b vs')))):=by
 rw [stX,Hv]; rfl
@[go_sem] theorem fl {t:TypeId} {t' g sz i off:Nat} {p:Pth} {cs:List AV}:stX P t (.els t' g p sz i off) (some cs) σ K=AR (cs.length=tsz P t∧0<tsz P t∧cs.all AV.one=true) (BU false cs σ fun ds σ'=>optX (subR σ'.T t' g p) fun rows=>optX rows[i]? fun row=>AR (p≠ [] ∧row.length=sz∧off+ds.length≤sz∧EB row off ds=true) (optX (σ'.T t') fun tk=>NM (putR p tk.rows (.sl (rows.set i (splice row off ds)))) fun rows'=>K (σ'.setT t' ⟨rows',tk.sz,tk.gen,tk.z⟩))):=by
 rw [stX,Hv]
 grind [AR,optX,ID]
@[go_sem] theorem fo {t:TypeId} {t' sz i off:Nat} {cs:List AV}:stX P t (.elt t' sz i off) (some cs) σ K=AR (cs.length=tsz P t∧0<tsz P t∧cs.all AV.one=true) (optX (σ.T t') fun tk0=>BU tk0.z cs σ fun ds σ'=>optX (σ'.T t') fun tk=>AR (tk.z=tk0.z) (optX tk.rows[i]? fun row=>AR (row.length=sz∧off+ds.length≤sz) (NM (tk.rows.set i (splice row off ds)) fun rows=>K (σ'.setT t' ⟨rows,tk.sz,if EB row off ds=true then tk.gen else tk.gen+1,tk.z⟩)))):=by
 rw [stX,Hv]
 grind [AR,optX,ID]
section
variable {z:Bool}
@[go_sem] theorem aQ {e} {sz} {K}:Rj z e sz .nils σ K=K [] σ:=rfl
@[go_sem] theorem ck {e} {sz b n sz'} {K}:Rj z e sz (.bsl b n sz') σ K=if n=0 then K [] σ else AR (sz'=sz) (ZT z b n sz σ K):=rfl
@[go_sem] theorem cm {e} {sz t} {K}:Rj z e sz (.own t) σ K=optX (σ.T t) fun tk=>AR (tk.sz=some sz∧okZ z tk=true) (K tk.rows (σ.killT t)):=rfl
@[go_sem] theorem aR {sz} {K}:NJ z sz .nils σ K=K [] σ:=rfl
@[go_sem] theorem cp {sz b n sz'} {K}:NJ z sz (.bsl b n sz') σ K=optX (σ.B b) fun vs=>AR (sz'=sz∧vs.length=n*sz∧vs.all AV.one=true) (BU z vs σ fun ds σ'=>Ay (Cg sz n ds) fun rows=>K rows σ'):=by
 simp only [NJ,optX,AR,Ay]
 grind
@[go_sem] theorem ft {sz} {rows} {K}:NJ false sz (.ro rows) σ K=AR (∀row ∈ rows,row.length=sz∧∀d ∈ row,d.flat=true) (K rows σ):=rfl
@[go_sem] theorem cq {sz:Nat} {rows:List (List D)} {K:List (List D)→St→Prop}:NJ true sz (.ro rows) σ K=AR (∀row ∈ rows,row.length=sz∧∀d ∈ row,d≠ .gone) (NM (fzR rows) fun r=>K r σ):=by
 grind [NJ,AR,ID]
@[go_sem] theorem cr {sz t} {K}:NJ z sz (.own t) σ K=optX (σ.T t) fun tk=>AR (okZ z tk=true) (AR (∀row ∈ tk.rows,row.length=sz) (K tk.rows (σ.killT t))):=by
 grind [NJ,optX,AR]
end
attribute [go_sem] Cg
def zX (K:Bool→Prop):Prop:=∃z,K z
def zY (K:Bool→Prop) (_:Wrap K):Prop:=∃z,K z
@[go_sem ↓] theorem qQ {K}:zX K=zY K ⟨⟩:=rfl
theorem G9 {K} {w} (z:Bool) (h:K z):zY K w:=⟨z,h⟩
def apX (P:Program) (pos:Nat) (e:TypeId) (x y:AV) (dst:Option Tmp) (σ:St) (K:St→Prop):Prop:=
 AR (0<tsz P e∧(tz P e).length =tsz P e) (zX fun z=>Rj z e (tsz P e) x σ fun rows σ1=>NJ z (tsz P e) y σ1 fun rows2 σ2=>
   AR ((rows.length+rows2.length)*P.bytesOf e≤140737488355328∧rows.length+rows2.length≤maxLen) (AR (look σ2.t (pos*16)=none) (K ((σ2.setT (pos*16) ⟨rows++rows2,some (tsz P e),0,z⟩).put dst (.own (pos*16))))))
theorem ct {pos} {dst} {x y} {t}:opX P pos dst (.call ⟨.builtin .append,List.toArray [x,y],List.toArray [t,t]⟩) σ K=slX (ti P t) fun e=>apX P pos e (σ.e x) (σ.e y) dst σ K:=by
 unfold opX
 simp only [aop,XT,slX,true_and]
 generalize ti P t=q
 split
 ·rename_i e
  show (0<tsz P e∧(tz P e).length =tsz P e∧_)=((0<tsz P e∧(tz P e).length =tsz P e)∧_)
  rw [and_assoc]
  congr 1
  congr 1
  show (∃z,_)=(∃z,_)
  congr 1
  funext z
  congr 1
  funext rows σ1
  congr 1
  funext rows2 σ2
  show (_∧_∧_∧_)=((_∧_)∧_∧_)
  rw [and_assoc]
 grind
end
@[go_sem] theorem kO {v x}:GW v [] x=x:=by cases v <;> rfl
attribute [go_sem ↓] iy
attribute [go_sem ↓] fO ix cd fP fQ fR fS fV fW cf fY iz fc fe cg ff ci cj i6 fg fh fi fk fo fl aQ ck cm aR cp ft cq cr
end Go.Proofs.YtnfgeocnolheoaaGreat.Ab
namespace Go.Proofs.YtnfgeocnolheoaaGreat.Ab
set_option linter.unusedVariables false
open Go.RowKit
section
variable {P:Program} {σ:St} {K:St→Prop} {Q:AE→St→Prop}
@[go_sem] theorem wrap64 {n} (h1: -9223372036854775808≤n) (h2:n≤9223372036854775807):IntKind.i64.wrap n=n:=Go.IntWalk.i64_in n ⟨h1,h2⟩
@[go_sem ↓] theorem mK {K}:NK P σ [] K=K [] :=rfl
@[go_sem ↓] theorem mL {t} {l} {K}:NK P σ (.tmp t::l) K=Ay (σ.g t) fun v=>NK P σ l fun vs=>K (v::vs):=rfl
@[go_sem ↓] theorem kP {a} {t} {l} {K}:NK P σ (.cell a t::l) K=MV P t (σ.g a) σ fun v=>NK P σ l fun vs=>K (v::vs):=rfl
@[go_sem] theorem fu {k} {n m}:Df (.int k n) (.int k m) σ K=AR (n=m) (K σ):=by simp [Df,AR]
@[go_sem] theorem cu {b c}:Df (.bool b) (.bool c) σ K=AR (b=c) (K σ):=by rfl
@[go_sem] theorem fv {s s'}:Df (.str s) (.str s') σ K=AR (s=s') (K σ):=by rfl
@[go_sem] theorem cw:Df .nilp .nilp σ K=K σ:=by rfl
@[go_sem] theorem cy {ap} {rows}:Df .nils (.ow ap rows) σ K=AR (rows=[]) (K σ):=by rfl
@[go_sem] theorem fw {b n sz} {ap} {rows}:Df (.bsl b n sz) (.ow ap rows) σ K=AR (n=0) (AR (rows=[]) (K σ)):=by rfl
@[go_sem] theorem fx {t} {ap} {rows}:Df (.own t) (.ow ap rows) σ K=optX (σ.T t) fun tk=>AR (tk.rows=rows) (AR (ap=none∨tk.sz=ap) (AR (tk.z=false) (K (σ.killT t)))):=by rfl
@[go_sem] theorem fy {rows rows'}:Df (.ro rows) (.ro rows') σ K=AR (rows=rows') (K σ):=by rfl
@[go_sem] theorem oC {rows rows'}:Df (.ro rows) (.ow none rows') σ K=AR (rows=[]) (AR (rows'=[]) (K σ)):=by simp [Df,AR]
@[go_sem] theorem f6 {vs} {rs}:Df (.agg vs) (.agg rs) σ K=KY vs rs σ K:=by rfl
@[go_sem] theorem f7 {vs} {rs}:Df (.tup vs) (.tup rs) σ K=KY vs rs σ K:=by rfl
@[go_sem] theorem cz:KY [] [] σ K=K σ:=by rfl
@[go_sem] theorem aS {v} {vs} {r} {rs}:KY (v::vs) (r::rs) σ K=Df v r σ fun σ'=>KY vs rs σ' K:=by rfl
def aT (r:RV) (σ:St) (vs:List AV):Prop:=match vs with
 | [v] =>Df v r σ fun _=>True
 |vs=>Df (.tup vs) r σ fun _=>True
@[go_sem ↓] theorem oD {r}:aT r σ [] =Df (.tup []) r σ fun _=>True:=rfl
@[go_sem ↓] theorem oE {r} {v}:aT r σ [v] =Df v r σ fun _=>True:=rfl
@[go_sem ↓] theorem oF {r} {v u} {vs}:aT r σ (v::u::vs)=Df (.tup (v::u::vs)) r σ fun _=>True:=rfl
def endX (P:Program) (l:List ResultVar) (r:RV) (q:AE) (σ:St):Prop:=match q with| .exit _=>False|_=>NK P σ l (aT r σ)
@[go_sem ↓] theorem i7 {l} {r}:endX P l r .normal σ=NK P σ l (aT r σ):=rfl
@[go_sem ↓] theorem oG {l} {r}:endX P l r .ret σ=NK P σ l (aT r σ):=rfl
theorem mM (hm:P.follows .mixedOrders =true) {f} {fn} {c} {l} {args} {r} (hf:P.funcs[f]? =some fn) (hb:fn.body=some c) (hr:fn.results=l.toArray) (hnm:(fn.name == "runtime.NumGoroutine")=false)
  (hn:decide (args.length≤fn.ntmps)=true) (hok:GY fn.ntmps c=true) (h:awp P c (endX P l r) (st0 args)):AC P f args r:=by
 refine Xq hm hf hb hnm (of_decide_eq_true hn) hok ?_
 have e:endQ P fn.results.toList r=endX P l r:=by
  rw [hr]
  funext q σ
  cases q <;> rfl
 rw [e]
 exact h
attribute [go_sem] st0 SQ
def c9 {X:Type} (R:X→Prop) (inv:X→St) (μ:X→Nat) (x:X) (σ:St):Prop:=∃x',eG σ (inv x')∧R x'∧μ x'<μ x
def i8 {X:Type} (R:X→Prop) (inv:X→St) (μ:X→Nat) (x:X) (σ:St) (_:Wrap R) (_:Wrap inv) (_:Wrap μ) (_:Wrap x):Prop:=c9 R inv μ x σ
@[go_sem ↓] theorem kQ {X:Type} {R:X→Prop} {inv:X→St} {μ:X→Nat} {x:X} {σ:St}:c9 R inv μ x σ=i8 R inv μ x σ ⟨⟩ ⟨⟩ ⟨⟩ ⟨⟩:=rfl
attribute [go_sem] LG Vl Rp Rq ren rens Fn HN List.nodup_nil List.all_nil List.all_cons AV.int.injEq AV.bool.injEq AV.str.injEq AV.ro.injEq AV.rop.injEq AV.agg.injEq AV.fn.injEq AV.own.injEq AV.box.injEq AV.bsl.injEq AV.elt.injEq List.cons.injEq Tok.mk.injEq Option.isSome_some exists_eq_left' exists_eq_left
end
attribute [go_sem ↓] fu cu fv cw cy fw fx fy f6 f7 cz aS
end Go.Proofs.YtnfgeocnolheoaaGreat.Ab
namespace Go.Proofs.YtnfgeocnolheoaaGreat.Ab
set_option linter.unusedVariables false
open Go.RowKit
section
variable {P:Program} {σ:St} {K:St→Prop} {pos:Nat} {dst:Option Tmp} {t t' s d:TypeId} {x y a b c g l:Operand} {f i:Nat} {op:BinOp}
def slY (t:TI) (K:TypeId→Prop) (_:Wrap K):Prop:=slX t K
@[go_sem ↓] theorem ph {t} {K}:slX t K=slY t K ⟨⟩:=rfl
@[go_sem] theorem pi {e} {K} {w}:slY (.sl e) K w=K e:=rfl
def go (t:TI) (K:IntKind→Prop) (_:Wrap K):Prop:=WX t K
@[go_sem ↓] theorem mN {t} {K}:WX t K=go t K ⟨⟩:=rfl
@[go_sem] theorem kR {k} {K} {w}:go (.int k) K w=K k:=rfl
def stY (P:Program) (t:TI) (K:List (Nat × TypeId)→Prop) (_:Wrap K):Prop:=Wd P t K
@[go_sem ↓] theorem pj {t} {K}:Wd P t K=stY P t K ⟨⟩:=rfl
@[go_sem] theorem pk {fs} {K} {w}:stY P (.st fs) K w=K fs:=rfl
@[go_sem] theorem oH {n} {el} {K} {w}:stY P (.arr n el) K w=AR (0<tsz P el) (Ay (MA (tsz P el) el n 0) K):=rfl
def mO (rows:List (List D)) (n:Int) (sz:Nat) (K:List D→Prop) (_:Wrap K):Prop:=Wa rows n sz K
@[go_sem ↓] theorem oI {rows} {n} {sz} {K}:Wa rows n sz K=mO rows n sz K ⟨⟩:=rfl
def mP {α:Type} (v:α) (K:α→Prop) (_:Wrap K):Prop:=NM v K
@[go_sem ↓] theorem oJ {α:Type} {v:α} {K:α→Prop}:NM v K=mP v K ⟨⟩:=rfl
theorem Av {α:Type} {v} {K} {w} (y:α) (h:v=y) (hk:K y):mP v K w:=⟨y,h,hk⟩
def KG (n:Nat) (rs:List RV) (K:List AV→List (Nat × Tok)→Prop) (_:Wrap K):Prop:=K (HL n rs).1 (HL n rs).2
def cv1 (n:Nat) (r:RV) (K:AV→List (Nat × Tok)→Prop):Prop:=K (conv n r).1 (conv n r).2
section
variable {n:Nat} {rs us:List RV} {L:List AV→List (Nat × Tok)→Prop} {L1:AV→List (Nat × Tok)→Prop} {w:Wrap L}
@[go_sem] theorem f8:KG n [] L w=L [] [] :=rfl
@[go_sem] theorem f9 {k} {x}:KG n (.int k x::rs) L w=KG n rs (fun vs ts=>L (.int k x::vs) ts) ⟨⟩:=by rfl
@[go_sem] theorem dA {b}:KG n (.bool b::rs) L w=KG n rs (fun vs ts=>L (.bool b::vs) ts) ⟨⟩:=by rfl
@[go_sem] theorem gA {x}:KG n (.str x::rs) L w=KG n rs (fun vs ts=>L (.str x::vs) ts) ⟨⟩:=by rfl
@[go_sem] theorem i9 {x}:KG n (.ro x::rs) L w=KG n rs (fun vs ts=>L (.any ::vs) ts) ⟨⟩:=by rfl
@[go_sem] theorem dB:KG n (.nilp ::rs) L w=KG n rs (fun vs ts=>L (.nilp ::vs) ts) ⟨⟩:=by rfl
@[go_sem] theorem jA {ap} {x}:KG n (.ow ap x::rs) L w=KG (n+1) rs (fun vs ts=>L (.own n::vs) ((n,⟨x,ap,0,false⟩)::ts)) ⟨⟩:=by rfl
@[go_sem] theorem gB:KG n (.agg us::rs) L w=KG n us (fun ws ts=>KG (n+ts.length) rs (fun vs ts'=>L (.agg ws::vs) (ts++ts')) ⟨⟩) ⟨⟩:=by rfl
@[go_sem] theorem gC:KG n (.tup us::rs) L w=KG n us (fun ws ts=>KG (n+ts.length) rs (fun vs ts'=>L (.tup ws::vs) (ts++ts')) ⟨⟩) ⟨⟩:=by rfl
@[go_sem ↓] theorem oK {k} {x}:cv1 n (.int k x) L1=L1 (.int k x) [] :=rfl
@[go_sem ↓] theorem mQ {b}:cv1 n (.bool b) L1=L1 (.bool b) [] :=rfl
@[go_sem ↓] theorem oL {x}:cv1 n (.str x) L1=L1 (.str x) [] :=rfl
@[go_sem ↓] theorem pm {x}:cv1 n (.ro x) L1=L1 .any [] :=rfl
@[go_sem ↓] theorem mR:cv1 n .nilp L1=L1 .nilp [] :=rfl
@[go_sem ↓] theorem pn {ap} {x}:cv1 n (.ow ap x) L1=L1 (.own n) [(n,⟨x,ap,0,false⟩)] :=rfl
@[go_sem ↓] theorem oM:cv1 n (.agg us) L1=KG n us (fun ws ts=>L1 (.agg ws) ts) ⟨⟩:=by rfl
@[go_sem ↓] theorem oN:cv1 n (.tup us) L1=KG n us (fun ws ts=>L1 (.tup ws) ts) ⟨⟩:=by rfl
end
attribute [go_sem ↓] f8 f9 dA gA i9 dB jA gB gC
def UO (P:Program) (L:Bool) (pos:Nat) (f:FuncId) (args:List AV) (as:Option (List AV)) (dst:Option Tmp) (σ:St) (K:St→Prop) (_:Wrap K) (w:Wrap L):Prop:=UN P L pos f args as dst σ K w
@[go_sem ↓] theorem mS {L} {wL} {f} {args} {as}:UN P L pos f args as dst σ K wL=UO P L pos f args as dst σ K ⟨⟩ wL:=rfl
theorem AH {f} {args bs} {w} {rv} (h:AC P f bs rv) (hk:Ay (pos*16) fun m=>cv1 m rv fun v ts=>AR (Dd σ ts) (K (σ.add dst ⟨v,ts,[]⟩))) {L} {wL}:UO P L pos f args (some bs) dst σ K w wL:=fZ h hk.1 hk.2
theorem Ak {f} {args bs} {w} {rv} {o} (h:AG P f bs [] [] rv [] []) (e:cls (fun _=>none) (fun _=>none) args=some bs) (hp:Tq rv=true) (hk:K (σ.add dst ⟨rv,[],[]⟩)) {L} {wL}:UO P L pos f args o dst σ K w wL:=.inl (.inr ⟨bs,rv,[],[],h,e,.inl ⟨rfl,hp,hk⟩⟩)
theorem Y4 {f} {args bs} {w} {q} {rows} {sz} {z} {o} (h:AG P f bs [] [] (.own q) [(q,⟨rows,sz,0,z⟩)] []) (e:cls (fun _=>none) (fun _=>none) args=some bs) (hk:AR (look σ.t (pos*16)=none) (K (σ.add dst ⟨.own (pos*16),[(pos*16,⟨rows,sz,0,z⟩)],[]⟩))) {L} {wL}:UO P L pos f args o dst σ K w wL:=.inl (.inr ⟨bs,.own q,_,[],h,e,.inr (.inl ⟨q,_,rfl,rfl,rfl,hk.1,hk.2⟩)⟩)
attribute [go_sem] Tq
def Y5 (y:Way) (as:List AV) (pt:List (Nat × Tok)) (pb:List (Nat × List AV)) (qt:List (Nat × Tok)) (qb:List (Nat × List AV)):Bool:=
 decide (((y.rt++y.nt).map (·.2)).Nodup)&&decide (((y.rt++y.nt).map (·.1)).Nodup)&&decide (((y.rb.map (·.2.1))++y.nb.map (·.2)).Nodup)&&decide (((y.rb.map (·.1))++y.nb.map (·.1)).Nodup)&&
 (y.rt.all fun p=>(look pt p.1).isSome)&&(y.rb.all fun p=>(look pb p.1).isSome)&&(y.nt.all fun p=>(look pt p.1).isNone)&&(y.nb.all fun p=>(look pb p.1).isNone)&&decide ((pt.map (·.1)).Nodup)&&decide ((pb.map (·.1)).Nodup)&&
 (pb.all fun p=>(look qb p.1).isSome)&&MB y.rt y.cv&&(y.md||noZ qt)&&bK as pt pb&&(y.rt.all fun p=>decide (p.1 <1000)||(look qt p.1).isNone)
def SX:List (Nat × Nat)→List (Nat × Option Tok)→Prop
 | [],_=>True
 |(_,n)::r,t=>look t n=none∧SX r t
def O1:List (Nat × Nat)→List (Nat × Option (List AV))→Prop
 | [],_=>True
 |(_,n)::r,t=>look t n=none∧O1 r t
def Y6 (y:Way) (args as:List AV) (pt:List (Nat × Tok)) (pb:List (Nat × List AV)) (σ1:St):Prop:=
 SX y.nt σ1.t∧O1 y.nb σ1.b∧Qe y.rt σ1 pt∧HM y σ1 (σ1.less y) pb∧PasL y (σ1.less y) args as
theorem Qq {t}:∀ {l},SX l t→∀p ∈ l,(look t p.2).isNone =true
 | [],_,p,h=>by cases h
 |(c,n)::l,hf,p,h=>by
  simp only [SX] at hf
  rcases List.mem_cons.1 h with rfl|h
  ·rw [hf.1]; rfl
  ·exact Qq hf.2 p h
theorem O2 {t}:∀ {l},O1 l t→∀p ∈ l,(look t p.2).isNone =true
 | [],_,p,h=>by cases h
 |(c,n)::l,hf,p,h=>by
  simp only [O1] at hf
  rcases List.mem_cons.1 h with rfl|h
  ·rw [hf.1]; rfl
  ·exact O2 hf.2 p h
theorem dC {f} {args} {σ} {as} {pt} {pb} {r} {qt} {qb} {K} (y:Way) (h:AG P f as pt pb r qt qb) (hB:Y5 y as pt pb qt qb=true)
  (hc:CX y.cv σ fun σ1=>AR (Y6 y args as pt pb σ1) (Bc y.cv (σ1.after y qt qb) fun σ2=>K (bak y r) σ2)):Ts P f args σ K:=by
 refine⟨y,as,pt,pb,r,qt,qb,h,JT (fun σ1 h=>?_) hc⟩
 unfold Y5 at hB
 simp only [Bool.and_eq_true,decide_eq_true_eq,and_assoc] at hB
 obtain⟨b1,b2,b3,b4,b5,b6,b7,b8,b9,b10,b11,b12,bm,b13,b14⟩:=hB
 obtain⟨⟨h1,h2,h3,h4,h5⟩,h6⟩:=h
 refine⟨⟨b1,b2,b3,b4,b5,b6,?_,?_,b9,b10⟩,h3,h4,h5,b11,⟨b12,bm⟩,b13,b14,h6⟩
 ·rw [List.all_eq_true] at b7 ⊢
  intro p hp
  rw [b7 p hp,Qq h1 p hp]; rfl
 ·rw [List.all_eq_true] at b8 ⊢
  intro p hp
  rw [b8 p hp,O2 h2 p hp]; rfl
theorem jB {L} {wL} {f} {args} {o} {w} {as} {pt} {pb} {r} {qt} {qb} (y:Way) (hL:L=true) (h:AG P f as pt pb r qt qb) (hB:Y5 y as pt pb qt qb=true)
  (hc:CX y.cv σ fun σ1=>AR (Y6 y args as pt pb σ1) (Bc y.cv (σ1.after y qt qb) fun σ2=>K (σ2.put dst (bak y r)))):UO P L pos f args o dst σ K w wL:=.inr ⟨hL,[],dC (K:=fun v σ'=>K (σ'.put dst v)) y h hB hc⟩
@[go_sem ↓] theorem oO {args} {K}:FzK [] args σ K=K args σ:=rfl
@[go_sem ↓] theorem mT {b} {r} {args} {s} {t} {bb} {K}:FzK (b::r) args ⟨s,t,bb⟩ K=optX ((look bb b).join) fun vs=>AR (1000≤b∧isMp vs=false) (Ay (args.map (fzA b vs)) fun args'=>FzK r args' ⟨s,t,(b,none)::bb⟩ K):=rfl
section
variable {b:Nat} {vs:List AV}
@[go_sem] theorem oP {x n sz}:fzA b vs (.bsl x n sz)=(cl (fun _=>none) (only b vs) (.bsl x n sz)).getD (.bsl x n sz):=rfl
@[go_sem] theorem oQ {x off}:fzA b vs (.box x off)=(cl (fun _=>none) (only b vs) (.box x off)).getD (.box x off):=rfl
@[go_sem] theorem oR {us}:fzA b vs (.agg us)=(cl (fun _=>none) (only b vs) (.agg us)).getD (.agg us):=rfl
@[go_sem] theorem oS {k} {n}:fzA b vs (.int k n)= .int k n:=rfl
@[go_sem] theorem mU {x}:fzA b vs (.bool x)= .bool x:=rfl
@[go_sem] theorem oU {x}:fzA b vs (.str x)= .str x:=rfl
@[go_sem] theorem po {x}:fzA b vs (.ro x)= .ro x:=rfl
@[go_sem] theorem oV {x}:fzA b vs (.own x)= .own x:=rfl
@[go_sem] theorem oW {x} {off}:fzA b vs (.rop x off)= .rop x off:=rfl
@[go_sem] theorem oX {t sz i off}:fzA b vs (.elt t sz i off)= .elt t sz i off:=rfl
@[go_sem] theorem pp {f} {x}:fzA b vs (.fn f x)= .fn f x:=rfl
@[go_sem] theorem mV:fzA b vs .nilp = .nilp :=rfl
@[go_sem] theorem mW:fzA b vs .nils = .nils :=rfl
@[go_sem] theorem oY {x}:fzA b vs (.mpr x)= .mpr x:=rfl
@[go_sem] theorem oZ:fzA b vs .any = .any :=rfl
end
attribute [go_sem] Option.getD_some Option.getD_none Option.join_some Option.bind_some Option.bind_none only
attribute [go_sem] ne_eq true_imp_iff implies_true false_imp_iff EB D.flat kept Y6 SX O1 Qe St.less Qf Rk Rl Rm XU XV St.after bak baks HM
@[go_sem ↓] theorem kS:CX [] σ K=K σ:=by rw [CX]
@[go_sem ↓] theorem jC {n} {z} {r} {s} {t} {b}:CX ((n,.nils,z)::r) ⟨s,t,b⟩ K=AR (look t n=none) (CX r ⟨s,(n,some ⟨[],z,0,false⟩)::t,b⟩ K):=by rw [CX]; rfl
@[go_sem ↓] theorem kU {n x m sz} {z} {r} {s} {t} {b}:CX ((n,.bsl x m sz,z)::r) ⟨s,t,b⟩ K=AR (m=0) (AR (look t n=none) (CX r ⟨s,(n,some ⟨[],z,0,false⟩)::t,b⟩ K)):=by rw [CX]; rfl
@[go_sem ↓] theorem kV {n t' g sz i j:Nat} {r:List (Nat × AV × Option Nat)} {s:List (Nat × AV)} {t:List (Nat × Option Tok)} {b:List (Nat × Option (List AV))}:CX ((n,.sub t' g [(sz,i,j)],none)::r) ⟨s,t,b⟩ K=
  AR (look t n=none∧n≠t') (optX (look t t').join fun tk=>AR (tk.gen=g) (optX (getP [(sz,i,j)] tk.rows) fun rows=>NM (putR [(sz,i,j)] tk.rows .gone) fun rows'=>CX r ⟨s,(n,some ⟨rows,none,0,tk.z⟩)::(t',some ⟨rows',tk.sz,g,tk.z⟩)::t,b⟩ K)):=by
 rw [CX]
 simp only [AR,optX,ID,List.length_cons,List.length_nil,true_and,Nat.zero_add]
 refine propext ⟨?_,?_⟩
 ·rintro ⟨h2,tk,rows,h4,h5,h6,h7,h8⟩; exact⟨⟨h2,h7⟩,tk,h4,h5,rows,h6,h8⟩
 ·rintro ⟨⟨h2,h7⟩,tk,h4,h5,rows,h6,h8⟩; exact⟨h2,tk,rows,h4,h5,h6,h7,h8⟩
@[go_sem ↓] theorem oa:Bc [] σ K=K σ:=by rw [Bc]
def unX (n:Nat) (K:St→Prop) (σ:St):Prop:=K {σ with t:=(n,none)::σ.t}
@[go_sem ↓] theorem pq {n} {s} {t} {b}:unX n K ⟨s,t,b⟩=K ⟨s,(n,none)::t,b⟩:=rfl
@[go_sem ↓] theorem mX {n} {z} {r}:Bc ((n,.nils,z)::r) σ K=Bc r σ (unX n K):=by rw [Bc]; rfl; grind
@[go_sem ↓] theorem oc {n x m sz} {z} {r}:Bc ((n,.bsl x m sz,z)::r) σ K=Bc r σ (unX n K):=by rw [Bc]; rfl; grind
def unS (n t' g:Nat) (p:Pth) (K:St→Prop) (σ:St):Prop:=match σ.T n with
 |some tn=>∃tk,σ.T t'=some tk∧Q3 p tk.rows=some .gone ∧(n≠t'∧okZ tk.z tn=true)∧K {σ with t:=(n,none)::(t',some ⟨putR p tk.rows (.sl tn.rows),tk.sz,if tn.gen=0∧tk.gen=g then g else tk.gen+tn.gen+1,tk.z⟩)::σ.t}
 |none=>K σ
@[go_sem ↓] theorem od {n t' g} {p} {z} {r}:Bc ((n,.sub t' g p,z)::r) σ K=Bc r σ (unS n t' g p K):=by rw [Bc]; rfl
def unO (o:Option Tok) (n t' g:Nat) (p:Pth) (K:St→Prop) (σ:St):Prop:=match o with
 |some tn=>AR (n≠t') (optX (σ.T t') fun tk=>AR (okZ tk.z tn=true) (AR (Q3 p tk.rows=some .gone) (NM (putR p tk.rows (.sl tn.rows)) fun rows=>K ⟨σ.s,(n,none)::(t',some ⟨rows,tk.sz,if tn.gen=0∧tk.gen=g then g else tk.gen+tn.gen+1,tk.z⟩)::σ.t,σ.b⟩)))
 |none=>K σ
@[go_sem ↓] theorem pr {n t' g:Nat} {p:Pth} {s:List (Nat × AV)} {t:List (Nat × Option Tok)} {b:List (Nat × Option (List AV))}:unS n t' g p K ⟨s,t,b⟩=unO (look t n).join n t' g p K ⟨s,t,b⟩:=by
 grind [unS,unO,St.T,AR,optX,ID]
@[go_sem] theorem mY {n t' g} {p} {tn}:unO (some tn) n t' g p K σ=AR (n≠t') (optX (σ.T t') fun tk=>AR (okZ tk.z tn=true) (AR (Q3 p tk.rows=some .gone) (NM (putR p tk.rows (.sl tn.rows)) fun rows=>K ⟨σ.s,(n,none)::(t',some ⟨rows,tk.sz,if tn.gen=0∧tk.gen=g then g else tk.gen+tn.gen+1,tk.z⟩)::σ.t,σ.b⟩))):=rfl
@[go_sem] theorem mZ {n t' g} {p}:unO none n t' g p K σ=K σ:=rfl
theorem En {α:Type} {l:List α} {i:Nat} {x y:α} (h:l[i]? =some x):(l.set i y)[i]? =some y:=List.getElem?_set_self (Bd h)
theorem KH {rows r} {sz i j} {row} (h:rows[i]? =some row) (hl:row.length=sz) (hj:row[j]? =some (.sl r)):getP [(sz,i,j)] rows=some r:=by
 grind [getP]
theorem KI {rows} {sz i j} {row} {d} (h:rows[i]? =some row) (hl:row.length=sz) (hj:row[j]? =some d):Q3 [(sz,i,j)] rows=some d:=by
 grind [Q3]
theorem Eo {rows} {sz i j} {row} {d d'} (h:rows[i]? =some row) (hj:row[j]? =some d'):putR [(sz,i,j)] rows d=rows.set i (row.set j d):=by
 grind [putR,Ab.put]
section
variable {y:Way} {σ0:St}
@[go_sem] theorem ma:PasL y σ0 [] [] =True:=by rfl
@[go_sem] theorem kW {a b} {as bs}:PasL y σ0 (a::as) (b::bs)=(D5 y σ0 a b∧PasL y σ0 as bs):=by rfl
@[go_sem] theorem oe {n c}:D5 y σ0 (.own n) (.own c)=(look y.rt c=some n∨∃z,∃m,look y.rt c=some m∧look y.cv m=some (.own n,z)):=by
 grind [D5]
def cvX (o:Option (AV × Option Nat)) (a:AV):Prop:=match o with|some x=>x.1 =a|none=>False
theorem Uz {o} {a}:(∃z,o=some (a,z))=cvX o a:=by
 unfold cvX
 grind
def rtX (o:Option Nat) (K:Nat→Prop):Prop:=match o with|some n=>K n|none=>False
@[go_sem] theorem me {n} {K}:rtX (some n) K=K n:=rfl
@[go_sem] theorem mf {x} {a}:cvX (some x) a=(x.1 =a):=rfl
theorem RT {o} {p}:(∃n,o=some n∧p n)=rtX o p:=by
 cases o <;> simp [rtX]
@[go_sem] theorem og {t g c} {p}:D5 y σ0 (.sub t g p) (.own c)=rtX (look y.rt c) fun n=>cvX (look y.cv n) (.sub t g p):=by
 rw [← RT]
 grind [D5,Uz]
@[go_sem] theorem mg {c}:D5 y σ0 .nils (.own c)=rtX (look y.rt c) fun n=>cvX (look y.cv n) .nils :=by
 rw [← RT]
 grind [D5,Uz]
@[go_sem] theorem oh {x m sz c}:D5 y σ0 (.bsl x m sz) (.own c)=rtX (look y.rt c) fun n=>cvX (look y.cv n) (.bsl x m sz):=by
 rw [← RT]
 grind [D5,Uz]
@[go_sem] theorem ol {n off b off'}:D5 y σ0 (.box n off) (.box b off')=match look y.rb b with|some q=>n=q.1 ∧off=q.2 +off'|none=>False:=by
 simp only [D5,AV.box.injEq]
 cases look y.rb b <;> simp
@[go_sem] theorem om {n sz i off c sz' i' off'}:D5 y σ0 (.elt n sz i off) (.elt c sz' i' off')=rtX (look y.rt c) fun m=>n=m∧sz=sz'∧i=i'∧off=off':=by
 rw [← RT]
 grind [D5]
@[go_sem] theorem oq {vs us}:D5 y σ0 (.agg vs) (.agg us)=PasL y σ0 vs us:=by rfl
@[go_sem] theorem pv {f f'} {vs us}:D5 y σ0 (.fn f vs) (.fn f' us)=(f=f'∧PasL y σ0 vs us):=by rfl
@[go_sem] theorem ot {n b}:D5 y σ0 (.mpr n) (.mpr b)=match look y.rb b with|some q=>n=q.1 |none=>False:=by
 simp only [D5,AV.mpr.injEq]
 cases look y.rb b <;> simp
def clW (y:Way) (σ0:St) (a:AV):Option AV:=cl (if y.md=true then fun _=>none else σ0.T) (if y.md=true then fun _=>none else σ0.B) a
@[go_sem] theorem ou {a} {k} {n}:D5 y σ0 a (.int k n)=(clW y σ0 a=some (.int k n)):=by cases a <;> simp only [D5,clW]
@[go_sem] theorem mh {a} {b}:D5 y σ0 a (.bool b)=(clW y σ0 a=some (.bool b)):=by cases a <;> simp only [D5,clW]
@[go_sem] theorem ov {a} {s}:D5 y σ0 a (.str s)=(clW y σ0 a=some (.str s)):=by cases a <;> simp only [D5,clW]
@[go_sem] theorem pw {a} {rows}:D5 y σ0 a (.ro rows)=(clW y σ0 a=some (.ro rows)):=by cases a <;> simp only [D5,clW]
@[go_sem] theorem oz {a} {vs} {off}:D5 y σ0 a (.rop vs off)=narR (clW y σ0 a) vs off:=by cases a <;> simp only [D5,clW]
@[go_sem] theorem mi {us} {o'} {vs} {off}:narR (some (.rop us o')) vs off=((us=vs∧o'=off)∨(off=0∧Fg us o' vs.length=vs)):=rfl
@[go_sem] theorem mj {a}:D5 y σ0 a .nilp =(clW y σ0 a=some .nilp):=by cases a <;> simp only [D5,clW]
@[go_sem] theorem o0 {a} {q} {rows}:D5 y σ0 a (.mpc q rows)=(clW y σ0 a=some (.mpc q rows)):=by cases a <;> simp only [D5,clW]
@[go_sem] theorem o3 {a}:D5 y σ0 a .any =(clW y σ0 a=some .any):=by cases a <;> simp only [D5,clW]
@[go_sem] theorem px {cv rt rb nt nb} {a}:clW ⟨cv,rt,rb,nt,nb,true⟩ σ0 a=cl (fun _=>none) (fun _=>none) a:=by rfl
@[go_sem] theorem py {cv rt rb nt nb} {a}:clW ⟨cv,rt,rb,nt,nb,false⟩ σ0 a=cl σ0.T σ0.B a:=by rfl
end
def gD (P:Program) (t:TypeId) (v:AV) (σ:St) (K:Bool→Prop) (_:Wrap K):Prop:=X5 P t v σ K
@[go_sem] theorem kX {K} {w}:gD P t .nils σ K w=AR (slP (ti P t)) (K true):=UM
@[go_sem] theorem ml {b n sz} {K} {w}:gD P t (.bsl b n sz) σ K w=AR (slP (ti P t)) (K false):=WU
@[go_sem ↓] theorem kY:opX P pos dst (.makeMap t none) σ K=optX (bJ P t) fun q=>AR (look σ.b pos=none) (K ((σ.put dst (.mpr pos)).setB pos [.mpc q []])):=by
 rw [P6 (fun _=>by rfl)]
 simp only [Ev,optX,AR]
 refine propext ⟨?_,?_⟩
 ·rintro ⟨r,⟨q,h1,rfl⟩,-,h2,h3⟩
  exact⟨q,h1,h2.1,by rw [← J2]; exact h3⟩
 ·rintro ⟨q,h1,h2,h3⟩
  exact⟨_,⟨q,h1,rfl⟩,trivial,⟨h2,trivial⟩,by rw [J2]; exact h3⟩
def lkR (ok:Bool) (o:Option D) (z:AV) (K:AV→Prop):Prop:=K (if ok=true then .tup [(o.map ofD).getD z,.bool o.isSome] else (o.map ofD).getD z)
@[go_sem] theorem pz {o} {z} {K}:lkR false o z K=Ay ((o.map ofD).getD z) K:=by rfl
@[go_sem] theorem p5 {o} {z} {K}:lkR true o z K=Ay ((o.map ofD).getD z) fun v=>Ay o.isSome fun b=>K (.tup [v,.bool b]):=by rfl
def lkX (P:Program) (t:TypeId) (u v:AV) (ok:Bool) (σ:St) (K:AV→Prop):Prop:=∃r,Qc P σ.B t u v ok r∧K r
@[go_sem] theorem o4 {b} {v} {ok} {K}:lkX P t (.mpr b) v ok σ K=X7 (ti P t) fun kt et=>Wc (σ.B b) fun q rows=>AR (Vi P kt=some q) (optX (keyD v) fun k=>AR (Uh q k=true) (optX (tz1 P et) fun z=>Ay (zAV z) fun z'=>Ay (IJ k rows) fun o=>lkR ok o z' K)):=by
 simp only [lkX,Qc,X7,Wc,AR,optX,Ay,lkR]
 grind
@[go_sem ↓] theorem mm {ok}:opX P pos dst (.lookup t x y ok) σ K=Ay (σ.e x) fun u=>Ay (σ.e y) fun v=>lkX P t u v ok σ fun r=>K (σ.put dst r):=
 G8 (p:=fun v=>Qc P σ.B t (σ.e x) (σ.e y) ok v) (fun _=>by rfl) (fun r=>by rfl)
def UP (a:AV):Option D:=match LD [a] with|some [d] =>some d|_=>none
@[go_sem] theorem kZ {k} {n}:UP (.int k n)=some (.int k n):=rfl
@[go_sem] theorem jD {b}:UP (.bool b)=some (.bool b):=rfl
@[go_sem] theorem kc {s}:UP (.str s)=some (.str s):=rfl
theorem dD {a} {d}:LD [a] =some [d] ↔UP a=some d:=by
 unfold UP
 cases a <;> simp [LD]
def muX (P:Program) (t:TypeId) (u v x:AV) (σ:St) (K:St→Prop):Prop:=Vj P t u v x σ K
@[go_sem] theorem o5 {b:Nat} {v x:AV}:muX P t (.mpr b) v x σ K=X7 (ti P t) fun kt et=>Wc (σ.B b) fun q rows=>AR (rows.length<68719476736) (AR (Vi P kt=some q) (optX (keyD v) fun k=>AR (Uh q k=true) (optX (UP x) fun d=>NM (mput k d rows) fun rows'=>K (σ.setB b [.mpc q rows'])))):=by
 simp only [muX,Vj,X7,Wc,AR,optX,ID]
 grind [dD]
@[go_sem ↓] theorem gp {m i}:opX P pos dst (.mapUpdate t m i x) σ K=Ay (σ.e m) fun u=>Ay (σ.e i) fun v=>Ay (σ.e x) fun z=>muX P t u v z σ fun σ'=>K (σ'.put dst .any):=by
 rfl
attribute [go_sem] keyD
@[go_sem] theorem mn {k} {n}:Uh (.int k) (.int k n)=true:=by simp [Uh]
@[go_sem] theorem mo {s}:Uh .str (.str s)=true:=rfl
@[go_sem ↓] theorem p6:opX P pos dst (.pick c a b) σ K=Ay (σ.e c) fun u=>Ay (σ.e a) fun v=>Ay (σ.e b) fun w=>SW u v w fun v=>K (σ.put dst v):=iY
@[go_sem ↓] theorem p7:opX P pos dst (.load t a) σ K=Ay (σ.e a) fun u=>MV P t u σ fun v=>K (σ.put dst v):=iZ
@[go_sem ↓] theorem jE:opX P pos dst (.nilCheck x) σ K=Ay (σ.e x) fun u=>Ux u fun v=>K (σ.put dst v):=X2
@[go_sem ↓] theorem ke {y}:opX P pos dst (.binOp op t x (.tmp y) t') σ K=Ay (σ.e x) fun u=>Ay (σ.g y) fun v=>Bx P op t u v fun v=>K (σ.put dst v):=aG
@[go_sem ↓] theorem kf {k} {n}:opX P pos dst (.binOp op t x (.const (.int k n)) t') σ K=Ay (σ.e x) fun u=>Bx P op t u (.int k n) fun v=>K (σ.put dst v):=aH
@[go_sem ↓] theorem jF {b}:opX P pos dst (.binOp op t x (.const (.bool b)) t') σ K=Ay (σ.e x) fun u=>Bx P op t u (.bool b) fun v=>K (σ.put dst v):=X3
@[go_sem ↓] theorem kh {b}:opX P pos dst (.binOp op t x (.const (.string b)) t') σ K=Ay (σ.e x) fun u=>Bx P op t u (.str b) fun v=>K (σ.put dst v):=aI
@[go_sem ↓] theorem jG:opX P pos dst (.binOp op t x (.const (.pointer none)) t') σ K=Ay (σ.e x) fun u=>Bx P op t u .nilp fun v=>K (σ.put dst v):=X4
@[go_sem ↓] theorem mq:opX P pos dst (.binOp .eql t x (.const (.slice none 0 0)) t') σ K=Ay (σ.e x) fun u=>gD P t u σ (fun b=>K (σ.put dst (.bool b))) ⟨⟩:=cP
@[go_sem ↓] theorem mr:opX P pos dst (.binOp .neq t x (.const (.slice none 0 0)) t') σ K=Ay (σ.e x) fun u=>gD P t u σ (fun b=>K (σ.put dst (.bool !b))) ⟨⟩:=cQ
@[go_sem ↓] theorem p8 {op}:opX P pos dst (.unOp op t x) σ K=Ay (σ.e x) fun u=>WW op u fun v=>K (σ.put dst v):=im
@[go_sem ↓] theorem kj:opX P pos dst (.convert s d x) σ K=Ay (σ.e x) fun u=>MW P s d u σ fun v=>K (σ.put dst v):=aK
@[go_sem ↓] theorem gq:opX P pos dst (.fieldAddr s x f) σ K=Ay (σ.e x) fun u=>faX P s u f fun v=>K (σ.put dst v):=WZ
@[go_sem ↓] theorem o6:opX P pos dst (.field s x f) σ K=Ay (σ.e x) fun u=>fdX P s u f fun v=>K (σ.put dst v):=fJ
@[go_sem ↓] theorem gr:opX P pos dst (.indexAddr t x y) σ K=Ay (σ.e x) fun u=>Ay (σ.e y) fun v=>iaX P t u v σ fun v=>K (σ.put dst v):=Wb
@[go_sem ↓] theorem o7 {l h}:opX P pos dst (.slice t x l h none) σ K=Ay (σ.e x) fun u=>aN P σ.T t u (l.map σ.e) (h.map σ.e) fun v=>K (σ.put dst v):=fL
@[go_sem ↓] theorem o8:opX P pos dst (.index t x y) σ K=Ay (σ.e x) fun u=>Ay (σ.e y) fun v=>elX P t u v fun v=>K (σ.put dst v):=fK
@[go_sem ↓] theorem kl:opX P pos dst (.extract x i) σ K=Ay (σ.e x) fun u=>aO u i fun v=>K (σ.put dst v):=aP
@[go_sem ↓] theorem qR:opX P pos dst (.call ⟨.builtin .len,List.toArray [x],List.toArray [t]⟩) σ K=Ay (σ.e x) fun u=>NL P t u σ fun v=>K (σ.put dst v):=l6
@[go_sem ↓] theorem qS {ts}:opX P pos dst (.call ⟨.builtin .max,List.toArray [x,y],ts⟩) σ K=Ay (σ.e x) fun u=>Ay (σ.e y) fun v=>Q5 (fun n m=>if n<m then m else n) u v fun v=>K (σ.put dst v):=l7
@[go_sem ↓] theorem qT {ts}:opX P pos dst (.call ⟨.builtin .min,List.toArray [x,y],ts⟩) σ K=Ay (σ.e x) fun u=>Ay (σ.e y) fun v=>Q5 (fun n m=>if m<n then m else n) u v fun v=>K (σ.put dst v):=l8
@[go_sem ↓] theorem qU:opX P pos dst (.box t x) σ K=Ay (cellsOf (σ.e x)) fun cs=>bxX pos cs dst (.box pos 0) σ K:=mD
@[go_sem ↓] theorem o9:opX P pos dst (.alloc t) σ K=AR (0<(tz P t).length) (Ay ((tz P t).map zAV) fun vs=>bxX pos (some vs) dst (.box pos 0) σ K):=fT
@[go_sem ↓] theorem pA {parts}:opX P pos dst (.build t parts.toArray) σ K=Wd P (ti P t) fun fs=>AR ((fs.all fun q=>decide (0<tsz P q.2))=true∧0<(tz P t).length) (Ay ((tz P t).map zAV) fun vs=>Ay (pvs σ parts) fun ps=>bpX P fs vs ps fun v=>K (σ.put dst v)):=fX
@[go_sem ↓] theorem gu:opX P pos dst (.makeSlice t l c) σ K=slX (ti P t) fun e=>Ay (σ.e l) fun u=>Ay (σ.e c) fun v=>mkX P pos e u v dst σ K:=We
@[go_sem ↓] theorem p9 {L} {wL} {args} {ts}:opL P L pos dst (.call ⟨.value g,args.toArray,ts⟩) σ K wL=Ay (σ.e g) fun u=>Ay (evs σ args) fun vs=>clX P L pos u vs dst σ K wL:=i4
@[go_sem ↓] theorem pB:opX P pos dst (.store t a x) σ K=Ay (σ.e a) fun u=>Ay (cellsOf (σ.e x)) fun cs=>stX P t u cs σ fun σ'=>K (σ'.put dst .any):=fj
@[go_sem ↓] theorem ms:opX P pos dst (.call ⟨.builtin .append,List.toArray [x,y],List.toArray [t,t]⟩) σ K=slX (ti P t) fun e=>Ay (σ.e x) fun u=>Ay (σ.e y) fun v=>apX P pos e u v dst σ K:=ct
def apE (P:Program) (pos:Nat) (e:TypeId) (u v:AV) (dst:Option Tmp) (σ:St) (K:St→Prop):Prop:=Yh u=true∧match v with
 | .ro rows=>(0<tsz P e∧(tz P e).length =tsz P e)∧∃z,roZ z (tsz P e) rows fun rows=>(rows.length*P.bytesOf e≤140737488355328∧rows.length≤maxLen)∧look σ.t (pos*16)=none∧K ((σ.setT (pos*16) ⟨rows,some (tsz P e),0,z⟩).put dst (.own (pos*16)))
 |_=>False
theorem dE {z} {sz} {rows} {K K'} (h:∀r,K r→K' r) (k:roZ z sz rows K):roZ z sz rows K':=by
 cases z
 ·exact⟨k.1,h _ k.2⟩
 ·exact⟨k.1,h _ k.2⟩
def roX (z:Bool) (sz:Nat) (rows:List (List D)) (K:List (List D)→Prop):Prop:=roZ z sz rows K
@[go_sem] theorem qV {sz} {rows} {K}:roX false sz rows K=AR (∀row ∈ rows,row.length=sz∧∀d ∈ row,d.flat=true) (K rows):=rfl
@[go_sem] theorem qW {sz:Nat} {rows:List (List D)} {K:List (List D)→Prop}:roX true sz rows K=AR (∀row ∈ rows,row.length=sz∧∀d ∈ row,d≠ .gone) (NM (fzR rows) fun r=>K r):=by
 grind [roX,roZ,AR,ID]
@[go_sem] theorem qA {e:TypeId} {u:AV} {rows:List (List D)}:apE P pos e u (.ro rows) dst σ K=AR (Yh u=true) (AR (0<tsz P e∧(tz P e).length =tsz P e) (zX fun z=>roX z (tsz P e) rows fun rows=>AR (rows.length*P.bytesOf e≤140737488355328∧rows.length≤maxLen) (AR (look σ.t (pos*16)=none) (NM rows fun rows=>K ((σ.setT (pos*16) ⟨rows,some (tsz P e),0,z⟩).put dst (.own (pos*16))))))):=by simp only [ID]; rfl
@[go_sem ↓] theorem qB:opE P pos dst (.call ⟨.builtin .append,List.toArray [x,y],List.toArray [t,t]⟩) σ K=slX (ti P t) fun e=>Ay (σ.e x) fun u=>Ay (σ.e y) fun v=>apE P pos e u v dst σ K:=by
 unfold opE
 simp only [Ev,ky,slX,true_and,Ay]
 generalize σ.e x=u
 generalize σ.e y=v
 refine propext ⟨?_,?_⟩
 ·rintro ⟨r,⟨h1,h2⟩,h3,h4,h5⟩
  split at h2
  ·rename_i el rows hel
   obtain⟨h6,z,h7⟩:=h2
   rw [hel]
   refine⟨h1,h6,z,dE (fun rows h8=>?_) h7⟩
   obtain⟨h9,rfl⟩:=h8
   refine⟨h9,h3.1,?_⟩
   cases dst <;> exact h5
  grind
 ·intro h
  generalize hti:ti P t=q at h ⊢
  cases q with
  | sl el=>
   cases v with
   | ro rows=>
    obtain⟨h1,h6,z,h7⟩:=h
    cases z with
    |false=>
     obtain⟨h8,h9,h10,h5⟩:=h7
     exact⟨_,⟨h1,h6,false,h8,h9,rfl⟩,⟨h10,trivial⟩,trivial,by cases dst <;> exact h5⟩
    |true=>
     obtain⟨h8,h9,h10,h5⟩:=h7
     exact⟨_,⟨h1,h6,true,h8,h9,rfl⟩,⟨h10,trivial⟩,trivial,by cases dst <;> exact h5⟩
   |_=>exact h.2.elim
  |_=>exact h.elim
@[go_sem ↓] theorem qC {e:TypeId} {u v:AV}:apX P pos e u v dst σ K=AR (0<tsz P e∧(tz P e).length =tsz P e) (zX fun z=>Rj z e (tsz P e) u σ fun rows σ1=>NJ z (tsz P e) v σ1 fun rows2 σ2=>
   AR ((rows.length+rows2.length)*P.bytesOf e≤140737488355328∧rows.length+rows2.length≤maxLen) (AR (look σ2.t (pos*16)=none) (NM (rows++rows2) fun rows=>K ((σ2.setT (pos*16) ⟨rows,some (tsz P e),0,z⟩).put dst (.own (pos*16)))))):=by simp only [ID]; rfl
end
attribute [go_sem] zAV
section
variable {P:Program} {σ:St} {K:St→Prop} {ops:Array Oper} {base cut i:Nat}
@[go_sem] theorem jH {x} {xs b} {w1} {w2} {w3} {w4}:J1 P ops base cut i (List.append (x::xs) b) σ K w1 w2 w3 w4=J1 P ops base cut i (x::List.append xs b) σ K w1 ⟨⟩ w3 w4:=rfl
@[go_sem] theorem km {b} {w1} {w2} {w3} {w4}:J1 P ops base cut i (List.append [] b) σ K w1 w2 w3 w4=J1 P ops base cut i b σ K w1 ⟨⟩ w3 w4:=rfl
@[go_sem] theorem ko {a b c} {w1} {w2} {w3} {w4}:J1 P ops base cut i (List.append (List.append a b) c) σ K w1 w2 w3 w4=J1 P ops base cut i (List.append a (List.append b c)) σ K w1 ⟨⟩ w3 w4:=by
 unfold J1; rw [show List.append (List.append a b) c=List.append a (List.append b c) from List.append_assoc a b c]
@[go_sem ↓] theorem dF {dst} {op} {type} {ps} {after} {g} {rest b} {K}:Kh (List.toArray (List.append (⟨some dst,op,type,ps,after,g⟩::rest) b)) 0 K=K dst:=by
 grind [List.append,Xy]
@[go_sem ↓] theorem dG {o} {rest b} {j} {K}:Kh (List.toArray (List.append (o::rest) b)) (j+1) K=Kh (List.toArray (List.append rest b)) j K:=by
 grind [List.append,Xz]
@[go_sem ↓] theorem eE {b} {j} {K}:Kh (List.toArray (List.append [] b)) j K=Kh b.toArray j K:=rfl
@[go_sem ↓] theorem eF {a b c} {j} {K}:Kh (List.toArray (List.append (List.append a b) c)) j K=Kh (List.toArray (List.append a (List.append b c))) j K:=by
 rw [show List.append (List.append a b) c=List.append a (List.append b c) from List.append_assoc a b c]
@[go_sem] theorem pC {a b:List Oper} {p:Oper→Bool}:List.all (List.append a b) p=(List.all a p&&List.all b p):=List.all_append
end
end Go.Proofs.YtnfgeocnolheoaaGreat.Ab
namespace Go.Proofs.YtnfgeocnolheoaaGreat.Ab
set_option linter.unusedVariables false
set_option maxHeartbeats 1000000
open Go.RowKit
def pos (P:Program):Code→List Nat→(AE→St→Prop)→St→Prop
 |c,[],Q=>awp P c Q
 | .seq a b,0::p,Q=>pos P a p (AE.then (eS (JN a) (awp P b Q)) Q)
 | .seq a b,_::p,Q=>pos P b p Q
 | .cond _ a b,0::p,Q=>pos P a p Q
 | .cond _ a b,_::p,Q=>pos P b p Q
 | .block id c,_::p,Q=>pos P c p (AE.inBlock id Q)
 | .loop c,_::p,Q=>pos P c p (AE.then (lpX P c Q) Q)
 |_,_,_=>fun _=>False
def Af (P:Program) (fn:Func) (p:List Nat) (r:RV) (σ:St):Prop:=pos P (fn.body.getD .skip) p (endX P fn.results.toList r) σ
def dH (r:AV) (qt:List (Nat × Tok)) (qb:List (Nat × List AV)) (v:AV) (σ:St):Prop:=Wk ⟨[(0,v)],σ.t,σ.b⟩ ⟨[(0,r)],MS qt,MT qb⟩
def UQ (r:AV) (qt:List (Nat × Tok)) (qb:List (Nat × List AV)) (σ:St) (vs:List AV):Prop:=dH r qt qb (oneA vs) σ
@[go_sem ↓] theorem mt {r} {qt} {qb} {σ}:UQ r qt qb σ [] =dH r qt qb (.tup []) σ:=rfl
@[go_sem ↓] theorem mu {r v} {qt} {qb} {σ}:UQ r qt qb σ [v] =dH r qt qb v σ:=rfl
@[go_sem ↓] theorem mw {r v u} {vs} {qt} {qb} {σ}:UQ r qt qb σ (v::u::vs)=dH r qt qb (.tup (v::u::vs)) σ:=rfl
def MX (P:Program) (l:List ResultVar) (r:AV) (qt:List (Nat × Tok)) (qb:List (Nat × List AV)) (q:AE) (σ:St):Prop:=match q with| .exit _=>False|_=>NK P σ l (UQ r qt qb σ)
@[go_sem ↓] theorem gv {P} {l} {r} {qt} {qb} {σ}:MX P l r qt qb .normal σ=NK P σ l (UQ r qt qb σ):=rfl
@[go_sem ↓] theorem mx {P} {l} {r} {qt} {qb} {σ}:MX P l r qt qb .ret σ=NK P σ l (UQ r qt qb σ):=rfl
theorem Aj {r v} {qt} {qb} {σ σ1} (hn:Nils ⟨[(0,v)],σ.t,σ.b⟩ σ1) (rt rb:List (Nat × Nat)) (h:LG rt rb σ1 ⟨[(0,r)],MS qt,MT qb⟩):dH r qt qb v σ:=.one ⟨σ1,hn,rt,rb,h⟩
attribute [go_sem] MS MT stG bL bM oneA
theorem my {P} (hm:P.follows .mixedOrders =true) {f} {fn} {c} {l} {args} {pt} {pb} {r} {qt} {qb} (hf:P.funcs[f]? =some fn) (hb:fn.body=some c) (hr:fn.results=l.toArray) (hnm:(fn.name == "runtime.NumGoroutine")=false)
  (hn:decide (args.length≤fn.ntmps)=true) (hok:GY fn.ntmps c=true) (h:awp P c (MX P l r qt qb) (stG args pt pb)):AG P f args pt pb r qt qb:=by
 refine Xr hm hf hb hnm (of_decide_eq_true hn) hok ?_
 have e:endG P fn.results.toList r qt qb=MX P l r qt qb:=by
  rw [hr]
  funext q σ
  cases q <;> rfl
 rw [e]
 exact h
def EM (P:Program) (fn:Func) (p:List Nat) (r:AV) (qt:List (Nat × Tok)) (qb:List (Nat × List AV)) (σ:St):Prop:=pos P (fn.body.getD .skip) p (MX P fn.results.toList r qt qb) σ
section
variable {P:Program} {σ:St} {Q:AE→St→Prop}
theorem BI {fn} {c} {l} {p} {r} {qt} {qb} (hb:fn.body=some c) (hr:fn.results=l.toArray) (h:pos P c p (MX P l r qt qb) σ):EM P fn p r qt qb σ:=by
 grind [EM]
theorem Iz {fn} {c} {l} {p} {r} {qt} {qb} (hb:fn.body=some c) (hr:fn.results=l.toArray) (h:EM P fn p r qt qb σ):pos P c p (MX P l r qt qb) σ:=by
 grind [EM]
theorem AL {fn} {c} {l} {p} {r} (hb:fn.body=some c) (hr:fn.results=l.toArray) (h:pos P c p (endX P l r) σ):Af P fn p r σ:=by
 grind [Af]
theorem C3 {fn} {c} {l} {p} {r} (hb:fn.body=some c) (hr:fn.results=l.toArray) (h:Af P fn p r σ):pos P c p (endX P l r) σ:=by
 grind [Af]
@[go_sem ↓] theorem pE {c}:pos P c [] Q σ=awp P c Q σ:=by cases c <;> rfl
@[go_sem ↓] theorem mz {a b} {p}:pos P (.seq a b) (0::p) Q σ=pos P a p (AE.then (eS (JN a) (awp P b Q)) Q) σ:=rfl
@[go_sem ↓] theorem m5 {a b} {p}:pos P (.seq a b) (1::p) Q σ=pos P b p Q σ:=rfl
@[go_sem ↓] theorem kq {c} {a b} {p}:pos P (.cond c a b) (0::p) Q σ=pos P a p Q σ:=rfl
@[go_sem ↓] theorem kr {c} {a b} {p}:pos P (.cond c a b) (1::p) Q σ=pos P b p Q σ:=rfl
@[go_sem ↓] theorem ku {id} {c} {p}:pos P (.block id c) (0::p) Q σ=pos P c p (AE.inBlock id Q) σ:=rfl
@[go_sem ↓] theorem m6 {c} {p}:pos P (.loop c) (0::p) Q σ=pos P c p (AE.then (lpX P c Q) Q) σ:=rfl
theorem jI {c} {σ σ1} (hw:Wk σ σ1) (h:awp P (.loop c) Q σ1):awp P (.loop c) Q σ:=by
 rw [awp] at h ⊢
 intro L hL
 obtain⟨σ0,h1,h2⟩:=h L hL
 exact⟨σ0,hw.trans h1,h2⟩
theorem D9 {b} {w1} {w2} {σ1} (h:awp P (.loop b) Q σ1) (hw:Wk σ σ1):WQ P b Q σ w1 w2:=jI hw h
end
mutual
theorem OH {rt rb}:∀ {a},Dl a=true→Fn rt rb a=true∧ren rt rb a=a
 | .int _ _,_=>⟨rfl,rfl⟩
 | .bool _,_=>⟨rfl,rfl⟩
 | .str _,_=>⟨rfl,rfl⟩
 | .ro _,_=>⟨rfl,rfl⟩
 | .nilp,_=>⟨rfl,rfl⟩
 | .rop vs off,h=>by
  simp only [Dl] at h
  obtain⟨h1,h2⟩:=HA (rt:=rt) (rb:=rb) h
  simp only [Fn,ren]
  exact⟨h1,by rw [h2]⟩
 | .fn f vs,h=>by
  simp only [Dl] at h
  obtain⟨h1,h2⟩:=HA (rt:=rt) (rb:=rb) h
  simp only [Fn,ren]
  exact⟨h1,by rw [h2]⟩
 | .agg vs,h=>by
  simp only [Dl] at h
  obtain⟨h1,h2⟩:=HA (rt:=rt) (rb:=rb) h
  simp only [Fn,ren]
  exact⟨h1,by rw [h2]⟩
theorem HA {rt rb}:∀ {as},Cl as=true→HN rt rb as=true∧rens rt rb as=as
 | [],_=>⟨rfl,rfl⟩
 |a::as,h=>by
  simp only [Cl,Bool.and_eq_true] at h
  obtain⟨h1,h2⟩:=OH (rt:=rt) (rb:=rb) h.1
  obtain⟨h3,h4⟩:=HA (rt:=rt) (rb:=rb) h.2
  simp only [HN,rens,h1,h2,h3,h4,Bool.and_self,and_self]
end
mutual
theorem Y7 {T} {B}:∀ {a},Dl a=true→cl T B a=some a
 | .int _ _,_=>rfl
 | .bool _,_=>rfl
 | .str _,_=>rfl
 | .ro _,_=>rfl
 | .nilp,_=>rfl
 | .rop vs off,h=>by simp only [Dl] at h; simp only [cl,JV h,Option.map_some]
 | .fn f vs,h=>by simp only [Dl] at h; simp only [cl,JV h,Option.map_some]
 | .agg vs,h=>by simp only [Dl] at h; simp only [cl,JV h,Option.map_some]
theorem JV {T} {B}:∀ {as},Cl as=true→cls T B as=some as
 | [],_=>rfl
 |a::as,h=>by
  simp only [Cl,Bool.and_eq_true] at h
  simp only [cls,Y7 h.1,JV h.2]
end
structure Still (vs:List AV):Prop where
 p:Cl vs=true
 o:Na vs=true
 k:∀rt rb,HN rt rb vs=true
 r:∀rt rb,rens rt rb vs=vs
 c:∀T B,cls T B vs=some vs
 f:∀T B as,cls T B (fnA vs as)=(cls T B as).map (fnA vs)
theorem OI {T} {B}:∀ {as bs:List AV},cls T B (as++bs)=(cls T B as).bind fun xs=>(cls T B bs).map fun ys=>xs++ys
 | [],bs=>by simp only [List.nil_append,cls,Option.bind_some]; cases cls T B bs <;> rfl
 | a::as,bs=>by
  simp only [List.cons_append,cls,OI (as:=as)]
  cases cl T B a with
  |none=>simp
  |some x=>
   cases cls T B as with
   |none=>simp
   |some xs=>cases cls T B bs <;> simp
theorem gE {vs} (h:Cl vs=true) (T B as):cls T B (fnA vs as)=(cls T B as).map (fnA vs):=by
 have h0:∀ {us},Cl us=true→cls T B (as++us)=(cls T B as).map (· ++us):=fun hu=>by
  rw [OI,JV hu]; cases cls T B as <;> rfl
 unfold fnA
 split
 ·rename_i fs cs
  simp only [Cl,Dl,Bool.and_eq_true] at h
  rw [OI,JV h.1,h0 h.2]
  cases cls T B as <;> rfl
 grind
theorem Still.of {vs} (h:Cl vs=true) (ho:Na vs=true:=by rfl):Still vs:=⟨h,ho,fun _ _=>(HA h).1,fun _ _=>(HA h).2,fun _ _=>JV h,gE h⟩
def Sub (a b:AV):Prop:=∀w γ v,VSim w γ a v→VSim w γ b v
theorem Sub.refl (a:AV):Sub a a:=fun _ _ _ h=>h
theorem Sub.rop {vs us} {off} (h:(vs.drop off).take us.length=us):Sub (.rop vs off) (.rop us 0):=fun w γ v hv=>by
 simp only [VSim] at hv ⊢
 obtain⟨b,o,xs,rfl,h1,h2⟩:=hv
 refine⟨b,o+off,(xs.drop off).take us.length,rfl,?_,fun j u hu=>?_⟩
 ·have:=h1.take_drop off us.length
  grind [Fg]
 grind
def SY:List AV→List AV→Prop
 | [],[] =>True
 |a::as,b::bs=>Sub a b∧SY as bs
 |_,_=>False
theorem SY.nil:SY [] [] :=trivial
theorem SY.cons {a b} {as bs} (h:Sub a b) (k:SY as bs):SY (a::as) (b::bs):=⟨h,k⟩
theorem SY.vsims {w} {γ}:∀ {as bs} {us},SY as bs→AI w γ as us→AI w γ bs us
 | [],[],us,_,h=>h
 |a::as,b::bs,us,h,hv=>by
  simp only [AI] at hv ⊢
  obtain⟨u,us',rfl,h1,h2⟩:=hv
  exact⟨u,us',rfl,h.1 _ _ _ h1,SY.vsims h.2 h2⟩
 | [],_::_,_,h,_=>h.elim
 |_::_,[],_,h,_=>h.elim
theorem U0 {P} {f} {as bs} {r} (k:AC P f bs r) (h:SY as bs):AC P f as r:=
 ⟨k.1,fun w us h1 h2 ha h3=>k.2 w us h1 h2 ha (h.vsims h3)⟩
theorem dI {P} {f} {as bs} {pt pb} {r} {qt qb} (k:AG P f bs pt pb r qt qb) (h:SY as bs):AG P f as pt pb r qt qb:=
 ⟨k.1,fun cx γ us a b c d e g=>k.2 cx γ us a b c d e (h.vsims g)⟩
def prB (p:Int × Bool):List D:=[.int .i64 p.1,.bool p.2]
def prI (p:Int × Int):List D:=[.int .i64 p.1,.int .i64 p.2]
def Wf {β:Type}:List (Int × β)→Int→Option β
 | [],_=>none
 |p::l,k=>if k=p.1 then some p.2 else Wf l k
theorem aU {l} {k}:IJ (.int .i64 k) (List.map prB l)=(Wf l k).map D.bool:=by
 induction l with
 |nil=>rfl
 |cons p l ih=>
  grind [prB,IJ,Wf,Jz]
theorem aV {l} {k}:IJ (.int .i64 k) (List.map prI l)=(Wf l k).map (D.int .i64):=by
 induction l with
 |nil=>rfl
 |cons p l ih=>
  grind [prI,IJ,Wf,Jz]
attribute [go_sem] aU aV
def SZ (p:ByteArray × Bool):List D:=[.str p.1,.bool p.2]
def Gy {β:Type}:List (ByteArray × β)→ByteArray→Option β
 | [],_=>none
 |p::l,k=>if sameStr k p.1 =true then some p.2 else Gy l k
def Gz {β:Type}:List (ByteArray × β)→ByteArray→β→List (ByteArray × β)
 | [],k,v=>[(k,v)]
 |p::l,k,v=>if sameStr k p.1 =true then (k,v)::l else p::Gz l k v
def U1 {β:Type} (l:List (ByteArray × β)) (k:ByteArray) (v:β):Option (List (ByteArray × β)):=if l.length<68719476736 then some (Gz l k v) else none
theorem X8 {β:Type} {l r:List (ByteArray × β)} {k:ByteArray} {v:β} (h:U1 l k v=some r):l.length<68719476736∧Gz l k v=r:=by
 grind [U1]
theorem UR {a b:ByteArray}:Jz (.str a) (.str b)=sameStr a b:=by rfl
theorem X9 {l} {k}:IJ (.str k) (List.map SZ l)=(Gy l k).map D.bool:=by
 induction l with
 |nil=>rfl
 |cons p l ih=>
  grind [SZ,IJ,Gy,UR]
theorem aW {l} {k} {v}:mput (.str k) (.bool v) (List.map SZ l)=List.map SZ (Gz l k v):=by
 induction l with
 |nil=>rfl
 |cons p l ih=>
  grind [SZ,mput,Gz,UR]
attribute [go_sem] X9
@[go_sem] theorem qD {o:Option Bool} {z:Bool}:((o.map D.bool).map ofD).getD (.bool z)= .bool (o.getD z):=by cases o <;> rfl
@[go_sem] theorem qE {o:Option Int} {z:Int}:((o.map (D.int .i64)).map ofD).getD (.int .i64 z)= .int .i64 (o.getD z):=by cases o <;> rfl
@[go_sem] theorem gw {α β:Type} {o:Option α} {f:α→β}:(o.map f).isSome =o.isSome:=by cases o <;> rfl
@[irreducible] def fuel:Nat:=4611686018427387904
theorem Bg:fuel=4611686018427387904:=by grind [fuel]
def at? {α:Type} (l:List α) (i:Int):Option α:=if 0≤i then l[i.toNat]? else none
def IN {α:Type} (a b:List α):Option (List α):=if a.length+b.length≤68719476736 then some (a++b) else none
def US (a b:ByteArray):Option ByteArray:=if a.size+b.size≤9223372036854775807 then some (a++b) else none
def Q6 {α:Type} (n:Int) (z:α):Option (List α):=if 0≤n∧n≤68719476736 then some (List.replicate n.toNat z) else none
def gF {α:Type} (l:List α) (i:Int) (x:α):List α:=l.set i.toNat x
def CZ {α:Type} (l:List α) (i:Int) (x:α):Option (List α):=some (gF l i x)
theorem Al {α:Type} {l:List α} {i:Int} {x:α} {r:List α} (h:CZ l i x=some r):l.set i.toNat x=r:=Option.some.inj h
def Y8 (ns:List Int):Option ByteArray:=if ns.length≤9223372036854775807 then some (strOfNums ns) else none
theorem aX {ns} {v} (h:Y8 ns=some v):ns.length≤maxLen∧strOfNums ns=v:=by
 grind [Y8,maxLen]
theorem AB {α β:Type} {x:Option α} {k:α→Option β} {r:β} (h:Option.bind x k=some r):∃v,x=some v∧k v=some r:=by
 cases x with
 |none=>cases h
 |some v=>grind
theorem ifT {α:Type} {c:Bool} {a b r:α} (hb:c=true) (h:(if c=true then a else b)=r):a=r:=by rw [if_pos hb] at h; exact h
theorem ifF {α:Type} {c:Bool} {a b r:α} (hb:c=false) (h:(if c=true then a else b)=r):b=r:=by grind
theorem AD {b:Bool} {p q:Prop} {w:Wrap p} {w':Wrap q} {α:Type} {x y r:α} (h:(if b=true then x else y)=r) (hp:x=r→p) (hq:y=r→q):SU b p q w w':=⟨fun e=>hp (ifT e h),fun e=>hq (ifF e h)⟩
theorem U2 {α:Type} {l:List α} {i:Int} {x:α} (h:at? l i=some x):0≤i∧l[i.toNat]? =some x:=by
 grind [at?]
theorem Ca {α:Type} {a b l:List α} (h:IN a b=some l):a.length+b.length≤68719476736∧a++b=l:=by
 grind [IN]
theorem UT {a b l} (h:US a b=some l):a.size+b.size≤maxLen∧a++b=l:=by
 grind [US,maxLen]
theorem Ki {α:Type} {n:Int} {z:α} {l:List α} (h:Q6 n z=some l):0≤n∧n≤68719476736∧List.replicate n.toNat z=l:=by
 grind [Q6]
theorem AK {α:Type} {f:α→List D} {l:List α} {n:Int} {sz:Nat} {K:List D→Prop} {w:Wrap K} {x:α} (h:at? l n=some x) (hl:(f x).length =sz) (hk:K (f x)):mO (List.map f l) n sz K w:=by
 obtain⟨h0,h1⟩:=U2 h
 exact⟨f x,⟨h0,by rw [List.getElem?_map,h1]; rfl,hl⟩,hk⟩
theorem O3 {α β:Type} {f:α→β} {l r:List α} {i j:Int} (h:cutL l i j=some r):cutL (List.map f l) i j=some (List.map f r):=by
 grind [cutL,List.map_take,List.map_drop]
section
variable {P:Program} {σ:St} {Q:AE→St→Prop}
theorem Aq {K} {w1} {w2} {σ1} {fn} {c} {l} {p} {r} {qt} {qb} (h:EM P fn p r qt qb σ1) (rt rb:List (Nat × Nat)) (hb:fn.body=some c:=by rfl) (hr:fn.results=l.toArray:=by rfl) (e:pos P c p (MX P l r qt qb) σ1→K σ1:=by exact fun h=>h) (hw:LG rt rb σ σ1:=by simp only [go_sem]):WP false K σ w1 w2:=Xw (e (Iz hb hr h)) (.one ⟨_,.done _,rt,rb,hw⟩)
theorem lpG {b} {w1} {w2} {w3} {σ1} {fn} {c} {l} {p} {r} {qt} {qb} (h:EM P fn p r qt qb σ1) (rt rb:List (Nat × Nat)) (hb:fn.body=some c:=by rfl) (hr:fn.results=l.toArray:=by rfl) (e:pos P c p (MX P l r qt qb) σ1→awp P (.loop b) Q σ1:=by exact fun h=>h) (hw:LG rt rb σ σ1:=by simp only [go_sem]):lpY P b Q σ w1 w2 w3:=Ne (e (Iz hb hr h)) (.one ⟨_,.done _,rt,rb,hw⟩)
theorem loG {b} {w1} {w2} {σ1} {fn} {c} {l} {p} {r} {qt} {qb} (h:EM P fn p r qt qb σ1) (rt rb:List (Nat × Nat)) (hb:fn.body=some c:=by rfl) (hr:fn.results=l.toArray:=by rfl) (e:pos P c p (MX P l r qt qb) σ1→awp P (.loop b) Q σ1:=by exact fun h=>h) (hw:LG rt rb σ σ1:=by simp only [go_sem]):WQ P b Q σ w1 w2:=D9 (e (Iz hb hr h)) (.one ⟨_,.done _,rt,rb,hw⟩)
theorem AU {K} {w1} {w2} {σ1} {fn} {c} {l} {p} {r} (h:Af P fn p r σ1) (rt rb:List (Nat × Nat)) (hb:fn.body=some c:=by rfl) (hr:fn.results=l.toArray:=by rfl) (e:pos P c p (endX P l r) σ1→K σ1:=by exact fun h=>h) (hw:LG rt rb σ σ1:=by simp only [go_sem]):WP false K σ w1 w2:=Xw (e (C3 hb hr h)) (.one ⟨_,.done _,rt,rb,hw⟩)
theorem lpF {b} {w1} {w2} {w3} {σ1} {fn} {c} {l} {p} {r} (h:Af P fn p r σ1) (rt rb:List (Nat × Nat)) (hb:fn.body=some c:=by rfl) (hr:fn.results=l.toArray:=by rfl) (e:pos P c p (endX P l r) σ1→awp P (.loop b) Q σ1:=by exact fun h=>h) (hw:LG rt rb σ σ1:=by simp only [go_sem]):lpY P b Q σ w1 w2 w3:=Ne (e (C3 hb hr h)) (.one ⟨_,.done _,rt,rb,hw⟩)
theorem loF {b} {w1} {w2} {σ1} {fn} {c} {l} {p} {r} (h:Af P fn p r σ1) (rt rb:List (Nat × Nat)) (hb:fn.body=some c:=by rfl) (hr:fn.results=l.toArray:=by rfl) (e:pos P c p (endX P l r) σ1→awp P (.loop b) Q σ1:=by exact fun h=>h) (hw:LG rt rb σ σ1:=by simp only [go_sem]):WQ P b Q σ w1 w2:=D9 (e (C3 hb hr h)) (.one ⟨_,.done _,rt,rb,hw⟩)
theorem AF {K} {w1} {w2} {q:Prop} (h:q) (e:q→K σ:=by first|(intro h; simp only [go_sem]; exact h)|exact fun h=>h):WP false K σ w1 w2:=BF (e h)
theorem acF {f} {c} {l} {args} {r} {fn} (hf:P.funcs[f]? =some fn) (hm:P.follows .mixedOrders =true) (hb:fn.body=some c:=by rfl) (hr:fn.results=l.toArray:=by rfl) (hnm:(fn.name == "runtime.NumGoroutine")=false:=by rfl)
  (hn:decide (args.length≤fn.ntmps)=true:=by kernel_rfl) (hok:GY fn.ntmps c=true:=by kernel_rfl) (h:awp P c (endX P l r) (st0 args)):AC P f args r:=mM hm hf hb hr hnm hn hok h
theorem agF {f} {c} {l} {args} {pt} {pb} {r} {qt} {qb} {fn} (hf:P.funcs[f]? =some fn) (hm:P.follows .mixedOrders =true) (hb:fn.body=some c:=by rfl) (hr:fn.results=l.toArray:=by rfl) (hnm:(fn.name == "runtime.NumGoroutine")=false:=by rfl)
  (hn:decide (args.length≤fn.ntmps)=true:=by kernel_rfl) (hok:GY fn.ntmps c=true:=by kernel_rfl) (h:awp P c (MX P l r qt qb) (stG args pt pb)):AG P f args pt pb r qt qb:=my hm hf hb hr hnm hn hok h
theorem caG {K} {pos} {dst} {L} {wL} {f} {args} {o} {w} {as} {pt} {pb} {r} {qt} {qb} (y:Way) (h:AG P f as pt pb r qt qb)
  (hc:CX y.cv σ fun σ1=>AR (Y6 y args as pt pb σ1) (Bc y.cv (σ1.after y qt qb) fun σ2=>K (σ2.put dst (bak y r)))) (hL:L=true:=by kernel_rfl) (hB:Y5 y as pt pb qt qb=true:=by kernel_rfl):UO P L pos f args o dst σ K w wL:=jB y hL h hB hc
end
theorem Z {P Q:Prop} (h:Q) (e:Q→P:=by first|(intro h; simp only [go_sem]; exact h)|exact fun h=>h):P:=e h
attribute [go_sem] List.length_replicate
theorem AX {α:Type} {f:α→List D} {l:List α} {n:Int} {x:α} (h:at? l n=some x):(List.map f l)[n.toNat]? =some (f x):=by
 rw [List.getElem?_map,(U2 h).2]; rfl
def G0 (n:Int):List D:=[.int .i64 n]
def u8D (n:Int):List D:=[.int .u8 n]
def m7 (b:Bool):List D:=[.bool b]
def strD (s:ByteArray):List D:=[.str s]
def slD {α:Type} (f:α→List D) (l:List α):List D:=[.sl (List.map f l)]
attribute [go_sem] G0 u8D m7 strD slD List.map_cons List.map_nil List.length_map List.nodup_cons List.mem_cons List.not_mem_nil not_or or_false or_true true_or false_or not_false_eq_true
end Go.Proofs.YtnfgeocnolheoaaGreat.Ab
namespace Go.Proofs.YtnfgeocnolheoaaGreat.Ab
set_option linter.unusedVariables false
theorem HP {α:Type} {f:α→List D} {sz:Nat} (h:∀x,(f x).length =sz∧∀d ∈ f x,d.flat=true) (l:List α):∀row ∈ List.map f l,row.length=sz∧∀d ∈ row,d.flat=true:=by
 grind
theorem IP {α:Type} {f:α→List D} {sz:Nat} (h:∀x,(f x).length =sz) (l:List α):∀row ∈ List.map f l,row.length=sz:=by
 grind
theorem YA {α:Type} {f:α→List D} {sz:Nat} (h:∀x,(f x).length =sz∧∀d ∈ f x,d≠ .gone) (l:List α):∀row ∈ List.map f l,row.length=sz∧∀d ∈ row,d≠ .gone :=by
 grind
theorem Y9 {α:Type} {f g} (h:∀x,fzC (f x)=g x) (l:List α):fzR (List.map f l)=List.map g l:=by
 grind [fzR,List.map_congr_left]
theorem Gt {α:Type} {f g} (h:∀x,erC (f x)=g x):∀l:List α,erR (List.map f l)=List.map g l
 | [] =>by rfl
 |x::xs=>by rw [List.map_cons,List.map_cons,erR,h x,Gt h xs]
def D.ngb:D→Bool
 | .gone =>false
 |_=>true
theorem KJ {ds:List D} (h:ds.all D.ngb=true):∀d ∈ ds,d≠ .gone :=fun d hd e=>by
 have:=List.all_eq_true.1 h d hd
 rw [e] at this; cases this
@[go_sem] theorem pF:erR [] =[] :=by rfl
attribute [go_sem] rpS rpB JM GW only Vm
def pD {α:Type} (f:α→List D) (x:α):List D:=[.ptr (f x)]
attribute [go_sem] pD
@[go_sem] theorem qX {α:Type} {f:α→List D} {l:List α}:erR (List.map (pD f) l)=List.map (pD f) l:=Gt (fun c=>by rfl) l
@[go_sem] theorem qY {α:Type} {f:α→List D} {l:List α}:fzR (List.map (pD f) l)=List.map (pD f) l:=Y9 (fun _=>rfl) l
def nop {α:Type} (f:α→List AV):Option α→AV
 |none=>.nilp
 |some x=>.rop (f x) 0
@[go_sem] theorem m8 {α:Type} {f:α→List AV}:nop f none= .nilp :=rfl
@[go_sem] theorem m9 {α:Type} {f:α→List AV} {x:α}:nop f (some x)= .rop (f x) 0:=rfl
def Ly {α:Type} (f:α→List D):Option α→D
 |none=>.nilp
 |some x=>.ptr (f x)
@[go_sem] theorem gG {α:Type} {f:α→List D} {o}:er (Ly f o)=Ly f o:=by cases o <;> simp only [Ly,er]
structure NopOf {α:Type} (f:α→List D) (g:α→List AV):Prop where
 a:∀x,Rf (f x)=g x
 b:∀x,unDs (g x)=some (f x)
 c:∀x,Cl (g x)=true
section
variable {α:Type} {f:α→List D} {g:α→List AV} (h:NopOf f g) (o:Option α)
include h
theorem NopOf.of:ofD (Ly f o)=nop g o:=by
 cases o
 ·rfl
 ·simp only [Ly,nop,ofD,h.a]
theorem NopOf.un:unD (nop g o)=some (Ly f o):=by
 cases o
 ·rfl
 ·simp only [Ly,nop,unD,h.b,Option.map_some]
theorem NopOf.pu:Dl (nop g o)=true:=by
 cases o
 ·rfl
 ·simp only [nop,Dl,h.c]
theorem NopOf.cl {T B}:Ab.cl T B (nop g o)=some (nop g o):=Y7 (h.pu o)
theorem NopOf.toD {T}:Ab.toD T (nop g o)=some (Ly f o):=by
 have:=h.un o
 cases o
 ·rfl
 grind [nop,Ab.toD]
theorem NopOf.kn {rt rb}:Fn rt rb (nop g o)=true:=(OH (h.pu o)).1
theorem NopOf.re {rt rb}:ren rt rb (nop g o)=nop g o:=(OH (h.pu o)).2
end
theorem NopOf.mp {α:Type} {f:α→List D} {g:α→List AV} (_:NopOf f g) (o:Option α):AV.mp? (nop g o)=false:=by cases o <;> rfl
theorem NopOf.on {α:Type} {f:α→List D} {g:α→List AV} (_:NopOf f g) (o:Option α):AV.one (nop g o)=true:=by cases o <;> rfl
theorem NopOf.ce {α:Type} {f:α→List D} {g:α→List AV} (_:NopOf f g) (o:Option α):cellsOf (nop g o)=some [nop g o] :=by cases o <;> rfl
def TV {α β:Type} (o:Option α) (a:Option β) (k:α→Option β):Option β:=match o with
 |none=>a
 |some x=>k x
theorem gx {α β:Type} {a r:Option β} {k:α→Option β} (h:TV none a k=r):a=r:=h
theorem gy {α β:Type} {x:α} {a r:Option β} {k:α→Option β} (h:TV (some x) a k=r):k x=r:=h
end Go.Proofs.YtnfgeocnolheoaaGreat.Ab
