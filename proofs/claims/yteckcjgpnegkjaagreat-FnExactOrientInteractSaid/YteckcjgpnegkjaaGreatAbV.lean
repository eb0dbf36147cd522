/-
  The abstract walk as rules, third part: memory, calls, results, loops.
-/
import Derived.Test.YteckcjgpnegkjaaGreatAbU
import Derived.IntWalk
namespace Go.Proofs.YteckcjgpnegkjaaGreat.Ab
set_option linter.unusedVariables false
set_option maxHeartbeats 1000000
open Go.RowKit
section
variable {P:Program} {σ:St} {K:St→Prop} {Q:AE→St→Prop}
def jf (t:TI):Prop:=match t with| .str =>True|_=>False
@[go_sem] theorem mr:jf .str =True:=rfl
@[go_sem] theorem gB {t} {s} {K}:NX P t (.str s) σ K=AP (jf (ti P t)) (K (.int .i64 s.size)):=by
 simp only [NX,N0,AP,jf]
 generalize ti P t=q
 cases q <;> simp
@[go_sem] theorem jg {t} {rows} {K}:NX P t (.ro rows) σ K=slX (ti P t) fun _=>K (.int .i64 rows.length):=by
 simp only [NX,N0,slX]
 generalize ti P t=q
 cases q <;> simp
@[go_sem] theorem dJ {t} {K}:NX P t .nils σ K=slX (ti P t) fun _=>K (.int .i64 0):=by
 simp only [NX,N0,slX]
 generalize ti P t=q
 cases q <;> simp
@[go_sem] theorem gC {t} {b n sz} {K}:NX P t (.bsl b n sz) σ K=slX (ti P t) fun _=>K (.int .i64 n):=by
 simp only [NX,N0,slX]
 generalize ti P t=q
 cases q <;> simp
@[go_sem] theorem gD {t} {t'} {K}:NX P t (.own t') σ K=slX (ti P t) fun _=>optX (σ.T t') fun tk=>K (.int .i64 tk.rows.length):=by
 simp only [NX,N0,slX,optX]
 grind
@[go_sem] theorem gE {t} {t' g} {p} {K}:NX P t (.sub t' g p) σ K=slX (ti P t) fun _=>optX (subR σ.T t' g p) fun rows=>K (.int .i64 rows.length):=by
 simp only [NX,N0,slX,optX]
 grind
def YM (t:TI) (K:TypeId→TypeId→Prop):Prop:=match t with| .map k e=>K k e|_=>False
@[go_sem] theorem ms {k e} {K}:YM (.map k e) K=K k e:=rfl
def Wg (o:Option (List AV)) (K:KT→List (List D)→Prop):Prop:=∃q rows,o=some [.mpc q rows] ∧K q rows
@[go_sem] theorem lM {q} {rows} {K}:Wg (some [.mpc q rows]) K=K q rows:=by
 grind [Wg]
@[go_sem] theorem gF {t} {b} {K}:NX P t (.mpr b) σ K=YM (ti P t) fun _ _=>Wg (σ.B b) fun _ rows=>K (.int .i64 rows.length):=by
 simp only [NX,N0,YM,Wg]
 grind
def NY {α:Type} (v:α) (K:α→Prop):Prop:=∃y,v=y∧K y
theorem H1 {α:Type} {v:α} {K:α→Prop}:NY v K=K v:=by simp [NY]
def bxX (pos:Nat) (cs:Option (List AV)) (dst:Option Tmp) (v:AV) (σ:St) (K:St→Prop):Prop:=optX cs fun vs=>AP (look σ.b pos=none) (K ((σ.put dst v).setB pos vs))
def bxZ (pos:Nat) (cs:Option (List AV)) (dst:Option Tmp) (v:AV) (σ:St) (K:St→Prop):Prop:=bxX pos cs dst v σ K
theorem jh {pos} {cs} {dst} {v}:bxX pos cs dst v σ K=Ap cs fun o=>bxZ pos o dst v σ K:=rfl
@[go_sem ↓] theorem mt {pos} {vs} {dst} {v}:bxZ pos (some vs) dst v σ K=AP (look σ.b pos=none) (K ((σ.put dst v).setB pos vs)):=by simp [bxZ,bxX,optX]
theorem J0 {dst} {v} {pos} {vs}:σ.add dst ⟨v,[],[(pos,vs)]⟩=(σ.put dst v).setB pos vs:=by cases dst <;> rfl
attribute [go_sem] cellsOf
theorem mu {pos} {dst} {t} {x}:opX P pos dst (.box t x) σ K=bxX pos (cellsOf (σ.e x)) dst (.box pos 0) σ K:=by
 rw [P7 (fun _=>by rfl)]
 simp only [Ev,bxX]
 split
 ·rename_i vs h
  rw [h,Hj]
  refine propext ⟨?_,?_⟩
  ·rintro ⟨r,rfl,-,h1,h2⟩
   exact⟨h1.1,by rw [← J0]; exact h2⟩
  ·rintro ⟨h1,h2⟩
   exact⟨_,rfl,trivial,⟨h1,trivial⟩,by rw [J0]; exact h2⟩
 grind [UE]
theorem gG {pos} {dst} {t}:opX P pos dst (.alloc t) σ K=AP (0<(tz P t).length) (bxX pos (some ((tz P t).map zAV)) dst (.box pos 0) σ K):=by
 rw [P7 (fun _=>by rfl)]
 simp only [Ev,bxX,Hj,AP]
 refine propext ⟨?_,?_⟩
 ·rintro ⟨r,⟨vs,rfl,h0,rfl⟩,-,h1,h2⟩
  exact⟨h0,h1.1,by rw [← J0]; exact h2⟩
 ·rintro ⟨h0,h1,h2⟩
  exact⟨_,⟨_,rfl,h0,rfl⟩,trivial,⟨h1,trivial⟩,by rw [J0]; exact h2⟩
attribute [go_sem] zAV
def pvs (σ:St):List (Nat × Operand)→List (Nat × AV)
 | [] =>[]
 |x::xs=>(x.1,σ.e x.2)::pvs σ xs
theorem ZM {xs}:pvs σ xs=xs.map fun x=>(x.1,σ.e x.2):=by induction xs with|nil=>rfl|cons x xs ih=>simp [pvs,ih]
attribute [go_sem] pvs Dr
def bsX (P:Program) (pos:Nat) (e:TypeId) (n:Nat) (parts:List (Nat × AV)) (dst:Option Tmp) (σ:St) (K:St→Prop):Prop:=
 AP (parts.length=n∧n*tsz P e≤16777216∧0<tsz P e∧(tz P e).length =tsz P e) (bxX pos (Dr (tsz P e) 0 parts) dst (.bsl pos n (tsz P e)) σ K)
@[go_sem ↓] theorem gH {pos} {dst} {t} {n} {parts}:opX P pos dst (.buildSlice t n parts.toArray) σ K=slX (ti P t) fun e=>Ap (pvs σ parts) fun ps=>bsX P pos e n ps dst σ K:=by
 rw [P7 (fun _=>by rfl)]
 simp only [Ev,slX,Ap,ZM]
 generalize ti P t=q
 split
 ·simp only [bj,bsX,bxX,AP]
  refine propext ⟨?_,?_⟩
  ·rintro ⟨r,⟨h1,h2,h3,h4,h5⟩,-,h6,h7⟩
   split at h5
   ·rename_i vs h8
    subst h5
    rw [h8,Hj]
    exact⟨⟨h1,h2,h3,h4⟩,h6.1,by rw [← J0]; exact h7⟩
   grind
  ·rintro ⟨⟨h1,h2,h3,h4⟩,vs,h8,h6,h7⟩
   exact⟨⟨_,[],[(pos,vs)]⟩,⟨h1,h2,h3,h4,by rw [h8]⟩,trivial,⟨h6,trivial⟩,by rw [J0]; exact h7⟩
 ·simp
attribute [go_sem] bsX
attribute [go_sem] L6
def Wh (P:Program) (t:TI) (K:List (Nat × TypeId)→Prop):Prop:=match t with| .st fs=>K fs| .arr n el=>AP (0<tsz P el) (K (L6 (tsz P el) el n 0))|_=>False
@[go_sem] theorem gI {fs} {K}:Wh P (.st fs) K=K fs:=rfl
def bpX (P:Program) (fs:List (Nat × TypeId)) (vs:List AV) (ps:List (Nat × AV)) (K:AV→Prop):Prop:=∃ws,K9 P fs vs ps=some ws∧K (.agg ws)
@[go_sem] theorem gJ {fs} {vs} {K}:bpX P fs vs [] K=K (.agg vs):=by simp [bpX,K9]
@[go_sem] theorem dK {fs} {vs} {f} {v} {ps} {K}:bpX P fs vs ((f,v)::ps) K=optX fs[f]? fun q=>optX (cellsOf v) fun cs=>AP (cs.length=tsz P q.2 ∧q.1 +cs.length≤vs.length) (Ap (splice vs q.1 cs) fun vs=>bpX P fs vs ps K):=by
 unfold bpX optX AP Ap
 rw [K9]
 grind
theorem gK {pos} {dst} {t} {parts}:opX P pos dst (.build t parts.toArray) σ K=Wh P (ti P t) fun fs=>AP ((fs.all fun q=>decide (0<tsz P q.2))=true∧0<(tz P t).length) (bpX P fs ((tz P t).map zAV) (pvs σ parts) fun v=>K (σ.put dst v)):=by
 rw [Gs (p:=fun v=>Wh P (ti P t) fun fs=>AP ((fs.all fun q=>decide (0<tsz P q.2))=true∧0<(tz P t).length) (bpX P fs ((tz P t).map zAV) (pvs σ parts) fun u=>v=u)) (fun _=>by rfl) (fun r=>by
  simp only [Ev,Wh,AP,bpX,ZM]
  grind)]
 unfold Wh AP bpX
 grind
attribute [go_sem] zD zDs
@[go_sem] theorem mw {n}:leX n n=True:=eq_true (Int.le_refl n)
def mkX (P:Program) (pos:Nat) (e:TypeId) (n m:AV) (dst:Option Tmp) (σ:St) (K:St→Prop):Prop:=match n,m with
 | .int .i64 n,.int .i64 m=>AP (leX n m) (AP (0≤n∧m.toNat*P.bytesOf e≤281474976710656∧m≤4611686018427387904) (AP (0<tsz P e∧(tz P e).length =tsz P e) (optX (zDs (tz P e)) fun z=>AP (look σ.t (pos*16)=none) (NY (List.replicate n.toNat z) fun rows=>K ((σ.put dst (.own (pos*16))).setT (pos*16) ⟨rows,some (tsz P e),0,false⟩)))))
 |_,_=>False
@[go_sem] theorem gL {pos} {e} {n m} {dst}:mkX P pos e (.int .i64 n) (.int .i64 m) dst σ K=AP (leX n m) (AP (0≤n∧m.toNat*P.bytesOf e≤281474976710656∧m≤4611686018427387904) (AP (0<tsz P e∧(tz P e).length =tsz P e) (optX (zDs (tz P e)) fun z=>AP (look σ.t (pos*16)=none) (NY (List.replicate n.toNat z) fun rows=>K ((σ.put dst (.own (pos*16))).setT (pos*16) ⟨rows,some (tsz P e),0,false⟩))))):=rfl
theorem ZN {dst} {v} {n} {tk}:σ.add dst ⟨v,[(n,tk)],[]⟩=(σ.put dst v).setT n tk:=by cases dst <;> rfl
theorem Wi {pos:Nat} {dst:Option Tmp} {t:TypeId} {l c:Operand}:opX P pos dst (.makeSlice t l c) σ K=slX (ti P t) fun e=>mkX P pos e (σ.e l) (σ.e c) dst σ K:=by
 rw [P7 (fun _=>by rfl)]
 simp only [Ev,slX,mkX]
 generalize ti P t=q
 cases q with
 | sl e=>
  generalize σ.e l=u
  generalize σ.e c=v
  split
  ·rename_i el n m h1
   cases h1
   simp only [iK,AP,optX,H1]
   refine propext ⟨?_,?_⟩
   ·rintro ⟨r,⟨k1,k2,k3,k4,k5,k6,z,k7,rfl⟩,k8,-,k9⟩
    exact⟨k1,⟨k2,k3,k4⟩,⟨k5,k6⟩,z,k7,k8.1,by rw [← ZN]; exact k9⟩
   ·rintro ⟨k1,⟨k2,k3,k4⟩,⟨k5,k6⟩,z,k7,k8,k9⟩
    exact⟨⟨_,[(pos*16,⟨_,some (tsz P e),0,false⟩)],[]⟩,⟨k1,k2,k3,k4,k5,k6,z,k7,rfl⟩,⟨k8,trivial⟩,trivial,by rw [ZN]; exact k9⟩
  grind
 |_=>simp
def UG (P:Program) (L:Bool) (pos:Nat) (f:FuncId) (args:List AV) (as:Option (List AV)) (dst:Option Tmp) (σ:St) (K:St→Prop) (_:Wrap L):Prop:=
 ((∃bs rv,as=some bs∧AC P f bs rv∧DA σ (conv (pos*16) rv).2 ∧K (σ.add dst ⟨(conv (pos*16) rv).1,(conv (pos*16) rv).2,[]⟩))∨
  ∃bs rv qt qb,AG P f bs [] [] rv qt qb∧cls (fun _=>none) (fun _=>none) args=some bs∧((qt=[] ∧Tg rv=true∧K (σ.add dst ⟨rv,[],[]⟩))∨(∃q tk,qt=[(q,tk)] ∧rv= .own q∧tk.gen=0∧look σ.t (pos*16)=none∧K (σ.add dst ⟨.own (pos*16),[(pos*16,tk)],[]⟩))∨(∃q k,rv= .box q k)∧K (σ.add dst ⟨.rop [] 0,[],[]⟩)))∨
 (L=true∧Y1 P f args σ fun v σ'=>K (σ'.put dst v))
@[go_sem] theorem mx:Nk [] =true:=rfl
@[go_sem] theorem my {fs cs}:Nk (.agg fs::cs)=true:=rfl
@[go_sem] theorem pJ {as}:fnA [] as=as:=List.append_nil as
@[go_sem] theorem pK {fs cs as}:fnA (.agg fs::cs) as=fs++(as++cs):=rfl
def clX (P:Program) (L:Bool) (pos:Nat) (g:AV) (args:List AV) (dst:Option Tmp) (σ:St) (K:St→Prop) (w:Wrap L):Prop:=match g with
 | .fn f caps=>Nk caps=true∧UG P L pos f (fnA caps args) (cls σ.T σ.B (fnA caps args)) dst σ K w
 |_=>False
@[go_sem] theorem ji {L} {wL} {pos} {f} {caps args} {dst}:clX P L pos (.fn f caps) args dst σ K wL=AP (Nk caps=true) (Ap (fnA caps args) fun vs=>Ap (cls σ.T σ.B vs) fun r=>UG P L pos f vs r dst σ K wL):=rfl
theorem jj {L} {wL} {pos} {dst} {g} {args} {ts}:opL P L pos dst (.call ⟨.value g,args.toArray,ts⟩) σ K wL=clX P L pos (σ.e g) (evs σ args) dst σ K wL:=by
 have h1:opX P pos dst (.call ⟨.value g,args.toArray,ts⟩) σ K=match σ.e g with
   | .fn f caps=>Nk caps=true∧((∃bs rv,cls σ.T σ.B (fnA caps (evs σ args))=some bs∧AC P f bs rv∧DA σ (conv (pos*16) rv).2 ∧K (σ.add dst ⟨(conv (pos*16) rv).1,(conv (pos*16) rv).2,[]⟩))∨
     ∃bs rv qt qb,AG P f bs [] [] rv qt qb∧cls (fun _=>none) (fun _=>none) (fnA caps (evs σ args))=some bs∧((qt=[] ∧Tg rv=true∧K (σ.add dst ⟨rv,[],[]⟩))∨(∃q tk,qt=[(q,tk)] ∧rv= .own q∧tk.gen=0∧look σ.t (pos*16)=none∧K (σ.add dst ⟨.own (pos*16),[(pos*16,tk)],[]⟩))∨(∃q k,rv= .box q k)∧K (σ.add dst ⟨.rop [] 0,[],[]⟩)))
   |_=>False:=by
  rw [P7 (fun _=>by rfl)]
  simp only [Ev,RR,Uv]
  generalize σ.e g=v
  split
  ·refine propext ⟨?_,?_⟩
   ·rintro ⟨r,⟨ho,h1⟩,h2,-,h4⟩
    refine⟨ho,?_⟩
    rcases h1 with h1|h1
    ·grind
    ·obtain⟨as,rv,qt,qb,h5,h6,h7⟩:=h1
     rcases h7 with ⟨h7,h8,rfl⟩|⟨q,tk,h7,h8,h9,rfl⟩|⟨h7,rfl⟩
     ·grind
     ·exact .inr ⟨as,rv,qt,qb,h5,h6,.inr (.inl ⟨q,tk,h7,h8,h9,h2.1,h4⟩)⟩
     grind
   ·rintro ⟨ho,h⟩
    rcases h with (⟨bs,rv,h1,h5,h2,h4⟩|⟨bs,rv,qt,qb,h5,h6,⟨h7,h8,h4⟩|⟨q,tk,h7,h8,h9,h2,h4⟩|⟨h7,h4⟩⟩)
    ·exact⟨⟨(conv (pos*16) rv).1,(conv (pos*16) rv).2,[]⟩,⟨ho,.inl (by rw [h1]; grind)⟩,h2,trivial,h4⟩
    ·exact⟨⟨rv,[],[]⟩,⟨ho,.inr ⟨bs,rv,qt,qb,h5,h6,.inl ⟨h7,h8,rfl⟩⟩⟩,trivial,trivial,h4⟩
    ·exact⟨⟨.own (pos*16),[(pos*16,tk)],[]⟩,⟨ho,.inr ⟨bs,rv,qt,qb,h5,h6,.inr (.inl ⟨q,tk,h7,h8,h9,rfl⟩)⟩⟩,⟨h2,trivial⟩,trivial,h4⟩
    ·exact⟨⟨.rop [] 0,[],[]⟩,⟨ho,.inr ⟨bs,rv,qt,qb,h5,h6,.inr (.inr ⟨h7,rfl⟩)⟩⟩,trivial,trivial,h4⟩
  ·simp
 have h2:opL P L pos dst (.call ⟨.value g,args.toArray,ts⟩) σ K wL=(opX P pos dst (.call ⟨.value g,args.toArray,ts⟩) σ K∨(L=true∧L8 P ⟨dst,.call ⟨.value g,args.toArray,ts⟩,0, "",#[],none⟩ σ K)):=by
  grind [RX,SliK,opL,RY,opX]
 rw [h2,h1]
 grind [clX,UG,L8,Uv]
attribute [go_sem] cl cls toD toDs toA toAs GP Eu Option.map_some Option.map_none
theorem ZO {pos} {f} {args bs} {dst} {rv} (h:AC P f bs rv) (hf:DA σ (conv (pos*16) rv).2) (hk:K (σ.add dst ⟨(conv (pos*16) rv).1,(conv (pos*16) rv).2,[]⟩)) {L} {wL}:UG P L pos f args (some bs) dst σ K wL:=
 .inl (.inl ⟨bs,rv,rfl,h,hf,hk⟩)
@[go_sem] theorem jk:DA σ [] =True:=rfl
@[go_sem] theorem iW {n} {tk} {l}:DA σ ((n,tk)::l)=(look σ.t n=none∧DA σ l):=rfl
attribute [go_sem] conv G3 addT addB
@[go_sem] theorem mz {s t b} {d} {r}:St.add ⟨s,t,b⟩ (some d) r=⟨(d,r.v)::s,addT t r.t,addB b r.b⟩:=rfl
@[go_sem] theorem m5 {s t b} {r}:St.add ⟨s,t,b⟩ none r=⟨s,addT t r.t,addB b r.b⟩:=rfl
section
variable {z:Bool}
@[go_sem] theorem gM {K}:BQ z [] σ K=K [] σ:=by rw [BQ]
@[go_sem] theorem gN {k} {n} {vs} {K}:BQ z (.int k n::vs) σ K=BQ z vs σ fun ds σ'=>K (.int k n::ds) σ':=by rw [BQ]
@[go_sem] theorem dL {b} {vs} {K}:BQ z (.bool b::vs) σ K=BQ z vs σ fun ds σ'=>K (.bool b::ds) σ':=by rw [BQ]
@[go_sem] theorem gO {s} {vs} {K}:BQ z (.str s::vs) σ K=BQ z vs σ fun ds σ'=>K (.str s::ds) σ':=by rw [BQ]
@[go_sem] theorem dM {vs} {K}:BQ z (.nils ::vs) σ K=BQ z vs σ fun ds σ'=>K (Ub z::ds) σ':=by rw [BQ]
@[go_sem] theorem ql:Ub false= .sl [] :=rfl
@[go_sem] theorem qm:Ub true= .fz [] :=rfl
@[go_sem] theorem dN {vs} {K}:BQ z (.nilp ::vs) σ K=BQ z vs σ fun ds σ'=>K (.nilp ::ds) σ':=by rw [BQ]
@[go_sem] theorem jl {rows} {vs} {K}:BQ z (.ro rows::vs) σ K=AP (z=true) (BQ z vs σ fun ds σ'=>K (.fz rows::ds) σ'):=by rw [BQ]; rfl
@[go_sem] theorem gP {ws} {off} {vs} {K}:BQ z (.rop ws off::vs) σ K=AP (z=true) (optX (unD (.rop ws off)) fun d=>BQ z vs σ fun ds σ'=>K (d::ds) σ'):=by rw [BQ]; rfl
@[go_sem] theorem gQ {b n sz} {vs} {K}:BQ z (.bsl b n sz::vs) σ K=if n=0 then BQ z vs σ fun ds σ'=>K (Ub z::ds) σ' else Zm z b n sz σ fun rows σ1=>BQ z vs σ1 fun ds σ'=>K (.sl rows::ds) σ':=by rw [BQ]
@[go_sem ↓] theorem pL {b n sz} {K}:Zm z b n sz σ K=AP (1000≤b) (AP (0<sz) (optX (σ.B b) fun vs=>optX (Ll z vs) fun ds=>AP (ds.length=n*sz) (Ap (CW sz n ds) fun rows=>K rows (σ.killB b)))):=rfl
@[go_sem] theorem m6 {s t b} {x}:St.killB ⟨s,t,b⟩ x=⟨s,t,(x,none)::b⟩:=rfl
attribute [go_sem] LA litD Ll unD unDs
@[go_sem] theorem gR {t} {vs} {K}:BQ z (.own t::vs) σ K=optX (σ.T t) fun tk=>AP (okZ z tk=true) (BQ z vs (σ.killT t) fun ds σ'=>K (.sl tk.rows::ds) σ'):=by rw [BQ]; rfl
end
def stX (P:Program) (t:TypeId) (a:AV) (cs:Option (List AV)) (σ:St) (K:St→Prop):Prop:=
 optX cs fun cs=>AP (cs.length=tsz P t∧0<tsz P t∧cs.all AV.one=true) (match a with
  | .box b off=>∃vs,σ.B b=some vs∧isMp vs=false∧off+cs.length≤vs.length∧K (σ.setB b (splice vs off cs))
  | .elt t' sz i off=>∃tk0,σ.T t'=some tk0∧BQ tk0.z cs σ fun ds σ'=>∃tk row,(σ'.T t'=some tk∧tk.z=tk0.z)∧tk.rows[i]? =some row∧row.length=sz∧off+ds.length≤sz∧K (σ'.setT t' ⟨tk.rows.set i (splice row off ds),tk.sz,if D2 row off ds=true then tk.gen else tk.gen+1,tk.z⟩)
  | .els t' g p sz i off=>BQ false cs σ fun ds σ'=>∃rows,subR σ'.T t' g p=some rows∧∃row,rows[i]? =some row∧(p≠ [] ∧row.length=sz∧off+ds.length≤sz∧D2 row off ds=true)∧∃tk,σ'.T t'=some tk∧K (σ'.setT t' ⟨putR p tk.rows (.sl (rows.set i (splice row off ds))),tk.sz,tk.gen,tk.z⟩)
  |_=>False)
theorem gS {pos} {dst} {t} {a x}:opX P pos dst (.store t a x) σ K=stX P t (σ.e a) (cellsOf (σ.e x)) σ fun σ'=>K (σ'.put dst .any):=by
 grind [opX,aop,N2,stX,Hj,AP,UE]
@[go_sem] theorem gT {t} {b off} {cs}:stX P t (.box b off) (some cs) σ K=AP (cs.length=tsz P t∧0<tsz P t∧cs.all AV.one=true) (optX (σ.B b) fun vs=>AP (isMp vs=false) (AP (off+cs.length≤vs.length) (Ap (splice vs off cs) fun vs'=>K (σ.setB b vs')))):=by
 rw [stX,Hj]; rfl
@[go_sem] theorem gU {t:TypeId} {t' g sz i off:Nat} {p:Pth} {cs:List AV}:stX P t (.els t' g p sz i off) (some cs) σ K=AP (cs.length=tsz P t∧0<tsz P t∧cs.all AV.one=true) (BQ false cs σ fun ds σ'=>optX (subR σ'.T t' g p) fun rows=>optX rows[i]? fun row=>AP (p≠ [] ∧row.length=sz∧off+ds.length≤sz∧D2 row off ds=true) (optX (σ'.T t') fun tk=>NY (putR p tk.rows (.sl (rows.set i (splice row off ds)))) fun rows'=>K (σ'.setT t' ⟨rows',tk.sz,tk.gen,tk.z⟩))):=by
 rw [stX,Hj]
 grind [AP,optX,H1]
@[go_sem] theorem gV {t:TypeId} {t' sz i off:Nat} {cs:List AV}:stX P t (.elt t' sz i off) (some cs) σ K=AP (cs.length=tsz P t∧0<tsz P t∧cs.all AV.one=true) (optX (σ.T t') fun tk0=>BQ tk0.z cs σ fun ds σ'=>optX (σ'.T t') fun tk=>AP (tk.z=tk0.z) (optX tk.rows[i]? fun row=>AP (row.length=sz∧off+ds.length≤sz) (NY (tk.rows.set i (splice row off ds)) fun rows=>K (σ'.setT t' ⟨rows,tk.sz,if D2 row off ds=true then tk.gen else tk.gen+1,tk.z⟩)))):=by
 rw [stX,Hj]
 grind [AP,optX,H1]
section
variable {z:Bool}
@[go_sem] theorem am {e} {sz} {K}:RS z e sz .nils σ K=K [] σ:=rfl
@[go_sem] theorem dO {e} {sz b n sz'} {K}:RS z e sz (.bsl b n sz') σ K=if n=0 then K [] σ else AP (sz'=sz) (Zm z b n sz σ K):=rfl
@[go_sem] theorem dP {e} {sz t} {K}:RS z e sz (.own t) σ K=optX (σ.T t) fun tk=>AP (tk.sz=some sz∧okZ z tk=true) (K tk.rows (σ.killT t)):=rfl
@[go_sem] theorem an {sz} {K}:NV z sz .nils σ K=K [] σ:=rfl
@[go_sem] theorem dQ {sz b n sz'} {K}:NV z sz (.bsl b n sz') σ K=optX (σ.B b) fun vs=>AP (sz'=sz∧vs.length=n*sz∧vs.all AV.one=true) (BQ z vs σ fun ds σ'=>Ap (CW sz n ds) fun rows=>K rows σ'):=by
 simp only [NV,optX,AP,Ap]
 grind
@[go_sem] theorem gW {sz} {rows} {K}:NV false sz (.ro rows) σ K=AP (∀row ∈ rows,row.length=sz∧∀d ∈ row,d.flat=true) (K rows σ):=rfl
@[go_sem] theorem dR {sz:Nat} {rows:List (List D)} {K:List (List D)→St→Prop}:NV true sz (.ro rows) σ K=AP (∀row ∈ rows,row.length=sz∧∀d ∈ row,d≠ .gone) (NY (fzR rows) fun r=>K r σ):=by
 grind [NV,AP,H1]
@[go_sem] theorem dS {sz t} {K}:NV z sz (.own t) σ K=optX (σ.T t) fun tk=>AP (okZ z tk=true) (AP (∀row ∈ tk.rows,row.length=sz) (K tk.rows (σ.killT t))):=by
 grind [NV,optX,AP]
end
attribute [go_sem] CW
def zX (K:Bool→Prop):Prop:=∃z,K z
def zY (K:Bool→Prop) (_:Wrap K):Prop:=∃z,K z
@[go_sem ↓] theorem rc {K}:zX K=zY K ⟨⟩:=rfl
theorem C3 {K} {w} (z:Bool) (h:K z):zY K w:=⟨z,h⟩
def apX (P:Program) (pos:Nat) (e:TypeId) (x y:AV) (dst:Option Tmp) (σ:St) (K:St→Prop):Prop:=
 AP (0<tsz P e∧(tz P e).length =tsz P e) (zX fun z=>RS z e (tsz P e) x σ fun rows σ1=>NV z (tsz P e) y σ1 fun rows2 σ2=>
   AP ((rows.length+rows2.length)*P.bytesOf e≤140737488355328∧rows.length+rows2.length≤maxLen) (AP (look σ2.t (pos*16)=none) (K ((σ2.setT (pos*16) ⟨rows++rows2,some (tsz P e),0,z⟩).put dst (.own (pos*16))))))
theorem dT {pos} {dst} {x y} {t}:opX P pos dst (.call ⟨.builtin .append,List.toArray [x,y],List.toArray [t,t]⟩) σ K=slX (ti P t) fun e=>apX P pos e (σ.e x) (σ.e y) dst σ K:=by
 unfold opX
 simp only [aop,Xi,slX,true_and]
 generalize ti P t=q
 split
 ·rename_i e
  show (0<tsz P e∧(tz P e).length =tsz P e∧_)=((0<tsz P e∧(tz P e).length =tsz P e)∧_)
  rw [and_assoc]
  congr 1
  congr 1
  show (∃z,_)=(∃z,_)
  congr 1
  funext z
  congr 1
  funext rows σ1
  congr 1
  funext rows2 σ2
  show (_∧_∧_∧_)=((_∧_)∧_∧_)
  rw [and_assoc]
 grind
end
@[go_sem] theorem lN {v x}:GI v [] x=x:=by cases v <;> rfl
attribute [go_sem ↓] jh
attribute [go_sem ↓] gB jg dJ gC gD gE gF gI gJ dK gL ji gM gN dL gO dM dN jl gP gQ gR gT gV gU am dO dP an dQ gW dR dS
end Go.Proofs.YteckcjgpnegkjaaGreat.Ab
namespace Go.Proofs.YteckcjgpnegkjaaGreat.Ab
set_option linter.unusedVariables false
open Go.RowKit
section
variable {P:Program} {σ:St} {K:St→Prop} {Q:AE→St→Prop}
@[go_sem] theorem jm {n} (h1: -9223372036854775808≤n) (h2:n≤9223372036854775807):IntKind.i64.wrap n=n:=Go.IntWalk.i64_in n ⟨h1,h2⟩
@[go_sem ↓] theorem m7 {K}:NW P σ [] K=K [] :=rfl
@[go_sem ↓] theorem m8 {t} {l} {K}:NW P σ (.tmp t::l) K=Ap (σ.g t) fun v=>NW P σ l fun vs=>K (v::vs):=rfl
@[go_sem ↓] theorem lO {a} {t} {l} {K}:NW P σ (.cell a t::l) K=MR P t (σ.g a) σ fun v=>NW P σ l fun vs=>K (v::vs):=rfl
@[go_sem] theorem gX {k} {n m}:DT (.int k n) (.int k m) σ K=AP (n=m) (K σ):=by simp [DT,AP]
@[go_sem] theorem dU {b c}:DT (.bool b) (.bool c) σ K=AP (b=c) (K σ):=by rfl
@[go_sem] theorem gY {s s'}:DT (.str s) (.str s') σ K=AP (s=s') (K σ):=by rfl
@[go_sem] theorem dV:DT .nilp .nilp σ K=K σ:=by rfl
@[go_sem] theorem dW {ap} {rows}:DT .nils (.ow ap rows) σ K=AP (rows=[]) (K σ):=by rfl
@[go_sem] theorem gZ {b n sz} {ap} {rows}:DT (.bsl b n sz) (.ow ap rows) σ K=AP (n=0) (AP (rows=[]) (K σ)):=by rfl
@[go_sem] theorem gc {t} {ap} {rows}:DT (.own t) (.ow ap rows) σ K=optX (σ.T t) fun tk=>AP (tk.rows=rows) (AP (ap=none∨tk.sz=ap) (AP (tk.z=false) (K (σ.killT t)))):=by rfl
@[go_sem] theorem gd {rows rows'}:DT (.ro rows) (.ro rows') σ K=AP (rows=rows') (K σ):=by rfl
@[go_sem] theorem pM {rows rows'}:DT (.ro rows) (.ow none rows') σ K=AP (rows=[]) (AP (rows'=[]) (K σ)):=by simp [DT,AP]
@[go_sem] theorem gf {vs} {rs}:DT (.agg vs) (.agg rs) σ K=KU vs rs σ K:=by rfl
@[go_sem] theorem gh {vs} {rs}:DT (.tup vs) (.tup rs) σ K=KU vs rs σ K:=by rfl
@[go_sem] theorem dX:KU [] [] σ K=K σ:=by rfl
@[go_sem] theorem aq {v} {vs} {r} {rs}:KU (v::vs) (r::rs) σ K=DT v r σ fun σ'=>KU vs rs σ' K:=by rfl
def ar (r:RV) (σ:St) (vs:List AV):Prop:=match vs with
 | [v] =>DT v r σ fun _=>True
 |vs=>DT (.tup vs) r σ fun _=>True
@[go_sem ↓] theorem pN {r}:ar r σ [] =DT (.tup []) r σ fun _=>True:=rfl
@[go_sem ↓] theorem pO {r} {v}:ar r σ [v] =DT v r σ fun _=>True:=rfl
@[go_sem ↓] theorem pP {r} {v u} {vs}:ar r σ (v::u::vs)=DT (.tup (v::u::vs)) r σ fun _=>True:=rfl
def endX (P:Program) (l:List ResultVar) (r:RV) (q:AE) (σ:St):Prop:=match q with| .exit _=>False|_=>NW P σ l (ar r σ)
@[go_sem ↓] theorem jo {l} {r}:endX P l r .normal σ=NW P σ l (ar r σ):=rfl
@[go_sem ↓] theorem pQ {l} {r}:endX P l r .ret σ=NW P σ l (ar r σ):=rfl
theorem m9 (hm:P.follows .mixedOrders =true) {f} {fn} {c} {l} {args} {r} (hf:P.funcs[f]? =some fn) (hb:fn.body=some c) (hr:fn.results=l.toArray) (hnm:(fn.name == "runtime.NumGoroutine")=false)
  (hn:decide (args.length≤fn.ntmps)=true) (hok:GL fn.ntmps c=true) (h:awp P c (endX P l r) (st0 args)):AC P f args r:=by
 refine X6 hm hf hb hnm (of_decide_eq_true hn) hok ?_
 have e:endQ P fn.results.toList r=endX P l r:=by
  rw [hr]
  funext q σ
  cases q <;> rfl
 rw [e]
 exact h
attribute [go_sem] st0 SA
def dY {X:Type} (R:X→Prop) (inv:X→St) (μ:X→Nat) (x:X) (σ:St):Prop:=∃x',en σ (inv x')∧R x'∧μ x'<μ x
def jp {X:Type} (R:X→Prop) (inv:X→St) (μ:X→Nat) (x:X) (σ:St) (_:Wrap R) (_:Wrap inv) (_:Wrap μ) (_:Wrap x):Prop:=dY R inv μ x σ
@[go_sem ↓] theorem lP {X:Type} {R:X→Prop} {inv:X→St} {μ:X→Nat} {x:X} {σ:St}:dY R inv μ x σ=jp R inv μ x σ ⟨⟩ ⟨⟩ ⟨⟩ ⟨⟩:=rfl
attribute [go_sem] LC Vm RZ Ra ren rens GH G6 List.nodup_nil List.all_nil List.all_cons AV.int.injEq AV.bool.injEq AV.str.injEq AV.ro.injEq AV.rop.injEq AV.agg.injEq AV.fn.injEq AV.own.injEq AV.box.injEq AV.bsl.injEq AV.elt.injEq List.cons.injEq Tok.mk.injEq Option.isSome_some exists_eq_left' exists_eq_left
end
attribute [go_sem ↓] gX dU gY dV dW gZ gc gd gf gh dX aq
end Go.Proofs.YteckcjgpnegkjaaGreat.Ab
namespace Go.Proofs.YteckcjgpnegkjaaGreat.Ab
set_option linter.unusedVariables false
open Go.RowKit
section
variable {P:Program} {σ:St} {K:St→Prop} {pos:Nat} {dst:Option Tmp} {t t' s d:TypeId} {x y a b c g l:Operand} {f i:Nat} {op:BinOp}
def slY (t:TI) (K:TypeId→Prop) (_:Wrap K):Prop:=slX t K
@[go_sem ↓] theorem qo {t} {K}:slX t K=slY t K ⟨⟩:=rfl
@[go_sem] theorem qp {e} {K} {w}:slY (.sl e) K w=K e:=rfl
def iX (t:TI) (K:IntKind→Prop) (_:Wrap K):Prop:=Wb t K
@[go_sem ↓] theorem nA {t} {K}:Wb t K=iX t K ⟨⟩:=rfl
@[go_sem] theorem lQ {k} {K} {w}:iX (.int k) K w=K k:=rfl
def stY (P:Program) (t:TI) (K:List (Nat × TypeId)→Prop) (_:Wrap K):Prop:=Wh P t K
@[go_sem ↓] theorem qq {t} {K}:Wh P t K=stY P t K ⟨⟩:=rfl
@[go_sem] theorem qr {fs} {K} {w}:stY P (.st fs) K w=K fs:=rfl
@[go_sem] theorem pR {n} {el} {K} {w}:stY P (.arr n el) K w=AP (0<tsz P el) (Ap (L6 (tsz P el) el n 0) K):=rfl
def nC (rows:List (List D)) (n:Int) (sz:Nat) (K:List D→Prop) (_:Wrap K):Prop:=We rows n sz K
@[go_sem ↓] theorem pS {rows} {n} {sz} {K}:We rows n sz K=nC rows n sz K ⟨⟩:=rfl
def nD {α:Type} (v:α) (K:α→Prop) (_:Wrap K):Prop:=NY v K
@[go_sem ↓] theorem pT {α:Type} {v:α} {K:α→Prop}:NY v K=nD v K ⟨⟩:=rfl
theorem Ag {α:Type} {v} {K} {w} (y:α) (h:v=y) (hk:K y):nD v K w:=⟨y,h,hk⟩
def KG (n:Nat) (rs:List RV) (K:List AV→List (Nat × Tok)→Prop) (_:Wrap K):Prop:=K (G3 n rs).1 (G3 n rs).2
def cv1 (n:Nat) (r:RV) (K:AV→List (Nat × Tok)→Prop):Prop:=K (conv n r).1 (conv n r).2
section
variable {n:Nat} {rs us:List RV} {L:List AV→List (Nat × Tok)→Prop} {L1:AV→List (Nat × Tok)→Prop} {w:Wrap L}
@[go_sem] theorem gi:KG n [] L w=L [] [] :=rfl
@[go_sem] theorem gj {k} {x}:KG n (.int k x::rs) L w=KG n rs (fun vs ts=>L (.int k x::vs) ts) ⟨⟩:=by rfl
@[go_sem] theorem dZ {b}:KG n (.bool b::rs) L w=KG n rs (fun vs ts=>L (.bool b::vs) ts) ⟨⟩:=by rfl
@[go_sem] theorem gm {x}:KG n (.str x::rs) L w=KG n rs (fun vs ts=>L (.str x::vs) ts) ⟨⟩:=by rfl
@[go_sem] theorem jq {x}:KG n (.ro x::rs) L w=KG n rs (fun vs ts=>L (.any ::vs) ts) ⟨⟩:=by rfl
@[go_sem] theorem da:KG n (.nilp ::rs) L w=KG n rs (fun vs ts=>L (.nilp ::vs) ts) ⟨⟩:=by rfl
@[go_sem] theorem jr {ap} {x}:KG n (.ow ap x::rs) L w=KG (n+1) rs (fun vs ts=>L (.own n::vs) ((n,⟨x,ap,0,false⟩)::ts)) ⟨⟩:=by rfl
@[go_sem] theorem gp:KG n (.agg us::rs) L w=KG n us (fun ws ts=>KG (n+ts.length) rs (fun vs ts'=>L (.agg ws::vs) (ts++ts')) ⟨⟩) ⟨⟩:=by rfl
@[go_sem] theorem gq:KG n (.tup us::rs) L w=KG n us (fun ws ts=>KG (n+ts.length) rs (fun vs ts'=>L (.tup ws::vs) (ts++ts')) ⟨⟩) ⟨⟩:=by rfl
@[go_sem ↓] theorem pU {k} {x}:cv1 n (.int k x) L1=L1 (.int k x) [] :=rfl
@[go_sem ↓] theorem nE {b}:cv1 n (.bool b) L1=L1 (.bool b) [] :=rfl
@[go_sem ↓] theorem pV {x}:cv1 n (.str x) L1=L1 (.str x) [] :=rfl
@[go_sem ↓] theorem qu {x}:cv1 n (.ro x) L1=L1 .any [] :=rfl
@[go_sem ↓] theorem nF:cv1 n .nilp L1=L1 .nilp [] :=rfl
@[go_sem ↓] theorem qv {ap} {x}:cv1 n (.ow ap x) L1=L1 (.own n) [(n,⟨x,ap,0,false⟩)] :=rfl
@[go_sem ↓] theorem pW:cv1 n (.agg us) L1=KG n us (fun ws ts=>L1 (.agg ws) ts) ⟨⟩:=by rfl
@[go_sem ↓] theorem pX:cv1 n (.tup us) L1=KG n us (fun ws ts=>L1 (.tup ws) ts) ⟨⟩:=by rfl
end
attribute [go_sem ↓] gi gj dZ gm jq da jr gp gq
def SH (P:Program) (L:Bool) (pos:Nat) (f:FuncId) (args:List AV) (as:Option (List AV)) (dst:Option Tmp) (σ:St) (K:St→Prop) (_:Wrap K) (w:Wrap L):Prop:=UG P L pos f args as dst σ K w
@[go_sem ↓] theorem nG {L} {wL} {f} {args} {as}:UG P L pos f args as dst σ K wL=SH P L pos f args as dst σ K ⟨⟩ wL:=rfl
theorem AH {f} {args bs} {w} {rv} (h:AC P f bs rv) (hk:Ap (pos*16) fun m=>cv1 m rv fun v ts=>AP (DA σ ts) (K (σ.add dst ⟨v,ts,[]⟩))) {L} {wL}:SH P L pos f args (some bs) dst σ K w wL:=ZO h hk.1 hk.2
theorem SJ {f} {args bs} {w} {rv} {o} (e:o=some bs) (h:AC P f bs rv) (hk:Ap (pos*16) fun m=>cv1 m rv fun v ts=>AP (DA σ ts) (K (σ.add dst ⟨v,ts,[]⟩))) {L} {wL}:SH P L pos f args o dst σ K w wL:=by
 subst e; exact ZO h hk.1 hk.2
theorem db {f} {args bs} {w} {rv} {o} (h:AG P f bs [] [] rv [] []) (e:cls (fun _=>none) (fun _=>none) args=some bs) (hp:Tg rv=true) (hk:K (σ.add dst ⟨rv,[],[]⟩)) {L} {wL}:SH P L pos f args o dst σ K w wL:=.inl (.inr ⟨bs,rv,[],[],h,e,.inl ⟨rfl,hp,hk⟩⟩)
attribute [go_sem] Tg
def Wj (y:Way) (as:List AV) (pt:List (Nat × Tok)) (pb:List (Nat × List AV)) (qt:List (Nat × Tok)) (qb:List (Nat × List AV)):Bool:=
 decide (((y.rt++y.nt).map (·.2)).Nodup)&&decide (((y.rt++y.nt).map (·.1)).Nodup)&&decide (((y.rb.map (·.2.1))++y.nb.map (·.2)).Nodup)&&decide (((y.rb.map (·.1))++y.nb.map (·.1)).Nodup)&&
 (y.rt.all fun p=>(look pt p.1).isSome)&&(y.rb.all fun p=>(look pb p.1).isSome)&&(y.nt.all fun p=>(look pt p.1).isNone)&&(y.nb.all fun p=>(look pb p.1).isNone)&&decide ((pt.map (·.1)).Nodup)&&decide ((pb.map (·.1)).Nodup)&&
 (pb.all fun p=>(look qb p.1).isSome)&&L7 y.rt y.cv&&(y.md||noZ qt)&&bp as pt pb&&(y.rt.all fun p=>decide (p.1 <1000)||(look qt p.1).isNone)
def SK:List (Nat × Nat)→List (Nat × Option Tok)→Prop
 | [],_=>True
 |(_,n)::r,t=>look t n=none∧SK r t
def O9:List (Nat × Nat)→List (Nat × Option (List AV))→Prop
 | [],_=>True
 |(_,n)::r,t=>look t n=none∧O9 r t
def Wl (y:Way) (args as:List AV) (pt:List (Nat × Tok)) (pb:List (Nat × List AV)) (σ1:St):Prop:=
 SK y.nt σ1.t∧O9 y.nb σ1.b∧QZ y.rt σ1 pt∧G5 y σ1 (σ1.less y) pb∧PasL y (σ1.less y) args as
theorem Ql {t}:∀ {l},SK l t→∀p ∈ l,(look t p.2).isNone =true
 | [],_,p,h=>by cases h
 |(c,n)::l,hf,p,h=>by
  simp only [SK] at hf
  rcases List.mem_cons.1 h with rfl|h
  ·rw [hf.1]; rfl
  ·exact Ql hf.2 p h
theorem PA {t}:∀ {l},O9 l t→∀p ∈ l,(look t p.2).isNone =true
 | [],_,p,h=>by cases h
 |(c,n)::l,hf,p,h=>by
  simp only [O9] at hf
  rcases List.mem_cons.1 h with rfl|h
  ·rw [hf.1]; rfl
  ·exact PA hf.2 p h
theorem Wm {f} {args} {σ} {as} {pt} {pb} {r} {qt} {qb} {K} (y:Way) (h:AG P f as pt pb r qt qb) (hB:Wj y as pt pb qt qb=true)
  (hc:CC y.cv σ fun σ1=>AP (Wl y args as pt pb σ1) (BR y.cv (σ1.after y qt qb) fun σ2=>K (bak y r) σ2)):Th P f args σ K:=by
 refine⟨y,as,pt,pb,r,qt,qb,h,JN (fun σ1 h=>?_) hc⟩
 unfold Wj at hB
 simp only [Bool.and_eq_true,decide_eq_true_eq,and_assoc] at hB
 obtain⟨b1,b2,b3,b4,b5,b6,b7,b8,b9,b10,b11,b12,bm,b13,b14⟩:=hB
 obtain⟨⟨h1,h2,h3,h4,h5⟩,h6⟩:=h
 refine⟨⟨b1,b2,b3,b4,b5,b6,?_,?_,b9,b10⟩,h3,h4,h5,b11,⟨b12,bm⟩,b13,b14,h6⟩
 ·rw [List.all_eq_true] at b7 ⊢
  intro p hp
  rw [b7 p hp,Ql h1 p hp]; rfl
 ·rw [List.all_eq_true] at b8 ⊢
  intro p hp
  rw [b8 p hp,PA h2 p hp]; rfl
theorem js {L} {wL} {f} {args} {o} {w} {as} {pt} {pb} {r} {qt} {qb} (y:Way) (hL:L=true) (h:AG P f as pt pb r qt qb) (hB:Wj y as pt pb qt qb=true)
  (hc:CC y.cv σ fun σ1=>AP (Wl y args as pt pb σ1) (BR y.cv (σ1.after y qt qb) fun σ2=>K (σ2.put dst (bak y r)))):SH P L pos f args o dst σ K w wL:=.inr ⟨hL,[],Wm (K:=fun v σ'=>K (σ'.put dst v)) y h hB hc⟩
theorem YN {L} {wL} {f} {args} {o} {w} {as} {pt} {pb} {r} {qt} {qb} (bs:List Nat) (y:Way) (hL:L=true) (h:AG P f as pt pb r qt qb) (hB:Wj y as pt pb qt qb=true)
  (hc:FzK bs args σ fun args σ=>CC y.cv σ fun σ1=>AP (Wl y args as pt pb σ1) (BR y.cv (σ1.after y qt qb) fun σ2=>K (σ2.put dst (bak y r)))):SH P L pos f args o dst σ K w wL:=.inr ⟨hL,bs,SC (fun args σ hc=>Wm (K:=fun v σ'=>K (σ'.put dst v)) y h hB hc) hc⟩
@[go_sem ↓] theorem pY {args} {K}:FzK [] args σ K=K args σ:=rfl
@[go_sem ↓] theorem nH {b} {r} {args} {s} {t} {bb} {K}:FzK (b::r) args ⟨s,t,bb⟩ K=optX ((look bb b).join) fun vs=>AP (1000≤b∧isMp vs=false) (Ap (args.map (fzA b vs)) fun args'=>FzK r args' ⟨s,t,(b,none)::bb⟩ K):=rfl
section
variable {b:Nat} {vs:List AV}
@[go_sem] theorem pZ {x n sz}:fzA b vs (.bsl x n sz)=(cl (fun _=>none) (only b vs) (.bsl x n sz)).getD (.bsl x n sz):=rfl
@[go_sem] theorem pc {x off}:fzA b vs (.box x off)=(cl (fun _=>none) (only b vs) (.box x off)).getD (.box x off):=rfl
@[go_sem] theorem pd {us}:fzA b vs (.agg us)=(cl (fun _=>none) (only b vs) (.agg us)).getD (.agg us):=rfl
@[go_sem] theorem pe {k} {n}:fzA b vs (.int k n)= .int k n:=rfl
@[go_sem] theorem nI {x}:fzA b vs (.bool x)= .bool x:=rfl
@[go_sem] theorem pf {x}:fzA b vs (.str x)= .str x:=rfl
@[go_sem] theorem qw {x}:fzA b vs (.ro x)= .ro x:=rfl
@[go_sem] theorem pg {x}:fzA b vs (.own x)= .own x:=rfl
@[go_sem] theorem ph {x} {off}:fzA b vs (.rop x off)= .rop x off:=rfl
@[go_sem] theorem pi {t sz i off}:fzA b vs (.elt t sz i off)= .elt t sz i off:=rfl
@[go_sem] theorem qx {f} {x}:fzA b vs (.fn f x)= .fn f x:=rfl
@[go_sem] theorem nJ:fzA b vs .nilp = .nilp :=rfl
@[go_sem] theorem nK:fzA b vs .nils = .nils :=rfl
@[go_sem] theorem pj {x}:fzA b vs (.mpr x)= .mpr x:=rfl
@[go_sem] theorem pk:fzA b vs .any = .any :=rfl
end
attribute [go_sem] Option.getD_some Option.getD_none Option.join_some Option.bind_some Option.bind_none only
attribute [go_sem] ne_eq true_imp_iff implies_true false_imp_iff D2 D.flat kept Wl SK O9 QZ St.less Qa RT RU RW Xj Xk St.after bak baks G5
@[go_sem ↓] theorem lR:CC [] σ K=K σ:=by rw [CC]
@[go_sem ↓] theorem jt {n} {z} {r} {s} {t} {b}:CC ((n,.nils,z)::r) ⟨s,t,b⟩ K=AP (look t n=none) (CC r ⟨s,(n,some ⟨[],z,0,false⟩)::t,b⟩ K):=by rw [CC]; rfl
@[go_sem ↓] theorem lS {n x m sz} {z} {r} {s} {t} {b}:CC ((n,.bsl x m sz,z)::r) ⟨s,t,b⟩ K=AP (m=0) (AP (look t n=none) (CC r ⟨s,(n,some ⟨[],z,0,false⟩)::t,b⟩ K)):=by rw [CC]; rfl
@[go_sem ↓] theorem lT {n t' g sz i j:Nat} {r:List (Nat × AV × Option Nat)} {s:List (Nat × AV)} {t:List (Nat × Option Tok)} {b:List (Nat × Option (List AV))}:CC ((n,.sub t' g [(sz,i,j)],none)::r) ⟨s,t,b⟩ K=
  AP (look t n=none∧n≠t') (optX (look t t').join fun tk=>AP (tk.gen=g) (optX (getP [(sz,i,j)] tk.rows) fun rows=>NY (putR [(sz,i,j)] tk.rows .gone) fun rows'=>CC r ⟨s,(n,some ⟨rows,none,0,tk.z⟩)::(t',some ⟨rows',tk.sz,g,tk.z⟩)::t,b⟩ K)):=by
 rw [CC]
 simp only [AP,optX,H1,List.length_cons,List.length_nil,true_and,Nat.zero_add]
 refine propext ⟨?_,?_⟩
 ·rintro ⟨h2,tk,rows,h4,h5,h6,h7,h8⟩; exact⟨⟨h2,h7⟩,tk,h4,h5,rows,h6,h8⟩
 ·rintro ⟨⟨h2,h7⟩,tk,h4,h5,rows,h6,h8⟩; exact⟨h2,tk,rows,h4,h5,h6,h7,h8⟩
@[go_sem ↓] theorem pm:BR [] σ K=K σ:=by rw [BR]
def unX (n:Nat) (K:St→Prop) (σ:St):Prop:=K {σ with t:=(n,none)::σ.t}
@[go_sem ↓] theorem qy {n} {s} {t} {b}:unX n K ⟨s,t,b⟩=K ⟨s,(n,none)::t,b⟩:=rfl
@[go_sem ↓] theorem nL {n} {z} {r}:BR ((n,.nils,z)::r) σ K=BR r σ (unX n K):=by rw [BR]; rfl; grind
@[go_sem ↓] theorem po {n x m sz} {z} {r}:BR ((n,.bsl x m sz,z)::r) σ K=BR r σ (unX n K):=by rw [BR]; rfl; grind
def unS (n t' g:Nat) (p:Pth) (K:St→Prop) (σ:St):Prop:=match σ.T n with
 |some tn=>∃tk,σ.T t'=some tk∧Qu p tk.rows=some .gone ∧(n≠t'∧okZ tk.z tn=true)∧K {σ with t:=(n,none)::(t',some ⟨putR p tk.rows (.sl tn.rows),tk.sz,if tn.gen=0∧tk.gen=g then g else tk.gen+tn.gen+1,tk.z⟩)::σ.t}
 |none=>K σ
@[go_sem ↓] theorem pp {n t' g} {p} {z} {r}:BR ((n,.sub t' g p,z)::r) σ K=BR r σ (unS n t' g p K):=by rw [BR]; rfl
def unO (o:Option Tok) (n t' g:Nat) (p:Pth) (K:St→Prop) (σ:St):Prop:=match o with
 |some tn=>AP (n≠t') (optX (σ.T t') fun tk=>AP (okZ tk.z tn=true) (AP (Qu p tk.rows=some .gone) (NY (putR p tk.rows (.sl tn.rows)) fun rows=>K ⟨σ.s,(n,none)::(t',some ⟨rows,tk.sz,if tn.gen=0∧tk.gen=g then g else tk.gen+tn.gen+1,tk.z⟩)::σ.t,σ.b⟩)))
 |none=>K σ
@[go_sem ↓] theorem qz {n t' g:Nat} {p:Pth} {s:List (Nat × AV)} {t:List (Nat × Option Tok)} {b:List (Nat × Option (List AV))}:unS n t' g p K ⟨s,t,b⟩=unO (look t n).join n t' g p K ⟨s,t,b⟩:=by
 grind [unS,unO,St.T,AP,optX,H1]
@[go_sem] theorem nM {n t' g} {p} {tn}:unO (some tn) n t' g p K σ=AP (n≠t') (optX (σ.T t') fun tk=>AP (okZ tk.z tn=true) (AP (Qu p tk.rows=some .gone) (NY (putR p tk.rows (.sl tn.rows)) fun rows=>K ⟨σ.s,(n,none)::(t',some ⟨rows,tk.sz,if tn.gen=0∧tk.gen=g then g else tk.gen+tn.gen+1,tk.z⟩)::σ.t,σ.b⟩))):=rfl
@[go_sem] theorem nO {n t' g} {p}:unO none n t' g p K σ=K σ:=rfl
theorem ON {α:Type} {l:List α} {i:Nat} {x y:α} (h:l[i]? =some x):(l.set i y)[i]? =some y:=List.getElem?_set_self (BZ h)
theorem Ec {rows r} {sz i j} {row} (h:rows[i]? =some row) (hl:row.length=sz) (hj:row[j]? =some (.sl r)):getP [(sz,i,j)] rows=some r:=by
 grind [getP]
theorem YO {rows} {sz i j} {row} {d} (h:rows[i]? =some row) (hl:row.length=sz) (hj:row[j]? =some d):Qu [(sz,i,j)] rows=some d:=by
 grind [Qu]
theorem Hk {rows} {sz i j} {row} {d d'} (h:rows[i]? =some row) (hj:row[j]? =some d'):putR [(sz,i,j)] rows d=rows.set i (row.set j d):=by
 grind [putR,Ab.put]
theorem gr {rows:List (List D)} {sz i j:Nat} {row:List D} {d d':D} (h:rows[i]? =some row) (hj:row[j]? =some d'):(putR [(sz,i,j)] rows d)[i]? =some (row.set j d):=by
 rw [Hk h hj]; grind
section
variable {y:Way} {σ0:St}
@[go_sem] theorem nP:PasL y σ0 [] [] =True:=by rfl
@[go_sem] theorem lU {a b} {as bs}:PasL y σ0 (a::as) (b::bs)=(D3 y σ0 a b∧PasL y σ0 as bs):=by rfl
@[go_sem] theorem pr {n c}:D3 y σ0 (.own n) (.own c)=(look y.rt c=some n∨∃z,∃m,look y.rt c=some m∧look y.cv m=some (.own n,z)):=by
 grind [D3]
def cvX (o:Option (AV × Option Nat)) (a:AV):Prop:=match o with|some x=>x.1 =a|none=>False
theorem Uw {o} {a}:(∃z,o=some (a,z))=cvX o a:=by
 unfold cvX
 grind
def rtX (o:Option Nat) (K:Nat→Prop):Prop:=match o with|some n=>K n|none=>False
@[go_sem] theorem nQ {n} {K}:rtX (some n) K=K n:=rfl
@[go_sem] theorem nR {x} {a}:cvX (some x) a=(x.1 =a):=rfl
theorem RI {o} {p}:(∃n,o=some n∧p n)=rtX o p:=by
 cases o <;> simp [rtX]
@[go_sem] theorem pv {t g c} {p}:D3 y σ0 (.sub t g p) (.own c)=rtX (look y.rt c) fun n=>cvX (look y.cv n) (.sub t g p):=by
 rw [← RI]
 grind [D3,Uw]
@[go_sem] theorem nT {c}:D3 y σ0 .nils (.own c)=rtX (look y.rt c) fun n=>cvX (look y.cv n) .nils :=by
 rw [← RI]
 grind [D3,Uw]
@[go_sem] theorem pw {x m sz c}:D3 y σ0 (.bsl x m sz) (.own c)=rtX (look y.rt c) fun n=>cvX (look y.cv n) (.bsl x m sz):=by
 rw [← RI]
 grind [D3,Uw]
@[go_sem] theorem pz {n off b off'}:D3 y σ0 (.box n off) (.box b off')=match look y.rb b with|some q=>n=q.1 ∧off=q.2 +off'|none=>False:=by
 simp only [D3,AV.box.injEq]
 cases look y.rb b <;> simp
@[go_sem] theorem p4 {n sz i off c sz' i' off'}:D3 y σ0 (.elt n sz i off) (.elt c sz' i' off')=rtX (look y.rt c) fun m=>n=m∧sz=sz'∧i=i'∧off=off':=by
 rw [← RI]
 grind [D3]
@[go_sem] theorem p5 {vs us}:D3 y σ0 (.agg vs) (.agg us)=PasL y σ0 vs us:=by rfl
@[go_sem] theorem q9 {f f'} {vs us}:D3 y σ0 (.fn f vs) (.fn f' us)=(f=f'∧PasL y σ0 vs us):=by rfl
@[go_sem] theorem p6 {n b}:D3 y σ0 (.mpr n) (.mpr b)=match look y.rb b with|some q=>n=q.1 |none=>False:=by
 simp only [D3,AV.mpr.injEq]
 cases look y.rb b <;> simp
def clW (y:Way) (σ0:St) (a:AV):Option AV:=cl (if y.md=true then fun _=>none else σ0.T) (if y.md=true then fun _=>none else σ0.B) a
@[go_sem] theorem p8 {a} {k} {n}:D3 y σ0 a (.int k n)=(clW y σ0 a=some (.int k n)):=by cases a <;> simp only [D3,clW]
@[go_sem] theorem nU {a} {b}:D3 y σ0 a (.bool b)=(clW y σ0 a=some (.bool b)):=by cases a <;> simp only [D3,clW]
@[go_sem] theorem p9 {a} {s}:D3 y σ0 a (.str s)=(clW y σ0 a=some (.str s)):=by cases a <;> simp only [D3,clW]
@[go_sem] theorem rA {a} {rows}:D3 y σ0 a (.ro rows)=(clW y σ0 a=some (.ro rows)):=by cases a <;> simp only [D3,clW]
@[go_sem] theorem qA {a} {vs} {off}:D3 y σ0 a (.rop vs off)=narR (clW y σ0 a) vs off:=by cases a <;> simp only [D3,clW]
@[go_sem] theorem nV {us} {o'} {vs} {off}:narR (some (.rop us o')) vs off=((us=vs∧o'=off)∨(off=0∧FX us o' vs.length=vs)):=rfl
@[go_sem] theorem nW {a}:D3 y σ0 a .nilp =(clW y σ0 a=some .nilp):=by cases a <;> simp only [D3,clW]
@[go_sem] theorem qB {a} {q} {rows}:D3 y σ0 a (.mpc q rows)=(clW y σ0 a=some (.mpc q rows)):=by cases a <;> simp only [D3,clW]
@[go_sem] theorem qC {a}:D3 y σ0 a .any =(clW y σ0 a=some .any):=by cases a <;> simp only [D3,clW]
@[go_sem] theorem rB {cv rt rb nt nb} {a}:clW ⟨cv,rt,rb,nt,nb,true⟩ σ0 a=cl (fun _=>none) (fun _=>none) a:=by rfl
@[go_sem] theorem rC {cv rt rb nt nb} {a}:clW ⟨cv,rt,rb,nt,nb,false⟩ σ0 a=cl σ0.T σ0.B a:=by rfl
end
def dc (P:Program) (t:TypeId) (v:AV) (σ:St) (K:Bool→Prop) (_:Wrap K):Prop:=WX P t v σ K
theorem de {rows} {K} {w} (h:slP (ti P t)) (h0:rows=[] →K true) (h1:K false):dc P t (.ro rows) σ K w:=fJ h h0 h1
@[go_sem] theorem lV {K} {w}:dc P t .nils σ K w=AP (slP (ti P t)) (K true):=UF
@[go_sem] theorem nX {b n sz} {K} {w}:dc P t (.bsl b n sz) σ K w=AP (slP (ti P t)) (K false):=WY
@[go_sem ↓] theorem lW:opX P pos dst (.makeMap t none) σ K=optX (bn P t) fun q=>AP (look σ.b pos=none) (K ((σ.put dst (.mpr pos)).setB pos [.mpc q []])):=by
 rw [P7 (fun _=>by rfl)]
 simp only [Ev,optX,AP]
 refine propext ⟨?_,?_⟩
 ·rintro ⟨r,⟨q,h1,rfl⟩,-,h2,h3⟩
  exact⟨q,h1,h2.1,by rw [← J0]; exact h3⟩
 ·rintro ⟨q,h1,h2,h3⟩
  exact⟨_,⟨q,h1,rfl⟩,trivial,⟨h2,trivial⟩,by rw [J0]; exact h3⟩
def lkR (ok:Bool) (o:Option D) (z:AV) (K:AV→Prop):Prop:=K (if ok=true then .tup [(o.map ofD).getD z,.bool o.isSome] else (o.map ofD).getD z)
@[go_sem] theorem rD {o} {z} {K}:lkR false o z K=Ap ((o.map ofD).getD z) K:=by rfl
@[go_sem] theorem rE {o} {z} {K}:lkR true o z K=Ap ((o.map ofD).getD z) fun v=>Ap o.isSome fun b=>K (.tup [v,.bool b]):=by rfl
def lkX (P:Program) (t:TypeId) (u v:AV) (ok:Bool) (σ:St) (K:AV→Prop):Prop:=∃r,QX P σ.B t u v ok r∧K r
@[go_sem] theorem qD {b} {v} {ok} {K}:lkX P t (.mpr b) v ok σ K=YM (ti P t) fun kt et=>Wg (σ.B b) fun q rows=>AP (Vk P kt=some q) (optX (keyD v) fun k=>AP (Ua q k=true) (optX (tz1 P et) fun z=>Ap (zAV z) fun z'=>Ap (H8 k rows) fun o=>lkR ok o z' K)):=by
 simp only [lkX,QX,YM,Wg,AP,optX,Ap,lkR]
 grind
@[go_sem ↓] theorem nY {ok}:opX P pos dst (.lookup t x y ok) σ K=Ap (σ.e x) fun u=>Ap (σ.e y) fun v=>lkX P t u v ok σ fun r=>K (σ.put dst r):=
 Gs (p:=fun v=>QX P σ.B t (σ.e x) (σ.e y) ok v) (fun _=>by rfl) (fun r=>by rfl)
def UH (a:AV):Option D:=match LA [a] with|some [d] =>some d|_=>none
@[go_sem] theorem lX {k} {n}:UH (.int k n)=some (.int k n):=rfl
@[go_sem] theorem ju {b}:UH (.bool b)=some (.bool b):=rfl
@[go_sem] theorem lY {s}:UH (.str s)=some (.str s):=rfl
theorem dg {a} {d}:LA [a] =some [d] ↔UH a=some d:=by
 unfold UH
 cases a <;> simp [LA]
def muX (P:Program) (t:TypeId) (u v x:AV) (σ:St) (K:St→Prop):Prop:=Uc P t u v x σ K
@[go_sem] theorem qE {b:Nat} {v x:AV}:muX P t (.mpr b) v x σ K=YM (ti P t) fun kt et=>Wg (σ.B b) fun q rows=>AP (rows.length<68719476736) (AP (Vk P kt=some q) (optX (keyD v) fun k=>AP (Ua q k=true) (optX (UH x) fun d=>NY (mput k d rows) fun rows'=>K (σ.setB b [.mpc q rows'])))):=by
 simp only [muX,Uc,YM,Wg,AP,optX,H1]
 grind [dg]
@[go_sem ↓] theorem iY {m i}:opX P pos dst (.mapUpdate t m i x) σ K=Ap (σ.e m) fun u=>Ap (σ.e i) fun v=>Ap (σ.e x) fun z=>muX P t u v z σ fun σ'=>K (σ'.put dst .any):=by
 rfl
@[go_sem ↓] theorem nZ {m i}:opX P pos dst (.insert t m i x) σ K=Ap (σ.e m) fun u=>Ap (σ.e i) fun v=>Ap (σ.e x) fun z=>muX P t u v z σ fun σ'=>K (σ'.put dst .any):=by
 rfl
attribute [go_sem] keyD
@[go_sem] theorem na {k} {n}:Ua (.int k) (.int k n)=true:=by simp [Ua]
@[go_sem] theorem nc {s}:Ua .str (.str s)=true:=rfl
@[go_sem ↓] theorem rF:opX P pos dst (.pick c a b) σ K=Ap (σ.e c) fun u=>Ap (σ.e a) fun v=>Ap (σ.e b) fun w=>SG u v w fun v=>K (σ.put dst v):=jP
@[go_sem ↓] theorem rG:opX P pos dst (.load t a) σ K=Ap (σ.e a) fun u=>MR P t u σ fun v=>K (σ.put dst v):=jQ
@[go_sem ↓] theorem jv:opX P pos dst (.nilCheck x) σ K=Ap (σ.e x) fun u=>Uu u fun v=>K (σ.put dst v):=YI
@[go_sem ↓] theorem lZ {y}:opX P pos dst (.binOp op t x (.tmp y) t') σ K=Ap (σ.e x) fun u=>Ap (σ.g y) fun v=>Br P op t u v fun v=>K (σ.put dst v):=aW
@[go_sem ↓] theorem lc {k} {n}:opX P pos dst (.binOp op t x (.const (.int k n)) t') σ K=Ap (σ.e x) fun u=>Br P op t u (.int k n) fun v=>K (σ.put dst v):=aX
@[go_sem ↓] theorem jw {b}:opX P pos dst (.binOp op t x (.const (.bool b)) t') σ K=Ap (σ.e x) fun u=>Br P op t u (.bool b) fun v=>K (σ.put dst v):=YJ
@[go_sem ↓] theorem ld {b}:opX P pos dst (.binOp op t x (.const (.string b)) t') σ K=Ap (σ.e x) fun u=>Br P op t u (.str b) fun v=>K (σ.put dst v):=aY
@[go_sem ↓] theorem jx:opX P pos dst (.binOp op t x (.const (.pointer none)) t') σ K=Ap (σ.e x) fun u=>Br P op t u .nilp fun v=>K (σ.put dst v):=YK
@[go_sem ↓] theorem nf:opX P pos dst (.binOp .eql t x (.const (.slice none 0 0)) t') σ K=Ap (σ.e x) fun u=>dc P t u σ (fun b=>K (σ.put dst (.bool b))) ⟨⟩:=cz
@[go_sem ↓] theorem ng:opX P pos dst (.binOp .neq t x (.const (.slice none 0 0)) t') σ K=Ap (σ.e x) fun u=>dc P t u σ (fun b=>K (σ.put dst (.bool !b))) ⟨⟩:=c0
@[go_sem ↓] theorem rH {op}:opX P pos dst (.unOp op t x) σ K=Ap (σ.e x) fun u=>Wa op u fun v=>K (σ.put dst v):=jZ
@[go_sem ↓] theorem lf:opX P pos dst (.convert s d x) σ K=Ap (σ.e x) fun u=>MS P s d u σ fun v=>K (σ.put dst v):=aa
@[go_sem ↓] theorem iZ:opX P pos dst (.fieldAddr s x f) σ K=Ap (σ.e x) fun u=>faX P s u f fun v=>K (σ.put dst v):=Wd
@[go_sem ↓] theorem qF:opX P pos dst (.field s x f) σ K=Ap (σ.e x) fun u=>fdX P s u f fun v=>K (σ.put dst v):=fx
@[go_sem ↓] theorem ia:opX P pos dst (.indexAddr t x y) σ K=Ap (σ.e x) fun u=>Ap (σ.e y) fun v=>iaX P t u v σ fun v=>K (σ.put dst v):=Wf
@[go_sem ↓] theorem qG {l h}:opX P pos dst (.slice t x l h none) σ K=Ap (σ.e x) fun u=>ai P σ.T t u (l.map σ.e) (h.map σ.e) fun v=>K (σ.put dst v):=f5
@[go_sem ↓] theorem qH:opX P pos dst (.index t x y) σ K=Ap (σ.e x) fun u=>Ap (σ.e y) fun v=>elX P t u v fun v=>K (σ.put dst v):=fy
@[go_sem ↓] theorem lg:opX P pos dst (.extract x i) σ K=Ap (σ.e x) fun u=>aj u i fun v=>K (σ.put dst v):=ak
@[go_sem ↓] theorem re:opX P pos dst (.call ⟨.builtin .len,List.toArray [x],List.toArray [t]⟩) σ K=Ap (σ.e x) fun u=>NX P t u σ fun v=>K (σ.put dst v):=mn
@[go_sem ↓] theorem rf {ts}:opX P pos dst (.call ⟨.builtin .max,List.toArray [x,y],ts⟩) σ K=Ap (σ.e x) fun u=>Ap (σ.e y) fun v=>Qv (fun n m=>if n<m then m else n) u v fun v=>K (σ.put dst v):=mo
@[go_sem ↓] theorem rg {ts}:opX P pos dst (.call ⟨.builtin .min,List.toArray [x,y],ts⟩) σ K=Ap (σ.e x) fun u=>Ap (σ.e y) fun v=>Qv (fun n m=>if m<n then m else n) u v fun v=>K (σ.put dst v):=mq
@[go_sem ↓] theorem rh:opX P pos dst (.box t x) σ K=Ap (cellsOf (σ.e x)) fun cs=>bxX pos cs dst (.box pos 0) σ K:=mu
@[go_sem ↓] theorem qI:opX P pos dst (.alloc t) σ K=AP (0<(tz P t).length) (Ap ((tz P t).map zAV) fun vs=>bxX pos (some vs) dst (.box pos 0) σ K):=gG
@[go_sem ↓] theorem qJ {parts}:opX P pos dst (.build t parts.toArray) σ K=Wh P (ti P t) fun fs=>AP ((fs.all fun q=>decide (0<tsz P q.2))=true∧0<(tz P t).length) (Ap ((tz P t).map zAV) fun vs=>Ap (pvs σ parts) fun ps=>bpX P fs vs ps fun v=>K (σ.put dst v)):=gK
@[go_sem ↓] theorem ib:opX P pos dst (.makeSlice t l c) σ K=slX (ti P t) fun e=>Ap (σ.e l) fun u=>Ap (σ.e c) fun v=>mkX P pos e u v dst σ K:=Wi
@[go_sem ↓] theorem rI {L} {wL} {args} {ts}:opL P L pos dst (.call ⟨.value g,args.toArray,ts⟩) σ K wL=Ap (σ.e g) fun u=>Ap (evs σ args) fun vs=>clX P L pos u vs dst σ K wL:=jj
@[go_sem ↓] theorem qK:opX P pos dst (.store t a x) σ K=Ap (σ.e a) fun u=>Ap (cellsOf (σ.e x)) fun cs=>stX P t u cs σ fun σ'=>K (σ'.put dst .any):=gS
@[go_sem ↓] theorem nh:opX P pos dst (.call ⟨.builtin .append,List.toArray [x,y],List.toArray [t,t]⟩) σ K=slX (ti P t) fun e=>Ap (σ.e x) fun u=>Ap (σ.e y) fun v=>apX P pos e u v dst σ K:=dT
def apE (P:Program) (pos:Nat) (e:TypeId) (u v:AV) (dst:Option Tmp) (σ:St) (K:St→Prop):Prop:=Y0 u=true∧match v with
 | .ro rows=>(0<tsz P e∧(tz P e).length =tsz P e)∧∃z,roZ z (tsz P e) rows fun rows=>(rows.length*P.bytesOf e≤140737488355328∧rows.length≤maxLen)∧look σ.t (pos*16)=none∧K ((σ.setT (pos*16) ⟨rows,some (tsz P e),0,z⟩).put dst (.own (pos*16)))
 |_=>False
theorem dh {z} {sz} {rows} {K K'} (h:∀r,K r→K' r) (k:roZ z sz rows K):roZ z sz rows K':=by
 cases z
 ·exact⟨k.1,h _ k.2⟩
 ·exact⟨k.1,h _ k.2⟩
def roX (z:Bool) (sz:Nat) (rows:List (List D)) (K:List (List D)→Prop):Prop:=roZ z sz rows K
@[go_sem] theorem rj {sz} {rows} {K}:roX false sz rows K=AP (∀row ∈ rows,row.length=sz∧∀d ∈ row,d.flat=true) (K rows):=rfl
@[go_sem] theorem rk {sz:Nat} {rows:List (List D)} {K:List (List D)→Prop}:roX true sz rows K=AP (∀row ∈ rows,row.length=sz∧∀d ∈ row,d≠ .gone) (NY (fzR rows) fun r=>K r):=by
 grind [roX,roZ,AP,H1]
@[go_sem] theorem rJ {e:TypeId} {u:AV} {rows:List (List D)}:apE P pos e u (.ro rows) dst σ K=AP (Y0 u=true) (AP (0<tsz P e∧(tz P e).length =tsz P e) (zX fun z=>roX z (tsz P e) rows fun rows=>AP (rows.length*P.bytesOf e≤140737488355328∧rows.length≤maxLen) (AP (look σ.t (pos*16)=none) (NY rows fun rows=>K ((σ.setT (pos*16) ⟨rows,some (tsz P e),0,z⟩).put dst (.own (pos*16))))))):=by simp only [H1]; rfl
@[go_sem ↓] theorem rK:opE P pos dst (.call ⟨.builtin .append,List.toArray [x,y],List.toArray [t,t]⟩) σ K=slX (ti P t) fun e=>Ap (σ.e x) fun u=>Ap (σ.e y) fun v=>apE P pos e u v dst σ K:=by
 unfold opE
 simp only [Ev,lw,slX,true_and,Ap]
 generalize σ.e x=u
 generalize σ.e y=v
 refine propext ⟨?_,?_⟩
 ·rintro ⟨r,⟨h1,h2⟩,h3,h4,h5⟩
  split at h2
  ·rename_i el rows hel
   obtain⟨h6,z,h7⟩:=h2
   rw [hel]
   refine⟨h1,h6,z,dh (fun rows h8=>?_) h7⟩
   obtain⟨h9,rfl⟩:=h8
   refine⟨h9,h3.1,?_⟩
   cases dst <;> exact h5
  grind
 ·intro h
  generalize hti:ti P t=q at h ⊢
  cases q with
  | sl el=>
   cases v with
   | ro rows=>
    obtain⟨h1,h6,z,h7⟩:=h
    cases z with
    |false=>
     obtain⟨h8,h9,h10,h5⟩:=h7
     exact⟨_,⟨h1,h6,false,h8,h9,rfl⟩,⟨h10,trivial⟩,trivial,by cases dst <;> exact h5⟩
    |true=>
     obtain⟨h8,h9,h10,h5⟩:=h7
     exact⟨_,⟨h1,h6,true,h8,h9,rfl⟩,⟨h10,trivial⟩,trivial,by cases dst <;> exact h5⟩
   |_=>exact h.2.elim
  |_=>exact h.elim
@[go_sem ↓] theorem rL {e:TypeId} {u v:AV}:apX P pos e u v dst σ K=AP (0<tsz P e∧(tz P e).length =tsz P e) (zX fun z=>RS z e (tsz P e) u σ fun rows σ1=>NV z (tsz P e) v σ1 fun rows2 σ2=>
   AP ((rows.length+rows2.length)*P.bytesOf e≤140737488355328∧rows.length+rows2.length≤maxLen) (AP (look σ2.t (pos*16)=none) (NY (rows++rows2) fun rows=>K ((σ2.setT (pos*16) ⟨rows,some (tsz P e),0,z⟩).put dst (.own (pos*16)))))):=by simp only [H1]; rfl
end
attribute [go_sem] zAV
section
variable {P:Program} {σ:St} {K:St→Prop} {ops:Array Oper} {base cut i:Nat}
@[go_sem] theorem jy {x} {xs b} {w1} {w2} {w3} {w4}:Jz P ops base cut i (List.append (x::xs) b) σ K w1 w2 w3 w4=Jz P ops base cut i (x::List.append xs b) σ K w1 ⟨⟩ w3 w4:=rfl
@[go_sem] theorem lh {b} {w1} {w2} {w3} {w4}:Jz P ops base cut i (List.append [] b) σ K w1 w2 w3 w4=Jz P ops base cut i b σ K w1 ⟨⟩ w3 w4:=rfl
@[go_sem] theorem lj {a b c} {w1} {w2} {w3} {w4}:Jz P ops base cut i (List.append (List.append a b) c) σ K w1 w2 w3 w4=Jz P ops base cut i (List.append a (List.append b c)) σ K w1 ⟨⟩ w3 w4:=by
 unfold Jz; rw [show List.append (List.append a b) c=List.append a (List.append b c) from List.append_assoc a b c]
@[go_sem ↓] theorem di {dst} {op} {type} {ps} {after} {g} {rest b} {K}:Kd (List.toArray (List.append (⟨some dst,op,type,ps,after,g⟩::rest) b)) 0 K=K dst:=by
 grind [List.append,YE]
@[go_sem ↓] theorem dj {o} {rest b} {j} {K}:Kd (List.toArray (List.append (o::rest) b)) (j+1) K=Kd (List.toArray (List.append rest b)) j K:=by
 grind [List.append,YF]
@[go_sem ↓] theorem ek {b} {j} {K}:Kd (List.toArray (List.append [] b)) j K=Kd b.toArray j K:=rfl
@[go_sem ↓] theorem em {a b c} {j} {K}:Kd (List.toArray (List.append (List.append a b) c)) j K=Kd (List.toArray (List.append a (List.append b c))) j K:=by
 rw [show List.append (List.append a b) c=List.append a (List.append b c) from List.append_assoc a b c]
@[go_sem] theorem qL {a b:List Oper} {p:Oper→Bool}:List.all (List.append a b) p=(List.all a p&&List.all b p):=List.all_append
end
end Go.Proofs.YteckcjgpnegkjaaGreat.Ab
