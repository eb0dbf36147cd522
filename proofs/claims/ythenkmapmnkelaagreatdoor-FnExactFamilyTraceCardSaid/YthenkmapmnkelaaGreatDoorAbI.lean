/- The abstract walk, ninth part. -/
import Derived.Test.YthenkmapmnkelaaGreatDoorAbH
namespace Go.Proofs.YthenkmapmnkelaaGreatDoor.Ab
set_option linter.unusedVariables false
set_option maxHeartbeats 1000000
set_option linter.unusedSimpArgs false
open Go.RowKit
section
variable {cx:Cx} {γ:Gh} {T:Nat→Option Tok} {B:Nat→Option (List AV)} {w w':World}
end
def DR (V w:World):List D→List Value→List Nat→Prop
 | [],us,fp=>us=[] ∧fp=[]
 |d::ds,us,fp=>∃u us' f1 f2,us=u::us'∧Own V w d u f1∧DR V w ds us' f2∧fp=f1++f2
theorem DR.length {V w}:∀ {ds} {us} {fp},DR V w ds us fp→us.length=ds.length
 | [],us,fp,h=>by grind [DR]
 |d::ds,us,fp,h=>by
  simp only [DR] at h
  obtain⟨u,j,q,p,rfl,-,h2,-⟩:=h
  simp [DR.length h2]
theorem DR.keep {V w w'}:∀ {ds} {us} {fp},DR V w ds us fp→(∀g ∈ fp,w'.heap[g]? =w.heap[g]?)→DR V w' ds us fp
 | [],us,fp,h,_=>by grind [DR]
 |d::ds,us,fp,h,hk=>by
  simp only [DR] at h ⊢
  obtain⟨u,j,q,p,rfl,h1,h2,rfl⟩:=h
  exact⟨u,j,q,p,rfl,Own.keep h1 fun g hg=>hk g (by simp [hg]),DR.keep h2 fun g hg=>hk g (by simp [hg]),rfl⟩
theorem DR.mono {V V' w} (hk:Keeps V V'):∀ {ds} {us} {fp},DR V w ds us fp→DR V' w ds us fp
 | [],us,fp,h=>by grind [DR]
 |d::ds,us,fp,h=>by
  simp only [DR] at h ⊢
  obtain⟨u,j,q,p,rfl,h1,h2,rfl⟩:=h
  exact⟨u,j,q,p,rfl,Own.mono hk h1,DR.mono hk h2,rfl⟩
theorem DR.cells {V w} {cs}:∀ {ds} {us} {fp} {o},DR V w ds us fp→(∀j,j<us.length→cs[o+j]? =us[j]?)→OwnC V w cs o ds fp
 | [],us,fp,o,h,hc=>by grind [DR,OwnC]
 |d::ds,us,fp,o,h,hc=>by
  simp only [DR] at h
  obtain⟨u,p,v,q,rfl,h1,h2,rfl⟩:=h
  simp only [OwnC]
  refine⟨u,v,q,by simpa using hc 0 (by simp),h1,DR.cells h2 fun j hj=>?_,rfl⟩
  have:=hc (j+1) (by simpa using hj)
  simpa [Nat.add_assoc,Nat.add_comm 1 j] using this
theorem OwnC.of_append {V w} {cs}:∀ {d1 d2} {o} {fp},OwnC V w cs o (d1++d2) fp↔∃j p,OwnC V w cs o d1 j∧OwnC V w cs (o+d1.length) d2 p∧fp=j++p
 | [],d2,o,fp=>by
  simp only [List.nil_append,OwnC,List.length_nil,Nat.add_zero]
  grind
 | d::d1,d2,o,fp=>by
  simp only [List.cons_append,OwnC,List.length_cons]
  constructor
  ·rintro ⟨u,j,p,C,h1,h2,rfl⟩
   obtain⟨q,v,h3,F,rfl⟩:=OwnC.of_append.1 h2
   exact⟨j++q,v,⟨u,j,q,C,h1,h3,rfl⟩,by rw [show o+(d1.length+1)=o+1+d1.length from by omega]; exact F,by simp⟩
  ·rintro ⟨j,p,⟨u,q,v,C,h1,h2,rfl⟩,F,rfl⟩
   exact⟨u,q,v++p,C,h1,OwnC.of_append.2 ⟨v,p,h2,by rw [show o+1+d1.length=o+(d1.length+1) from by omega]; exact F,rfl⟩,by simp⟩
theorem OwnR.of_chunks {V w} {cs} {sz}:∀ {n} {o} {ds} {fp},ds.length=n*sz→OwnC V w cs o ds fp→OwnR V w cs sz o (BD sz n ds) fp
 |0,o,ds,fp,hl,h=>by
  grind [BD,OwnR,OwnC]
 |n+1,o,ds,fp,hl,h=>by
  rw [Nat.add_mul] at hl
  rw [← List.take_append_drop sz ds] at h
  obtain⟨q,p,h1,h2,rfl⟩:=OwnC.of_append.1 h
  have j:(ds.take sz).length =sz:=by rw [List.length_take]; omega
  simp only [BD,OwnR]
  exact⟨q,p,j,h1,OwnR.of_chunks (by rw [List.length_drop]; omega) (by rw [j] at h2; exact h2),rfl⟩
theorem dR {w0} {γ} {a} {u} (ha:VSim w0 γ a u) (h:a.one=true):u.oneCell'=true:=by
 cases a with
 |mpc q rows=>cases h
 |mpr b=>simp only [VSim] at ha; rw [ha.2]; rfl
 |any=>cases h
 |agg=>cases h
 |tup=>cases h
 |int k n=>simp only [VSim] at ha; rw [ha.1]; rfl
 |bool b=>simp only [VSim] at ha; rw [ha]; rfl
 |str s=>simp only [VSim] at ha; rw [ha.1]; rfl
 |ro rows=>simp only [VSim,Rep] at ha; obtain⟨_,_,rfl,-⟩:=ha; rfl
 |own t=>simp only [VSim] at ha; obtain⟨⟨-,_,_,_,j⟩,v⟩:=ha; rw [v,j]; rfl
 |box b off=>simp only [VSim] at ha; rw [ha.2]; rfl
 |bsl b n sz=>simp only [VSim] at ha; rw [ha.2.2]; rfl
 |rop ds off=>simp only [VSim] at ha; obtain⟨_,_,_,rfl,-⟩:=ha; rfl
 |elt t sz i off=>simp only [VSim] at ha; obtain⟨-,_,_,_,_,-,rfl⟩:=ha; rfl
 |par t sz i n=>simp only [VSim] at ha; obtain⟨-,_,_,_,-,rfl⟩:=ha; rfl
 |sub t g p=>simp only [VSim] at ha; obtain⟨-,⟨_,_,_,j⟩,v⟩:=ha; rw [v,j]; rfl
 |els t g p sz i off=>simp only [VSim] at ha; obtain⟨-,_,_,_,_,-,rfl⟩:=ha; rfl
 |fn f caps=>simp only [VSim] at ha; obtain⟨_,C,-⟩:=ha; rcases C with ⟨-,rfl⟩|⟨_,_,-,rfl⟩ <;> rfl
 |nilp=>simp only [VSim] at ha; rw [ha]; rfl
 |nils=>simp only [VSim] at ha; rw [ha]; rfl
theorem Tc {w0} {γ}:∀ {as} {us},AH w0 γ as us→as.all AV.one=true→∀u ∈ us,u.oneCell'=true
 | [],us,h,_=>by grind [AH]
 |a::as,us,h,ha=>by
  simp only [AH] at h
  obtain⟨u,j,rfl,h1,h2⟩:=h
  simp only [List.all_cons,Bool.and_eq_true] at ha
  intro x hx
  rcases List.mem_cons.1 hx with rfl|hx
  ·exact dR h1 ha.1
  ·exact Tc h2 ha.2 x hx
theorem AJ {α:Type} (j:Nat) (x:α) (l:List (Nat × α)) (i:Nat):look ((j,x)::l) i=if i=j then some x else look l i:=rfl
theorem St.T_killT (σ:St) (t x:Nat):(σ.killT t).T x=if x=t then none else σ.T x:=by
 unfold St.T St.killT
 simp only [AJ]
 split <;> rfl
theorem St.T_setT (σ:St) (t:Nat) (tk:Tok) (x:Nat):(σ.setT t tk).T x=if x=t then some tk else σ.T x:=by
 unfold St.T St.setT
 simp only [AJ]
 split <;> rfl
theorem St.B_setB (σ:St) (t:Nat) (vs:List AV) (x:Nat):(σ.setB t vs).B x=if x=t then some vs else σ.B x:=by
 unfold St.B St.setB
 simp only [AJ]
 split <;> rfl
structure StLe (σ σ':St):Prop where
 s:σ'.s=σ.s
 b:∀x,(look σ.b x).isSome =true→(look σ'.b x).isSome =true
 B:∀x vs,σ'.B x=some vs→σ.B x=some vs
 t:∀x,(look σ.t x).isSome =true→(look σ'.t x).isSome =true
 T:∀x tk,σ'.T x=some tk→σ.T x=some tk
theorem StLe.refl (σ:St):StLe σ σ:=⟨rfl,fun _ h=>h,fun _ _ h=>h,fun _ h=>h,fun _ _ h=>h⟩
theorem StLe.trans {a b c} (h:StLe a b) (k:StLe b c):StLe a c:=⟨k.s.trans h.s,fun x hx=>k.b x (h.b x hx),fun x vs hx=>h.B x vs (k.B x vs hx),fun x hx=>k.t x (h.t x hx),fun x tk hx=>h.T x tk (k.T x tk hx)⟩
theorem StLe.killT (σ:St) (t:Nat):StLe σ (σ.killT t):=by
 refine⟨rfl,fun _ h=>h,fun _ _ h=>h,fun x h=>?_,fun x tk h=>?_⟩
 ·show (look ((t,none)::σ.t) x).isSome =true
  rw [AJ]; grind
 grind [St.T_killT]
theorem St.B_killB (σ:St) (b x:Nat):(σ.killB b).B x=if x=b then none else σ.B x:=by
 unfold St.B St.killB
 simp only [AJ]
 split <;> rfl
theorem StLe.killB (σ:St) (b:Nat):StLe σ (σ.killB b):=by
 refine⟨rfl,fun x h=>?_,fun x vs h=>?_,fun _ h=>h,fun _ _ h=>h⟩
 ·show (look ((b,none)::σ.b) x).isSome =true
  rw [AJ]; grind
 grind [St.B_killB]
theorem StLe.osim {cx} {γ} {σ σ'} {w} (h:StLe σ σ') (hs:OSim cx γ σ.T σ.B w):OSim cx γ σ'.T σ'.B w:=by
 exact hs.tables (fun t tk _ h1=>h.T t tk h1) (fun b vs _ h1=>h.B b vs h1)
theorem Free.of_le {cx} {γ} {σ σ'} {g} (h:StLe σ σ') (hf:Free cx γ σ.T σ.B g):Free cx γ σ'.T σ'.B g:=
 ⟨fun t tk h1 h2=>hf.t t tk h1 (h.T t tk h2),fun b vs h1 h2=>hf.b b vs h1 (h.B b vs h2),hf.fr,hf.vw⟩
section
variable {cx:Cx} {γ:Gh} {w:World}
theorem Gr {σ:St} (hs:OSim cx γ σ.T σ.B w) {t:Nat} {tk:Tok} (htl:γ.tl t) (hT:σ.T t=some tk):∀g ∈ γ.tf t,Free cx γ (σ.killT t).T (σ.killT t).B g:=by
 intro g hg
 refine⟨fun x j h1 h2=>?_,fun b vs h1 h2=>?_,hs.tfr t tk htl hT g hg,hs.vw.t t tk htl hT g hg⟩
 ·rw [St.T_killT] at h2
  split at h2
  ·cases h2
  ·rename_i hx
   exact hs.tds t x tk j (fun e=>hx e.symm) htl h1 hT h2 g hg
 ·intro e
  have p:σ.B b=some vs:=h2
  exact hs.btd b t vs tk h1 htl p hT (e ▸ hg)
def Td (γ:Gh) (σ:St) (g:Nat):Prop:=(∃t tk,γ.tl t∧σ.T t=some tk∧g ∈ γ.tf t)∨∃b vs,γ.bl b∧σ.B b=some vs∧γ.bb b=g
theorem Td.of_le {γ} {σ σ'} {g} (h:StLe σ σ') (hn:Td γ σ' g):Td γ σ g:=by
 rcases hn with ⟨t,tk,h1,h2,h3⟩|⟨b,vs,h1,h2,h3⟩
 ·exact .inl ⟨t,tk,h1,h.T t tk h2,h3⟩
 ·exact .inr ⟨b,vs,h1,h.B b vs h2,h3⟩
theorem Free.not_named {σ} {g} (hf:Free cx γ σ.T σ.B g):¬Td γ σ g:=by
 rintro (⟨t,tk,h1,h2,h3⟩|⟨b,vs,h1,h2,h3⟩)
 ·grind [t]
 grind [b]
theorem bh {V w} {vs} {off} {d} {u} (h:unD (.rop vs off)=some d) (hr:Rep V d u):Own V w d u [] :=by
 cases off with
 | zero=>
  simp only [unD] at h
  cases hu:unDs vs with
  |none=>rw [hu] at h; cases h
  |some ds=>
   rw [hu] at h
   grind [Own]
 |succ n=>simp [unD] at h
theorem f8 {z} {w w0} {γ} {v} {d} {u} (hd:litD z v=some d) (h1:VSim w0 γ v u):Own (zvw z w0) w d u [] :=by
 cases v <;> simp only [litD] at hd <;> try (cases hd; done)
 case int k n=>grind [VSim,Own]
 case bool b=>grind [VSim,Own]
 case str b=>grind [VSim,Own]
 case nilp=>grind [VSim,Own]
 case ro rows=>
  split at hd
  ·rename_i hz
   cases hd
   subst hz
   simp only [VSim] at h1
   simp only [Own]
   exact⟨h1,trivial⟩
  grind
 case rop vs off=>
  split at hd
  ·rename_i hz
   subst hz
   exact bh hd (NQ h1 hd)
  grind
theorem Vk {z} {w w0} {γ}:∀ {vs} {p} {us},KU z vs=some p→AH w0 γ vs us→DR (zvw z w0) w p us [] :=by
 intro vs
 induction vs with
 |nil=>
  grind [KU,AH,DR]
 | cons v vs ih=>
  intro p us hd hv
  simp only [AH] at hv
  obtain⟨u,j,rfl,h1,h2⟩:=hv
  simp only [KU] at hd
  cases hv1:litD z v with
  |none=>rw [hv1] at hd; cases hd
  | some d=>
   cases hf:KU z vs with
   |none=>rw [hv1,hf] at hd; cases hd
   |some es=>
    rw [hv1,hf] at hd
    simp only [Option.some.injEq] at hd
    subst hd
    simp only [DR]
    exact⟨u,j,[],[],rfl,f8 hv1 h1,ih hf h2,rfl⟩
theorem YD {z} {vs} {ds} (h:KU z vs=some ds):isMp vs=false:=by
 cases vs with
 |nil=>rfl
 |cons a l=>cases l with
  |nil=>cases a <;> simp [KU,litD,isMp,AV.mp?] at h ⊢
  |cons b l=>rfl
theorem Vl {z} {σ} {b n sz} {K} (hs:OSim cx γ σ.T σ.B w) (hbl:γ.bl b) (hnm:n≤maxLen) (h:dB z b n sz σ K):
  ∃rows fp,K rows (σ.killB b)∧Ae γ.vw w ⟨rows,some sz,0,z⟩ (.slice (some ⟨γ.bb b,γ.bo b,none⟩) n n) fp∧fp.Nodup∧(∀g ∈ fp,Free cx γ (σ.killB b).T (σ.killB b).B g)∧∀g ∈ fp,Td γ σ g:=by
 obtain⟨hp,hz,vs,v,J,hd,hl,W⟩:=h
 refine⟨BD sz n J,?_⟩
 obtain⟨us,h1,F⟩:=hs.box b vs hbl v
 obtain⟨cs,e,h2,h3⟩:=F.cells (YD hd)
 have hul:=h1.length
 have C:=Vk (w:=w) hd h1
 have hvl:=C.length
 have hR:OwnR (zvw z γ.vw) w cs.toList sz (γ.bo b) (BD sz n J) [] :=OwnR.of_chunks hl (DR.cells C fun j hj=>by rw [Array.getElem?_toList]; grind)
 have p:γ.bo b+n*sz≤cs.toList.length∨n*sz=0:=by
  by_cases h0:n*sz=0
  ·omega
  ·have Y:=h3 (us.length - 1) (by omega)
   rw [List.getElem?_eq_getElem (show us.length - 1<us.length by omega)] at Y
   grind
 have hlt:=lt_of_block h2
 have q:cx.we.heap.size≤γ.bb b:=by
  rcases hs.bfr b vs hbl v with h|⟨h,-⟩
  ·exact h
  ·omega
 have hle:=StLe.killB σ b
 by_cases h0:n*sz=0
 ·have G:n=0:=by
   grind [Nat.mul_eq_zero]
  subst G
  have U:J=[] :=List.eq_nil_of_length_eq_zero (by omega)
  subst U
  exact⟨[],W,Ae.nil ⟨_,rfl⟩,List.nodup_nil,by simp,by simp⟩
 ·have p:=p.resolve_right h0
  refine⟨[γ.bb b],W,.inr ⟨γ.bb b,γ.bo b,n,e,cs.toList,[],by rw [Bx],by rw [Bx]; omega,hnm,by simp_all [Blk],p,hR,rfl⟩,List.nodup_cons.2 ⟨by simp,List.nodup_nil⟩,fun g hg=>?_,fun g hg=>?_⟩
  ·rw [List.mem_singleton] at hg
   subst hg
   refine⟨fun x tk I u=>hs.btd b x vs tk hbl I v u,fun x ws I u=>?_,.inl q,hs.vw.b b vs hbl v⟩
   rw [St.B_killB] at u
   split at u
   ·cases u
   ·rename_i O
    exact hs.bds x b ws vs O I hbl u v
  ·rw [List.mem_singleton] at hg
   subst hg
   exact .inr ⟨b,vs,hbl,v,rfl⟩
theorem JC {z:ZK}:∀ {vs:List AV} {σ:St} {K:List D→St→Prop},BR z vs σ K→∃j σ',K j σ'∧StLe σ σ'
 | [],σ,K,h=>⟨[],σ,h,StLe.refl σ⟩
 | v::vs,σ,K,h=>by
  cases v with
  |int k n=>obtain⟨j,σ',h1,h2⟩:=JC (vs:=vs) (σ:=σ) h; exact⟨_,σ',h1,h2⟩
  |bool b=>obtain⟨j,σ',h1,h2⟩:=JC (vs:=vs) (σ:=σ) h; exact⟨_,σ',h1,h2⟩
  |str s=>obtain⟨j,σ',h1,h2⟩:=JC (vs:=vs) (σ:=σ) h; exact⟨_,σ',h1,h2⟩
  |nils=>obtain⟨j,σ',h1,h2⟩:=JC (vs:=vs) (σ:=σ) h; exact⟨_,σ',h1,h2⟩
  |nilp=>obtain⟨j,σ',h1,h2⟩:=JC (vs:=vs) (σ:=σ) h; exact⟨_,σ',h1,h2⟩
  |ro rows=>obtain⟨j,σ',h1,h2⟩:=JC (vs:=vs) (σ:=σ) h.2; exact⟨_,σ',h1,h2⟩
  |rop ws off=>
   simp only [BR] at h
   obtain⟨-,d,-,h⟩:=h
   obtain⟨j,σ',h1,h2⟩:=JC h
   exact⟨_,σ',h1,h2⟩
  | bsl b n sz=>
   simp only [BR] at h
   split at h
   ·obtain⟨j,σ',h1,h2⟩:=JC h; exact⟨_,σ',h1,h2⟩
   ·obtain⟨-,-,p,-,q,-,-,h⟩:=h
    obtain⟨j,σ',h1,h2⟩:=JC h
    exact⟨_,σ',h1,(StLe.killB σ b).trans h2⟩
  |own t=>
   simp only [BR] at h
   obtain⟨tk,-,-,h⟩:=h
   obtain⟨j,σ',h1,h2⟩:=JC h
   exact⟨_,σ',h1,(StLe.killT σ t).trans h2⟩
  |_=>simp [BR] at h
theorem Te {z} {tk} {V} (h:okZ z tk=true):Keeps (tk.vw V) (zvw z V):=by
 grind [okZ,pX]
theorem YE {z} {V w} {a} {v} (h:v= .slice a 0 0):Own V w (Ft z) v [] :=by
 cases z with
 |no=>grind [Ft,Own]
 |yes=>grind [Ft,Own,Rep]
 |nl=>exact⟨⟨a,h⟩,rfl⟩
theorem DK {z:ZK}:∀ {vs:List AV} {us:List Value} {σ:St} {K:List D→St→Prop},OSim cx γ σ.T σ.B w→AH γ.vw γ vs us→BR z vs σ K→
  ∃q σ' fp,K q σ'∧StLe σ σ'∧DR (zvw z γ.vw) w q us fp∧fp.Nodup∧(∀g ∈ fp,Free cx γ σ'.T σ'.B g)∧q.length=vs.length∧∀g ∈ fp,Td γ σ g
 | [],us,σ,K,hs,hv,h=>by
  simp only [AH] at hv
  simp only [BR] at h
  exact⟨[],σ,[],h,StLe.refl σ,by simp [DR,hv],List.nodup_nil,by simp,rfl,by simp⟩
 | v ::vs,us,σ,K,hs,hv,h=>by
  simp only [AH] at hv
  obtain⟨u,j,rfl,h1,h2⟩:=hv
  cases v with
  |int k n=>
   simp only [BR] at h
   obtain⟨q,σ',fp,k1,k2,k3,k4,k5,k6,k7⟩:=DK hs h2 h
   simp only [VSim] at h1
   exact⟨_,σ',fp,k1,k2,by simp only [DR]; exact⟨u,j,[],fp,rfl,by simp only [Own]; exact⟨h1.1,h1.2,trivial⟩,k3,rfl⟩,k4,k5,by simp [k6],by simpa using k7⟩
  |bool b=>
   simp only [BR] at h
   obtain⟨q,σ',fp,k1,k2,k3,k4,k5,k6,k7⟩:=DK hs h2 h
   simp only [VSim] at h1
   exact⟨_,σ',fp,k1,k2,by simp only [DR]; exact⟨u,j,[],fp,rfl,by simp only [Own]; exact⟨h1,trivial⟩,k3,rfl⟩,k4,k5,by simp [k6],by simpa using k7⟩
  |str s=>
   simp only [BR] at h
   obtain⟨q,σ',fp,k1,k2,k3,k4,k5,k6,k7⟩:=DK hs h2 h
   simp only [VSim] at h1
   exact⟨_,σ',fp,k1,k2,by simp only [DR]; exact⟨u,j,[],fp,rfl,by simp only [Own]; exact⟨h1.1,h1.2,trivial⟩,k3,rfl⟩,k4,k5,by simp [k6],by simpa using k7⟩
  |nils=>
   simp only [BR] at h
   obtain⟨q,σ',fp,k1,k2,k3,k4,k5,k6,k7⟩:=DK hs h2 h
   simp only [VSim] at h1
   exact⟨_,σ',fp,k1,k2,by simp only [DR]; exact⟨u,j,[],fp,rfl,YE h1,k3,rfl⟩,k4,k5,by simp [k6],by simpa using k7⟩
  |nilp=>
   simp only [BR] at h
   obtain⟨q,σ',fp,k1,k2,k3,k4,k5,k6,k7⟩:=DK hs h2 h
   simp only [VSim] at h1
   exact⟨_,σ',fp,k1,k2,by simp only [DR]; exact⟨u,j,[],fp,rfl,by simp only [Own]; exact⟨h1,trivial⟩,k3,rfl⟩,k4,k5,by simp [k6],by simpa using k7⟩
  |ro I=>
   simp only [BR] at h
   obtain⟨hz,h⟩:=h
   subst hz
   obtain⟨q,σ',fp,k1,k2,k3,k4,k5,k6,k7⟩:=DK hs h2 h
   simp only [VSim] at h1
   exact⟨_,σ',fp,k1,k2,by simp only [DR]; exact⟨u,j,[],fp,rfl,by simp only [Own]; exact⟨h1,trivial⟩,k3,rfl⟩,k4,k5,by simp [k6],by simpa using k7⟩
  |rop ws off=>
   simp only [BR] at h
   obtain⟨hz,d,hd,h⟩:=h
   subst hz
   obtain⟨q,σ',fp,k1,k2,k3,k4,k5,k6,k7⟩:=DK hs h2 h
   exact⟨_,σ',fp,k1,k2,by simp only [DR]; exact⟨u,j,[],fp,rfl,bh hd (NQ h1 hd),k3,rfl⟩,k4,k5,by simp [k6],by simpa using k7⟩
  | bsl b n sz=>
   simp only [BR] at h
   simp only [VSim] at h1
   split at h
   ·rename_i hn0
    subst hn0
    obtain⟨q,σ',fp,k1,k2,k3,k4,k5,k6,k7⟩:=DK hs h2 h
    exact⟨_,σ',fp,k1,k2,by simp only [DR]; exact⟨u,j,[],fp,rfl,YE h1.2.2,k3,rfl⟩,k4,k5,by simp [k6],by simpa using k7⟩
   ·obtain⟨I,f0,h,Y,U,C,O⟩:=Vl hs h1.1 h1.2.1 h
    have p:=StLe.killB σ b
    obtain⟨q,σ',fp,k1,k2,k3,k4,k5,k6,k7⟩:=DK (p.osim hs) h2 h
    refine⟨_,σ',f0++fp,k1,p.trans k2,by simp only [DR]; exact⟨u,j,f0,fp,rfl,by rw [h1.2.2]; exact Y.own,k3,rfl⟩,?_,?_,by simp [k6],?_⟩
    ·refine List.nodup_append.2 ⟨U,k4,fun g hg g' G e=>?_⟩
     subst e
     exact(C g hg).not_named (k7 g G)
    ·intro g hg
     rcases List.mem_append.1 hg with hg|hg
     ·exact Free.of_le k2 (C g hg)
     ·exact k5 g hg
    ·intro g hg
     rcases List.mem_append.1 hg with hg|hg
     ·exact O g hg
     ·exact(k7 g hg).of_le p
  | own t=>
   simp only [BR] at h
   obtain⟨tk,J,W,h⟩:=h
   simp only [VSim] at h1
   obtain⟨⟨F,-⟩,hu⟩:=h1
   have p:=StLe.killT σ t
   have C:=Gr hs F J
   obtain⟨q,σ',fp,k1,k2,k3,k4,k5,k6,k7⟩:=DK (p.osim hs) h2 h
   refine⟨_,σ',γ.tf t++fp,k1,p.trans k2,by simp only [DR]; exact⟨u,j,γ.tf t,fp,rfl,by rw [hu]; exact Own.mono (Te W) (hs.tok t tk F J).own,k3,rfl⟩,?_,?_,by simp [k6],?_⟩
   ·refine List.nodup_append.2 ⟨hs.tnd t tk F J,k4,fun g hg g' G e=>?_⟩
    subst e
    exact(C g hg).not_named (k7 g G)
   ·intro g hg
    rcases List.mem_append.1 hg with hg|hg
    ·exact Free.of_le k2 (C g hg)
    ·exact k5 g hg
   ·intro g hg
    rcases List.mem_append.1 hg with hg|hg
    ·exact .inl ⟨t,tk,F,J,hg⟩
    ·exact(k7 g hg).of_le p
  |_=>simp [BR] at h
end
end Go.Proofs.YthenkmapmnkelaaGreatDoor.Ab
