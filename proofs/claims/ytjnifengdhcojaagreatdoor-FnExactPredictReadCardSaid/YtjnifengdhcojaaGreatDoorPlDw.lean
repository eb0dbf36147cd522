/- Core terms with their variables replaced. -/
import Derived.Test.YtjnifengdhcojaaGreatDoorPlNet
import Derived.Test.YtjnifengdhcojaaGreatDoorModE
import Derived.Test.YtjnifengdhcojaaGreatDoorModD
namespace Go.Proofs.YtjnifengdhcojaaGreatDoor.Ab
set_option linter.unusedVariables false
set_option maxHeartbeats 1000000
set_option linter.unusedSimpArgs false
open Go.RowKit
mutual
def Core.mv (F:Core→Nat→Core):Core→Nat→Core
 |⟨k,v,d,ks⟩,n=>if k=1 then F ⟨k,v,d,ks⟩ n else ⟨k,v,d,Core.mvs F k ks 0 n⟩
def Core.mvs (F:Core→Nat→Core) (k:Int):List Core→Nat→Nat→List Core
 | [],_,_=>[]
 |c::cs,i,n=>Core.mv F c (n+bnd k i)::Core.mvs F k cs (i+1) n
end
theorem Core.mv_eq (F:Core→Nat→Core) (c:Core) (n:Nat):c.mv F n=if c.kind=1 then F c n else ⟨c.kind,c.value,c.data,Core.mvs F c.kind c.kids 0 n⟩:=by cases c; rw [Core.mv]
def Lz (v:Int):Core:=⟨1,v,[],[]⟩
def shF (b:Nat) (x:Core) (n:Nat):Core:=Lz (if (n:Int)≤x.value then x.value+b else x.value)
def putF (a:Core) (x:Core) (n:Nat):Core:=if x.value=(n:Int) then a.mv (shF n) 0 else Lz (if (n:Int)<x.value then x.value - 1 else x.value)
mutual
def Core.occ:Core→Nat→Nat
 |⟨k,v,_,ks⟩,n=>if k=1 then (if v=(n:Int) then 1 else 0) else Core.occs k ks 0 n
def Core.occs (k:Int):List Core→Nat→Nat→Nat
 | [],_,_=>0
 |c::cs,i,n=>Core.occ c (n+bnd k i)+Core.occs k cs (i+1) n
end
theorem Core.occ_eq (c:Core) (n:Nat):c.occ n=if c.kind=1 then (if c.value=(n:Int) then 1 else 0) else Core.occs c.kind c.kids 0 n:=by cases c; rw [Core.occ]
theorem Px {c:Core} (h:A1 c=true) (h1:c.kind=1):c.data=[] :=by
 simp_all [A1,shape]
theorem La {c:Core} (h:A1 c=true) (h1:c.kind=1):0≤c.value∧c.value≤255:=by
 grind [A1,K4]
theorem AX {c:Core} (h:c.wf=true):A1 c=true∧Core.wfs c.kids=true:=by
 rw [Core.wf_eq,Bool.and_eq_true] at h; exact h
theorem jd (l:List Int) (h:l.length≤Big):FG l=some l:=by
 grind [FG,A0]
theorem Z1 (l:List Int) (h:l.length≤Big):An l=some l:=by
 grind [An,A0]
theorem SU (b:Nat) (hb:b≤Big):∀ (c:Core),c.Small→c.wf=true→∀ (f n:Nat),f+c.depth≤Big→16*c.nodes≤n→EG n c b f=some (c.mv (shF b) f):=by
 refine Core.ind fun c F hs W f n U j=>?_
 obtain⟨_,p,hk,G⟩:=hs
 obtain⟨q,u⟩:=AX W
 rw [Core.nodes_eq] at j
 rw [Core.depth_eq] at U
 obtain⟨n,rfl⟩:∃m,n=m+3:=⟨n - 3,by omega⟩
 have loop:∀ (v:Int) (post pre acc:List Core) (n:Nat),c.kids=pre++post→acc.length=pre.length→16*Core.nodess post+1≤n→Core.depths post+f+1≤Big→
   DH n c b f v c.data acc (pre.length:Int)=some ⟨c.kind,v,c.data,acc++Core.mvs (shF b) c.kind post pre.length f⟩:=by
  intro v post
  induction post with
  |nil=>
   intro pre acc n h _ j _
   obtain⟨n,rfl⟩:∃m,n=m+1:=⟨n - 1,by omega⟩
   rw [DH,Al h,if_neg (by simp),Core.mvs,List.append_nil]
  | cons x post ihp=>
   intro pre acc n h J j Y
   rw [Core.nodess] at j
   rw [Core.depths] at Y
   have:=x.nodes_pos
   have I:=Jk c.kind pre.length
   obtain⟨n,rfl⟩:∃m,n=m+1:=⟨n - 1,by omega⟩
   have hx:x ∈ c.kids:=by rw [h]; simp
   have O:pre.length+1≤c.kids.length:=by rw [h]; simp
   rw [DH,if_pos (Ah h),AU h,AA,J5,AA,Mp (by omega),F x hx (G x hx) (Bg hx u) _ n (by omega) (by omega),AA,
    A0 (by grind),AA,AN h hk,ihp (pre++[x]) (acc++[x.mv (shF b) (f+bnd c.kind pre.length)]) n (AM h) (by grind) (by omega) (by omega),Core.mvs]
   simp
 have C:∀v:Int,EI (n+1) c b f c.data v=some ⟨c.kind,v,c.data,Core.mvs (shF b) c.kind c.kids 0 f⟩:=by
  intro v
  rw [EI]
  have:=loop v c.kids [] [] n (by simp) rfl (by omega) (by omega)
  grind
 rw [EG,jd _ p,AA,Core.mv_eq]
 by_cases h1:c.kind=1
 ·obtain⟨v1,v2⟩:=La q h1
  grind [GU,Px,EH,shF,Lz,w64,Core.mvs]
 grind [EH]
theorem SV (F:Core→Nat→Core) (f:Core→Int→Option Core) (f0 D:Nat) (hD:D≤Big) (hF:∀ (x:Core) (d:Nat),A1 x=true→x.kind=1→d≤D→f x (d:Int)=some (F x (f0+d))):
  ∀ (c:Core),c.Small→c.wf=true→∀ (d n:Nat),d+c.depth≤D→16*c.nodes≤n→GC n c d f=some (c.mv F (f0+d)):=by
 refine Core.ind fun c v Y U d n O j=>?_
 obtain⟨_,p,hk,C⟩:=Y
 obtain⟨q,u⟩:=AX U
 rw [Core.nodes_eq] at j
 rw [Core.depth_eq] at O
 obtain⟨n,rfl⟩:∃m,n=m+1:=⟨n - 1,by omega⟩
 rw [GC,Core.mv_eq]
 by_cases h1:c.kind=1
 ·rw [if_pos (by grind),hF c d q h1 (by omega),AA,if_pos h1]
 rw [if_neg (by grind),Z1 _ p,AA,if_neg h1]
 have loop:∀ (post pre acc:List Core) (n:Nat),c.kids=pre++post→acc.length=pre.length→16*Core.nodess post+1≤n→d+Core.depths post+1≤D→
   D4 n c d c.data acc (pre.length:Int) f=some ⟨c.kind,c.value,c.data,acc++Core.mvs F c.kind post pre.length (f0+d)⟩:=by
  intro post
  induction post with
  |nil=>
   intro pre acc n h _ j _
   obtain⟨n,rfl⟩:∃m,n=m+1:=⟨n - 1,by omega⟩
   rw [D4,Al h,if_neg (by simp),Core.mvs,List.append_nil]
  | cons x post ihp=>
   intro pre acc n h I j W
   rw [Core.nodess] at j
   rw [Core.depths] at W
   have:=x.nodes_pos
   have G:=Jk c.kind pre.length
   obtain⟨n,rfl⟩:∃m,n=m+1:=⟨n - 1,by omega⟩
   have hx:x ∈ c.kids:=by rw [h]; simp
   have J:pre.length+1≤c.kids.length:=by rw [h]; simp
   rw [D4,if_pos (Ah h),AU h,AA,Z2,AA,Mp (by omega),v x hx (C x hx) (Bg hx u) _ n (by omega) (by omega),AA,
    A0 (by grind),AA,AN h hk,ihp (pre++[x]) (acc++[x.mv F (f0+(d+bnd c.kind pre.length))]) n (AM h) (by grind) (by omega) (by omega),Core.mvs,← Nat.add_assoc]
   simp
 have:=loop c.kids [] [] n (by simp) rfl (by omega) (by omega)
 grind
theorem gH (b f d:Nat) (hb:b≤Big) (hd:d+f≤Big) (c:Core) (hno:A1 c=true) (h1:c.kind=1):I2 c d f b=some (shF b c (f+d)):=by
 have hk:=GU hno h1
 have j:=Px hno h1
 obtain⟨v1,p⟩:=La hno h1
 unfold I2 shF Lz
 rw [Mp hd,hk,j]
 by_cases h2:((d+f:Nat):Int)≤c.value
 ·grind [w64,Q9]
 ·rw [if_neg (by grind),if_neg (by omega)]
  cases c
  grind [Q9]
theorem cN (b f:Nat) (hb:b≤Big) (c:Core) (hs:c.Small) (hw:c.wf=true) (hN:c.nodes≤Big) (hf:f+c.depth≤Big):Po c b f=some (c.mv (shF b) f):=by
 unfold Po
 have:=SV (shF b) (fun q p=>I2 q p (f:Int) (b:Int)) f c.depth (by omega) (fun x d j h1 hd=>gH b f d hb (by omega) x j h1) c hs hw 0 fuel (by omega) (Ag hN)
 rw [show ((0:Nat):Int)=0 from rfl] at this
 rw [this,AA,Nat.add_zero]
theorem je (a:Core) (has:a.Small) (haw:a.wf=true) (haN:a.nodes≤Big) (d:Nat) (hd:d≤Big) (had:a.depth≤Big) (c:Core) (hno:A1 c=true) (h1:c.kind=1):Dn c d a=some (putF a c d):=by
 have hk:=GU hno h1
 have p:=Px hno h1
 obtain⟨v1,q⟩:=La hno h1
 unfold Dn putF
 have j:=cN d 0 hd a has haw haN (by omega)
 rw [show ((0:Nat):Int)=0 from rfl] at j
 by_cases h2:c.value=(d:Int)
 ·rw [if_pos (by grind),if_pos h2,j,AA]
 rw [if_neg (by grind),if_neg h2,hk,p]
 unfold Lz
 by_cases h3:(d:Int)<c.value
 ·rw [if_pos (by grind),if_pos h3,w64 (by omega) (by omega)]
  simp [Q9,h1]
 ·rw [if_neg (by grind),if_neg h3]
  cases c
  grind [Q9]
theorem RH (c a:Core) (hs:c.Small) (hw:c.wf=true) (hN:c.nodes≤Big) (has:a.Small) (haw:a.wf=true) (haN:a.nodes≤Big):GO c a=some (c.mv (putF a) 0):=by
 unfold GO
 have hd:=Core.depth_le c
 have:=SV (putF a) (fun q p=>Dn q p a) 0 c.depth (by omega) (fun x d j h1 u=>by
  rw [Nat.zero_add]; grind [je,Core.depth_le]) c hs hw 0 fuel (by omega) (Ag hN)
 rw [show ((0:Nat):Int)=0 from rfl] at this
 rw [this,AA,Nat.add_zero]
theorem gI (a:Core) (has:a.Small) (haw:a.wf=true) (haN:a.nodes≤Big):∀ (c:Core),c.Small→c.wf=true→∀ (d n:Nat),d+c.depth≤Big→16*c.nodes≤n→IM n c a d=some (c.mv (putF a) d):=by
 refine Core.ind fun c v Y U d n O j=>?_
 obtain⟨_,u,hk,C⟩:=Y
 obtain⟨p,q⟩:=AX U
 rw [Core.nodes_eq] at j
 rw [Core.depth_eq] at O
 obtain⟨n,rfl⟩:∃m,n=m+1:=⟨n - 1,by omega⟩
 rw [IM,Core.mv_eq]
 by_cases h1:c.kind=1
 ·have G:=Core.depth_le a
  rw [if_pos (by grind),if_pos h1]
  obtain⟨v1,v2⟩:=La p h1
  grind [putF,Lz,SU,Ag,w64]
 rw [if_neg (by grind),jd _ u,AA,if_neg h1]
 have loop:∀ (post pre acc:List Core) (n:Nat),c.kids=pre++post→acc.length=pre.length→16*Core.nodess post+1≤n→Core.depths post+d+1≤Big→
   Ep n c a d c.data acc (pre.length:Int)=some ⟨c.kind,c.value,c.data,acc++Core.mvs (putF a) c.kind post pre.length d⟩:=by
  intro post
  induction post with
  |nil=>
   intro pre acc n h _ j _
   obtain⟨n,rfl⟩:∃m,n=m+1:=⟨n - 1,by omega⟩
   rw [Ep,Al h,if_neg (by simp),Core.mvs,List.append_nil]
  | cons x post ihp=>
   intro pre acc n h I j W
   rw [Core.nodess] at j
   rw [Core.depths] at W
   have:=x.nodes_pos
   have F:=Jk c.kind pre.length
   obtain⟨n,rfl⟩:∃m,n=m+1:=⟨n - 1,by omega⟩
   have hx:x ∈ c.kids:=by rw [h]; simp
   have J:pre.length+1≤c.kids.length:=by rw [h]; simp
   rw [Ep,if_pos (Ah h),AU h,AA,J5,AA,Mp (by omega),v x hx (C x hx) (Bg hx q) _ n (by omega) (by omega),AA,
    A0 (by grind),AA,AN h hk,ihp (pre++[x]) (acc++[x.mv (putF a) (d+bnd c.kind pre.length)]) n (AM h) (by grind) (by omega) (by omega),Core.mvs]
   simp
 have:=loop c.kids [] [] n (by simp) rfl (by omega) (by omega)
 grind
mutual
theorem Core.occ_le:∀ (c:Core) (n:Nat),c.occ n≤c.nodes
 |⟨k,v,d,ks⟩,n=>by
  rw [Core.occ,Core.nodes]
  have:=Core.occs_le k ks 0 n
  split
  ·split <;> omega
  ·omega
theorem Core.occs_le (k:Int):∀ (l:List Core) (i n:Nat),Core.occs k l i n≤Core.nodess l
 | [],_,_=>by rw [Core.occs]; omega
 |c::cs,i,n=>by
  rw [Core.occs,Core.nodess]
  have:=Core.occ_le c (n+bnd k i)
  have:=Core.occs_le k cs (i+1) n
  omega
end
theorem Z3:∀ (c:Core),c.Small→c.nodes≤Big→∀ (d n:Nat),d+c.depth≤Big→16*c.nodes≤n→Fs n c d=some ((c.occ d:Nat):Int):=by
 refine Core.ind fun c I v q d n C j=>?_
 obtain⟨_,F,hk,p⟩:=v
 rw [Core.nodes_eq] at j q
 rw [Core.depth_eq] at C
 obtain⟨n,rfl⟩:∃m,n=m+1:=⟨n - 1,by omega⟩
 rw [Fs,Core.occ_eq]
 by_cases h1:c.kind=1
 ·rw [if_pos (by grind),if_pos h1]
  grind
 rw [if_neg (by grind),if_neg h1]
 have loop:∀ (post pre:List Core) (m n:Nat),c.kids=pre++post→16*Core.nodess post+1≤n→Core.depths post+d+1≤Big→m+Core.nodess post≤Big→
   DG n c d (m:Int) (pre.length:Int)=some ((m+Core.occs c.kind post pre.length d:Nat):Int):=by
  intro post
  induction post with
  |nil=>
   intro pre m n h j _ _
   obtain⟨n,rfl⟩:∃m,n=m+1:=⟨n - 1,by omega⟩
   rw [DG,Al h,if_neg (by simp),Core.occs,Nat.add_zero]
  | cons x post ihp=>
   intro pre m n h j G hm
   rw [Core.nodess] at j hm
   rw [Core.depths] at G
   have:=x.nodes_pos
   have u:=Jk c.kind pre.length
   obtain⟨n,rfl⟩:∃m,n=m+1:=⟨n - 1,by omega⟩
   have hx:x ∈ c.kids:=by rw [h]; simp
   have ho:=Core.occ_le x (d+bnd c.kind pre.length)
   rw [DG,if_pos (Ah h),AU h,AA,J5,AA,Mp (by omega),I x hx (p x hx) (by omega) _ n (by omega) (by omega),AA,
    Mp (by omega),AN h hk,ihp (pre++[x]) _ n (AM h) (by omega) (by omega) (by omega),Core.occs,Nat.add_assoc]
   simp
 have:=loop c.kids [] 0 n (by simp) (by omega) (by omega) (by omega)
 grind
theorem gJ (a b:Nat):JW (a:Int) (b:Int)=some ((max a b:Nat):Int):=by
 grind [JW]
theorem SP:∀ (c:Core),c.Small→c.nodes≤Big→∀ (n:Nat),16*c.nodes≤n→E0 n c=some ((c.depth:Nat):Int):=by
 refine Core.ind fun c u G q n p=>?_
 obtain⟨_,F,hk,v⟩:=G
 have j:=Core.depth_le c
 rw [Core.depth_eq] at j ⊢
 rw [Core.nodes_eq] at p q j
 obtain⟨n,rfl⟩:∃m,n=m+1:=⟨n - 1,by omega⟩
 rw [E0]
 have loop:∀ (post pre:List Core) (m n:Nat),c.kids=pre++post→16*Core.nodess post+1≤n→m+1≤Big→Core.nodess post+1≤Big→
   DI n c (m:Int) (pre.length:Int)=some ((max m (Core.depths post)+1:Nat):Int):=by
  intro post
  induction post with
  |nil=>
   intro pre m n h p hm _
   obtain⟨n,rfl⟩:∃m,n=m+1:=⟨n - 1,by omega⟩
   rw [DI,Al h,if_neg (by simp),Core.depths,Ur (by omega),Nat.max_zero]
  |cons x post ihp=>
   intro pre m n h p hm q
   rw [Core.nodess] at p q
   have:=x.nodes_pos
   have C:=Core.depth_le x
   obtain⟨n,rfl⟩:∃m,n=m+1:=⟨n - 1,by omega⟩
   have hx:x ∈ c.kids:=by rw [h]; simp
   rw [DI,if_pos (Ah h),AU h,AA,u x hx (v x hx) (by omega) n (by omega),AA,gJ,AA,AN h hk,ihp (pre++[x]) _ n (AM h) (by omega) (by omega) (by omega),Core.depths,Nat.max_assoc]
 have:=loop c.kids [] 0 n (by simp) (by omega) (by omega) (by omega)
 rw [Nat.zero_max] at this
 omega
theorem Uu (v:Int):(Lz v).Small :=⟨_,by grind [Lz],by grind [Lz],fun k h=>by grind [Lz]⟩
theorem Core.mvs_len (F:Core→Nat→Core) (k:Int):∀ (l:List Core) (i n:Nat),(Core.mvs F k l i n).length =l.length
 | [],_,_=>by rw [Core.mvs]
 |c::cs,i,n=>by rw [Core.mvs,List.length_cons,List.length_cons,Core.mvs_len F k cs]
theorem Core.mvs_mem {F:Core→Nat→Core} {k:Int} {x:Core}:∀ {l:List Core} {i n:Nat},x ∈ Core.mvs F k l i n→∃y ∈ l,∃j,x=y.mv F j
 | [],_,_,h=>by rw [Core.mvs] at h; cases h
 | c::cs,i,n,h=>by
  rw [Core.mvs] at h
  rcases List.mem_cons.1 h with rfl|h
  ·exact⟨c,by simp,_,rfl⟩
  ·obtain⟨y,hy,j,rfl⟩:=Core.mvs_mem h
   exact⟨y,by simp [hy],j,rfl⟩
theorem Z4 (F:Core→Nat→Core) (hF:∀x n,(F x n).Small):∀ (c:Core),c.Small→∀n,(c.mv F n).Small :=by
 refine Core.ind fun c u p n=>?_
 obtain⟨_,j,hk,q⟩:=p
 rw [Core.mv_eq]
 split
 ·grind
 ·refine⟨_,j,by rw [Core.mvs_len]; exact hk,fun x hx=>?_⟩
  grind [Core.mvs_mem]
theorem jf {b:Nat} {c:Core} (h:c.Small) (n:Nat):(c.mv (shF b) n).Small :=Z4 _ (fun x n=>Uu _) c h n
theorem gK {a c:Core} (ha:a.Small) (h:c.Small) (n:Nat):(c.mv (putF a) n).Small :=Z4 _ (fun x n=>by
 grind [putF,jf,Uu]) c h n
mutual
theorem Z5 (b:Nat):∀ (c:Core) (n:Nat),c.wf=true→(c.mv (shF b) n).nodes =c.nodes
 | ⟨k,v,d,ks⟩,n,h=>by
  obtain⟨j,p⟩:=AX h
  rw [Core.mv]
  by_cases h1:k=1
  ·rw [if_pos h1]
   have hk:ks=[] :=GU j h1
   subst hk
   simp only [shF,Lz]
   rw [Core.nodes,Core.nodes]
  ·rw [if_neg h1,Core.nodes,Core.nodes,XA b k ks 0 n p]
theorem XA (b:Nat) (k:Int):∀ (l:List Core) (i n:Nat),Core.wfs l=true→Core.nodess (Core.mvs (shF b) k l i n)=Core.nodess l
 | [],_,_,_=>by rw [Core.mvs]
 |c::cs,i,n,h=>by
  rw [Core.wfs,Bool.and_eq_true] at h
  rw [Core.mvs,Core.nodess,Core.nodess,Z5 b c _ h.1,XA b k cs _ n h.2]
end
mutual
theorem RG (a:Core) (ha:a.wf=true):∀ (c:Core) (n:Nat),c.wf=true→(c.mv (putF a) n).nodes +c.occ n=c.nodes+c.occ n*a.nodes
 | ⟨k,v,d,ks⟩,n,h=>by
  obtain⟨j,p⟩:=AX h
  rw [Core.mv,Core.occ]
  by_cases h1:k=1
  ·rw [if_pos h1,if_pos h1]
   have hk:ks=[] :=GU j h1
   grind [putF,Z5,Core.nodes,Core.nodess,Lz]
  ·rw [if_neg h1,if_neg h1,Core.nodes,Core.nodes]
   have:=Uv a ha k ks 0 n p
   omega
theorem Uv (a:Core) (ha:a.wf=true) (k:Int):∀ (l:List Core) (i n:Nat),Core.wfs l=true→Core.nodess (Core.mvs (putF a) k l i n)+Core.occs k l i n=Core.nodess l+Core.occs k l i n*a.nodes
 | [],_,_,_=>by rw [Core.mvs,Core.occs]; omega
 |c::cs,i,n,h=>by
  rw [Core.wfs,Bool.and_eq_true] at h
  have h1:=RG a ha c (n+bnd k i) h.1
  have h2:=Uv a ha k cs (i+1) n h.2
  rw [Core.mvs,Core.occs,Core.nodess,Core.nodess,Nat.add_mul]
  omega
end
def SW (c:Core):Bool:=decide (c.kind=1)&&decide (255<c.value)
theorem cO:∀ (c:Core),c.Small→∀n,16*c.nodes≤n→∃m:Int,D5 n c=some m∧(255<m↔c.anyC SW=true):=by
 refine Core.ind fun c v G n q=>?_
 obtain⟨_,F,hk,C⟩:=G
 rw [Core.nodes_eq] at q
 obtain⟨n,rfl⟩:∃m,n=m+2:=⟨n - 2,by omega⟩
 have loop:∀ (post pre:List Core) (n:Nat) (m:Int),c.kids=pre++post→16*Core.nodess post+1≤n→
   ∃j:Int,CG n c m (pre.length:Int)=some j∧(255<j↔255<m∨Core.anysC SW post=true):=by
  intro post
  induction post with
  |nil=>
   intro pre n m h q
   obtain⟨n,rfl⟩:∃m,n=m+1:=⟨n - 1,by omega⟩
   simp_all [CG,Core.anysC]
  | cons x post ihp=>
   intro pre n m h q
   rw [Core.nodess] at q
   have:=x.nodes_pos
   obtain⟨n,rfl⟩:∃m,n=m+1:=⟨n - 1,by omega⟩
   have hx:x ∈ c.kids:=by rw [h]; simp
   obtain⟨u,h1,h2⟩:=v x hx (C x hx) n (by omega)
   obtain⟨j,h3,p⟩:=ihp (pre++[x]) n (if u<m then m else u) (AM h) (by omega)
   refine⟨j,?_,?_⟩
   ·rw [CG,if_pos (Ah h),AU h,AA,h1,AA]
    grind [JW,AN]
   grind [Core.anysC]
 rw [D5,Core.anyC_eq]
 unfold SW
 by_cases h1:c.kind=1
 ·obtain⟨j,h3,p⟩:=loop c.kids [] n c.value (by simp) (by omega)
  rw [if_pos (by grind),Cu]
  exact⟨j,h3,by rw [p]; simp [h1]; rfl⟩
 ·obtain⟨j,h3,p⟩:=loop c.kids [] n (-1) (by simp) (by omega)
  rw [if_neg (by grind),Cu]
  exact⟨j,h3,by rw [p]; simp [h1]; rfl⟩
def IZ:Core:=⟨0,0,[],[]⟩
theorem gG:IZ.sz=0:=by rfl
theorem SS {c:Core} (h:c.valid=true):c.wf=true∧c.depth≤80∧c.nodes≤400:=by
 grind [Core.valid]
theorem Up (c a:Core) (hs:c.Small) (has:a.Small) (hw:c.wf=true) (haw:a.wf=true) (hd:c.depth≤80) (hn:c.nodes≤400) (had:a.depth≤80) (han:a.nodes≤400):
  FW c a=some (if (c.mv (putF a) 0).depth ≤80∧(c.mv (putF a) 0).nodes ≤400 then (if (c.mv (putF a) 0).anyC SW=true then (IZ,2) else (c.mv (putF a) 0,0)) else (IZ,4)):=by
 have v:c.nodes≤Big:=by grind
 have u:a.nodes≤Big:=by grind
 have U:=a.nodes_pos
 have ho:=Core.occ_le c 0
 have hpn:=RG a haw c 0 hw
 have G:c.occ 0*a.nodes≤160000:=Nat.le_trans (Nat.mul_le_mul (show c.occ 0≤400 by omega) han) (by decide)
 have q:=gK has hs 0
 have j:(c.mv (putF a) 0).nodes ≤Big:=by grind
 have J:=Z3 c hs v 0 fuel (by grind) (Ag v)
 have I:=gI a has haw u c hs hw 0 fuel (by grind) (Ag v)
 rw [show ((0:Nat):Int)=0 from rfl] at J I
 have F:=Mq c hs 80 400 fuel (by grind) (by grind) (Ag v)
 have C:=Mq a has 80 400 fuel (by grind) (by grind) (Ag u)
 rw [if_pos ⟨hw,hd,hn⟩] at F
 rw [if_pos ⟨haw,had,han⟩] at C
 rw [show ((80:Nat):Int)=80 from rfl,show ((400:Nat):Int)=400 from rfl] at F C
 have e5:=SP _ q j fuel (Ag j)
 obtain⟨m,e6,Y⟩:=cO _ q fuel (Ag j)
 have e8:IntKind.i64.wrap ((c.nodes:Int)+IntKind.i64.wrap ((c.occ 0:Int)*IntKind.i64.wrap ((a.nodes:Int) - 1)))=((c.mv (putF a) 0).nodes :Int):=by
  have O:(c.occ 0:Int)*(a.nodes:Int)=((c.occ 0*a.nodes:Nat):Int):=by simp
  have m2:(c.occ 0:Int)*((a.nodes:Int) - 1)=((c.occ 0*a.nodes:Nat):Int) - (c.occ 0:Int):=by rw [Int.mul_sub,O,Int.mul_one]
  grind [w64]
 unfold FW
 rw [J,AA,F,AA,C,AA,e8]
 generalize hp:c.mv (putF a) 0=p at*
 by_cases h1:p.nodes≤400
 ·rw [if_neg (by grind),I,AA,e5,AA]
  by_cases h2:p.depth≤80
  ·have W:∀ (x y:Core × Int),(if p.depth≤80∧p.nodes≤400 then x else y)=x:=fun x y=>if_pos ⟨h2,h1⟩
   rw [if_neg (by grind),e6,AA,W]
   by_cases h3:255<m
   ·rw [if_pos (by grind),if_pos (Y.1 h3)]; rfl
   grind
  ·rw [if_pos (by grind),if_neg (fun h=>h2 h.1)]; rfl
 ·rw [if_pos (by grind),if_neg (fun h=>h1 h.2)]; rfl
theorem Lb {k v:Int} {d:List Int} {a b:List Core} (h:a.length=b.length):A1 ⟨k,v,d,a⟩=A1 ⟨k,v,d,b⟩:=by
 unfold A1 K4
 simp only [h]
theorem Z6 {v:Int} (h0:0≤v) (h1:v≤255):A1 (Lz v)=true:=by
 unfold A1 K4 Lz shape
 simp
 omega
theorem Td {v:Int} (h0:0≤v) (h1:v≤255):(Lz v).wf =true:=by
 rw [Core.wf_eq,Z6 h0 h1]
 simp [Lz,Core.wfs]
theorem Lc {v:Int} {n:Nat} (h:v<(n:Int)):(Lz v).above n=false:=by
 rw [Core.above_eq,if_pos (by rfl)]
 show decide ((n:Int)≤v)=false
 simpa using h
theorem NV {c:Core} {n:Nat} (h1:c.kind=1) (h:c.above n=false):c.value<(n:Int):=by
 rw [Core.above_eq,if_pos h1] at h
 simp at h; omega
theorem dy:∀ {l:List Core},(∀x ∈ l,x.wf=true)→Core.wfs l=true
 | [],_=>by rw [Core.wfs]
 |c::cs,h=>by rw [Core.wfs,h c (by simp),dy fun x hx=>h x (by simp [hx])]; rfl
theorem K2 {x:Core}:∀ {l:List Core},x ∈ l→x.depth≤Core.depths l
 |c::cs,h=>by
  rw [Core.depths]
  rcases List.mem_cons.1 h with rfl|h
  ·omega
  ·have:=K2 h; omega
theorem Ge:∀l:List Core,l.length≤Core.nodess l
 | [] =>by simp
 |c::cs=>by rw [Core.nodess,List.length_cons]; have:=c.nodes_pos; have:=Ge cs; omega
theorem Gd {x:Core}:∀ {l:List Core},x ∈ l→x.nodes≤Core.nodess l
 |c::cs,h=>by
  rw [Core.nodess]
  rcases List.mem_cons.1 h with rfl|h
  ·omega
  ·have:=Gd h; omega
theorem D8:∀ (c:Core),c.wf=true→c.nodes≤Big→c.Small:=by
 refine Core.ind fun c v u q=>?_
 obtain⟨j,p⟩:=AX u
 rw [Core.nodes_eq] at q
 have hd:c.data.length≤4:=by
  unfold A1 at j
  simp only [Bool.and_eq_true] at j
  exact J3 j.1.1.2
 have:=Ge c.kids
 exact⟨c,by unfold Big at*; omega,by omega,fun k hk=>v k hk (Bg hk p) (by have:=Gd hk; omega)⟩
theorem gA:∀ (c:Core),c.wf=true→c.anyC SW=false:=by
 refine Core.ind fun c q u=>?_
 obtain⟨j,p⟩:=AX u
 rw [Core.anyC_eq,Core.anysC_any]
 have h1:SW c=false:=by
  unfold SW
  by_cases h:c.kind=1
  ·have:=(La j h).2; simp; omega
  ·simp [h]
 have h2:c.kids.any (Core.anyC SW)=false:=by
  rw [List.any_eq_false]
  intro x hx
  rw [q x hx (Bg hx p)]; simp
 rw [h1,h2]; rfl
mutual
theorem nK (A b:Nat):∀ (c:Core) (n:Nat),c.wf=true→c.above (A+n)=false→A+b+n+c.depth≤256→(c.mv (shF b) n).wf =true
 | ⟨k,v,d,ks⟩,n,h,ha,hd=>by
  obtain⟨j,q⟩:=AX h
  rw [Core.depth] at hd
  rw [Core.mv]
  by_cases h1:k=1
  ·have h2:=NV (c:=⟨k,v,d,ks⟩) h1 ha
   have h3:=La j h1
   rw [if_pos h1]
   unfold shF
   simp only at h2 h3 ⊢
   split
   ·exact Td (by omega) (by omega)
   ·exact Td (by omega) (by omega)
  ·rw [if_neg h1,Core.wf,Lb (Core.mvs_len _ _ _ _ _)]
   rw [Core.above,if_neg h1] at ha
   have p:A1 ⟨k,v,d,ks⟩=true:=j
   rw [p,jg A b k ks 0 n q ha (by omega)]; rfl
theorem jg (A b:Nat) (k:Int):∀ (l:List Core) (i n:Nat),Core.wfs l=true→Core.aboves k l i (A+n)=false→A+b+n+Core.depths l+1≤256→Core.wfs (Core.mvs (shF b) k l i n)=true
 | [],_,_,_,_,_=>by rw [Core.mvs,Core.wfs]
 |c::cs,i,n,h,ha,hd=>by
  rw [Core.wfs,Bool.and_eq_true] at h
  rw [Core.aboves,Bool.or_eq_false_iff] at ha
  rw [Core.depths] at hd
  have hb:=Jk k i
  rw [Core.mvs,Core.wfs,nK A b c (n+bnd k i) h.1 (by rw [← Nat.add_assoc]; exact ha.1) (by omega),jg A b k cs (i+1) n h.2 ha.2 (by omega)]; rfl
end
mutual
theorem Z7 (A b:Nat):∀ (c:Core) (n:Nat),c.above (A+n)=false→(c.mv (shF b) n).above (A+b+n)=false
 | ⟨k,v,d,ks⟩,n,ha=>by
  rw [Core.mv]
  by_cases h1:k=1
  ·have h2:=NV (c:=⟨k,v,d,ks⟩) h1 ha
   rw [if_pos h1]
   unfold shF
   simp only at h2 ⊢
   split
   ·exact Lc (by omega)
   ·exact Lc (by omega)
  ·rw [if_neg h1,Core.above,if_neg h1]
   rw [Core.above,if_neg h1] at ha
   exact XB A b k ks 0 n ha
theorem XB (A b:Nat) (k:Int):∀ (l:List Core) (i n:Nat),Core.aboves k l i (A+n)=false→Core.aboves k (Core.mvs (shF b) k l i n) i (A+b+n)=false
 | [],_,_,_=>by rw [Core.mvs,Core.aboves]
 |c::cs,i,n,ha=>by
  rw [Core.aboves,Bool.or_eq_false_iff] at ha
  rw [Core.mvs,Core.aboves,Bool.or_eq_false_iff]
  refine⟨?_,XB A b k cs (i+1) n ha.2⟩
  have:=Z7 A b c (n+bnd k i) (by rw [← Nat.add_assoc]; exact ha.1)
  rw [Nat.add_assoc]; exact this
end
mutual
theorem jh (A:Nat) (t:Core) (ht:t.wf=true) (hta:t.above A=false) (hA:A+t.depth≤170):∀ (c:Core) (n:Nat),c.wf=true→c.above (A+1+n)=false→n+c.depth≤85→(c.mv (putF t) n).wf =true
 | ⟨k,v,d,ks⟩,n,h,ha,hd=>by
  obtain⟨j,q⟩:=AX h
  rw [Core.depth] at hd
  rw [Core.mv]
  by_cases h1:k=1
  ·have h2:=NV (c:=⟨k,v,d,ks⟩) h1 ha
   have h3:=La j h1
   rw [if_pos h1]
   unfold putF
   simp only at h2 h3 ⊢
   split
   ·exact nK A n t 0 ht hta (by omega)
   ·split
    ·exact Td (by omega) (by omega)
    ·exact Td (by omega) (by omega)
  ·rw [if_neg h1,Core.wf,Lb (Core.mvs_len _ _ _ _ _)]
   rw [Core.above,if_neg h1] at ha
   have p:A1 ⟨k,v,d,ks⟩=true:=j
   rw [p,d6 A t ht hta hA k ks 0 n q ha (by omega)]; rfl
theorem d6 (A:Nat) (t:Core) (ht:t.wf=true) (hta:t.above A=false) (hA:A+t.depth≤170) (k:Int):∀ (l:List Core) (i n:Nat),Core.wfs l=true→Core.aboves k l i (A+1+n)=false→n+Core.depths l+1≤85→Core.wfs (Core.mvs (putF t) k l i n)=true
 | [],_,_,_,_,_=>by rw [Core.mvs,Core.wfs]
 |c::cs,i,n,h,ha,hd=>by
  rw [Core.wfs,Bool.and_eq_true] at h
  rw [Core.aboves,Bool.or_eq_false_iff] at ha
  rw [Core.depths] at hd
  have hb:=Jk k i
  rw [Core.mvs,Core.wfs,jh A t ht hta hA c (n+bnd k i) h.1 (by rw [← Nat.add_assoc]; exact ha.1) (by omega),d6 A t ht hta hA k cs (i+1) n h.2 ha.2 (by omega)]; rfl
end
mutual
theorem XC (A:Nat) (t:Core) (hta:t.above A=false):∀ (c:Core) (n:Nat),c.above (A+1+n)=false→(c.mv (putF t) n).above (A+n)=false
 | ⟨k,v,d,ks⟩,n,ha=>by
  rw [Core.mv]
  by_cases h1:k=1
  ·have h2:=NV (c:=⟨k,v,d,ks⟩) h1 ha
   rw [if_pos h1]
   unfold putF
   simp only at h2 ⊢
   split
   ·exact Z7 A n t 0 hta
   ·split
    ·exact Lc (by omega)
    ·exact Lc (by omega)
  ·rw [if_neg h1,Core.above,if_neg h1]
   rw [Core.above,if_neg h1] at ha
   exact Uw A t hta k ks 0 n ha
theorem Uw (A:Nat) (t:Core) (hta:t.above A=false) (k:Int):∀ (l:List Core) (i n:Nat),Core.aboves k l i (A+1+n)=false→Core.aboves k (Core.mvs (putF t) k l i n) i (A+n)=false
 | [],_,_,_=>by rw [Core.mvs,Core.aboves]
 |c::cs,i,n,ha=>by
  rw [Core.aboves,Bool.or_eq_false_iff] at ha
  rw [Core.mvs,Core.aboves,Bool.or_eq_false_iff]
  refine⟨?_,Uw A t hta k cs (i+1) n ha.2⟩
  have:=XC A t hta c (n+bnd k i) (by rw [← Nat.add_assoc]; exact ha.1)
  rw [Nat.add_assoc]; exact this
end
def Core.fit (c:Core):Bool:=decide (c.depth≤80∧c.nodes≤400)
def fitO (c:Core):Option Core:=if c.fit=true then some c else none
structure Good (A:Nat) (e:Core):Prop where
 wf:e.wf=true
 below:e.above A=false
 fit:e.fit=true
theorem Good.parts {A:Nat} {e:Core} (h:Good A e):e.depth≤80∧e.nodes≤400:=by have:=h.fit; grind [Core.fit]
theorem Good.small {A:Nat} {e:Core} (h:Good A e):e.Small:=D8 e h.wf (by have:=h.parts; grind)
def kidC (l:List Core) (i:Nat):Core:=l.getD i IZ
theorem P1 {α:Type} {l:List α} {i:Nat} {d:α} (h:i<l.length):l.getD i d ∈ l:=by
 rw [List.getD_eq_getElem?_getD,List.getElem?_eq_getElem h]
 grind
theorem B1 {l:List Core} {i:Nat} (h:i<l.length):kidC l i ∈ l:=P1 h
def rk (c:Core):Int:=
 if c.kind=5 then (if (kidC c.kids 0).kind =4 then 1 else if (kidC c.kids 0).kind =11 then 4 else 0)
 else if c.kind=3 then (if (kidC c.kids 0).kind =11 then 4 else if (kidC c.kids 0).kind =2 then (if (kidC c.kids 1).kind =2 then 2 else if (kidC c.kids 1).kind =11 then 4 else 0) else 0)
 else if c.kind=9 then (if (kidC c.kids 0).kind =8∧(kidC c.kids 0).value <(c.data.length:Int) then 3 else if (kidC c.kids 0).kind =11 then 4 else 0)
 else if c.kind=10 then (if (kidC c.kids 0).kind =2 then 3 else if (kidC c.kids 0).kind =11 then 4 else 0)
 else 0
def atC (c:Core):Nat:=if (kidC c.kids 0).kind =11 then 0 else 1
def Vr (d:Int):Core:=⟨11,d,[],[]⟩
def appC (f a:Core):Core:=⟨5,0,[],[f,a]⟩
def LX (d:Int) (l:List Core):Core:=l.foldl appC (Vr d)
structure Env where
 defs:List Core
 op:Int→Int→Int→Int
def dvN (E:Env) (c:Core) (m:Bool) (l:List Core):Core:=
 if m=true∧rk c=1 then (kidC (kidC l 0).kids 0).mv (putF (kidC l 1)) 0
 else if m=true∧rk c=2 then ⟨2,E.op c.value (kidC c.kids 0).value (kidC c.kids 1).value,[],[]⟩
 else if m=true∧rk c=3 then (if c.kind=9 then LX (c.data.getD (kidC c.kids 0).value.toNat 0) (kidC l 0).kids else Vr (if (kidC c.kids 0).value =0 then c.data.getD 1 0 else c.data.getD 0 0))
 else if m=true∧rk c=4 then ⟨c.kind,c.value,c.data,l.set (atC c) (kidC E.defs (kidC c.kids (atC c)).value.toNat)⟩
 else ⟨c.kind,c.value,c.data,l⟩
mutual
def Core.dm (E:Env) (P:Nat→Bool):Core→Nat→Option Core
 |⟨k,v,d,ks⟩,p=>(Core.dms E P ks (p+1)).bind fun l=>fitO (dvN E ⟨k,v,d,ks⟩ (P p) l)
def Core.dms (E:Env) (P:Nat→Bool):List Core→Nat→Option (List Core)
 | [],_=>some []
 |c::cs,p=>(Core.dm E P c p).bind fun e=>(Core.dms E P cs (p+c.nodes)).bind fun l=>some (e::l)
end
section
variable {E:Env} {P:Nat→Bool}
theorem Core.dm_eq (c:Core) (p:Nat):c.dm E P p=(Core.dms E P c.kids (p+1)).bind fun l=>fitO (dvN E c (P p) l):=by cases c; rw [Core.dm]
theorem LZ {x:Core} {post:List Core}:∀ {pre:List Core} {acc:List Core} {p:Nat},Core.dms E P pre p=some acc→Core.dms E P (pre++x::post) p=(x.dm E P (p+Core.nodess pre)).bind fun e=>(Core.dms E P post (p+Core.nodess pre+x.nodes)).bind fun l=>some (acc++e::l)
 | [],acc,p,h=>by rw [Core.dms] at h; grind [Core.dms,Core.nodess]
 | c::cs,acc,p,h=>by
  rw [Core.dms] at h
  cases hc:c.dm E P p with
  |none=>rw [hc] at h; cases h
  | some e=>
   cases hcs:Core.dms E P cs (p+c.nodes) with
   |none=>rw [hc,hcs] at h; cases h
   |some l=>
    rw [hc,hcs] at h
    cases h
    rw [List.cons_append,Core.dms,hc,LZ hcs,Core.nodess,Nat.add_assoc p]
    cases x.dm E P (p+(c.nodes+Core.nodess cs)) with
    |none=>rfl
    |some e2=>cases Core.dms E P post (p+(c.nodes+Core.nodess cs)+x.nodes) <;> rfl
theorem Z0 {x e:Core} {pre acc:List Core} {p:Nat} (h:Core.dms E P pre p=some acc) (hx:x.dm E P (p+Core.nodess pre)=some e):Core.dms E P (pre++[x]) p=some (acc++[e]):=by
 rw [LZ h,hx,Core.dms]; rfl
end
theorem FN {c:Core} (h:A1 c=true):(c.kind=3∨c.kind=5→c.kids.length=2)∧(c.kind=4∨c.kind=9∨c.kind=10→c.kids.length=1)∧(c.kind=2∨c.kind=11→c.kids.length=0)∧(c.kind=8→c.kids.length≤3):=by
 unfold A1 at h
 simp only [Bool.and_eq_true,decide_eq_true_eq] at h
 obtain⟨⟨⟨⟨h1,h2⟩,-⟩,-⟩,-⟩:=h
 have key:∀k a b p q,shape k=(a,b,p,q)→c.kind=k→a≤(c.kids.length:Int)∧(c.kids.length:Int)≤b:=fun k a b p q e hk=>by
  rw [hk,e] at h1 h2; exact⟨h1,h2⟩
 refine⟨fun hk=>?_,fun hk=>?_,fun hk=>?_,fun hk=>?_⟩
 ·rcases hk with hk|hk
  ·have:=key 3 2 2 0 0 (by decide) hk; omega
  ·have:=key 5 2 2 0 0 (by decide) hk; omega
 ·rcases hk with hk|hk|hk
  ·have:=key 4 1 1 0 0 (by decide) hk; omega
  ·have:=key 9 1 1 1 4 (by decide) hk; omega
  ·have:=key 10 1 1 2 2 (by decide) hk; omega
 ·rcases hk with hk|hk
  ·have:=key 2 0 0 0 0 (by decide) hk; omega
  ·have:=key 11 0 0 0 0 (by decide) hk; omega
 ·have:=key 8 0 3 0 0 (by decide) hk; omega
theorem RI {c:Core} (h:A1 c=true):(∀n ∈ c.data,0≤n∧n≤23)∧(c.kind=10→c.data.length=2):=by
 grind [A1,Ck,shape]
theorem Ji {c:Core} (h:A1 c=true) (hk:c.kind=8∨c.kind=11):0≤c.value:=by
 unfold A1 at h
 simp only [Bool.and_eq_true] at h
 obtain⟨⟨-,h1⟩,-⟩:=h
 unfold K4 at h1
 rcases hk with hk|hk <;> rw [hk] at h1 <;> simp at h1 <;> omega
theorem d7 {d:Int} (h:0≤d∧d≤23):(Vr d).wf =true:=by
 grind [Vr,Core.wf,Core.wfs,A1,shape,K4]
theorem Ux {d:Int} {A:Nat}:(Vr d).above A=false:=by
 unfold Vr
 rw [Core.above,if_neg (by omega),Core.aboves]
theorem mS {f a:Core} (hf:f.wf=true) (ha:a.wf=true):(appC f a).wf =true:=by
 grind [appC,Core.wf,Core.wfs,A1,shape,K4]
theorem cP {f a:Core} {A:Nat} (hf:f.above A=false) (ha:a.above A=false):(appC f a).above A=false:=by
 grind [appC,Core.above,Core.aboves,bnd]
theorem XD:∀ {l:List Core} {f:Core},f.wf=true→(∀x ∈ l,x.wf=true)→(l.foldl appC f).wf =true
 | [],f,hf,_=>hf
 |x::l,f,hf,h=>by
  rw [List.foldl_cons]
  exact XD (mS hf (h x (by simp))) fun y hy=>h y (by grind)
theorem P2 {A:Nat}:∀ {l:List Core} {f:Core},f.above A=false→(∀x ∈ l,x.above A=false)→(l.foldl appC f).above A=false
 | [],f,hf,_=>hf
 |x::l,f,hf,h=>by
  rw [List.foldl_cons]
  exact P2 (cP hf (h x (by simp))) fun y hy=>h y (by simp [hy])
theorem Pu:∀ {l:List Core} {f:Core},(l.foldl appC f).nodes =f.nodes+Core.nodess l+l.length
 | [],f=>by rw [Core.nodess]; simp
 |x::l,f=>by
  rw [List.foldl_cons,Pu,Core.nodess,List.length_cons]
  grind [appC,Core.nodes,Core.nodess]
theorem H4 {k:Int} {x:Core} {A:Nat} (hk:∀i,bnd k i=0):∀ {l:List Core} {i:Nat},Core.aboves k l i A=false→x ∈ l→x.above A=false
 |y::l,i,h,hx=>by
  rw [Core.aboves,Bool.or_eq_false_iff,hk,Nat.add_zero] at h
  rcases List.mem_cons.1 hx with rfl|hx
  ·grind
  ·exact H4 hk h.2 hx
theorem Uy {k:Int} {A:Nat} (hk:∀i,bnd k i=0):∀ {l:List Core} {i:Nat},(∀x ∈ l,x.above A=false)→Core.aboves k l i A=false
 | [],_,_=>by rw [Core.aboves]
 |y::l,i,h=>by
  rw [Core.aboves,hk,Nat.add_zero,h y (by simp),Uy hk fun x hx=>h x (by grind)]; rfl
theorem d8 {k:Int} (h4:k≠4) (h7:k≠7) (i:Nat):bnd k i=0:=by
 unfold bnd
 rw [if_neg (by rintro (h|⟨h,-⟩); exact h4 h; exact h7 h)]
mutual
theorem Uz {A B:Nat} (hAB:A≤B):∀ {c:Core},c.above A=false→c.above B=false
 | ⟨k,v,d,ks⟩,h=>by
  rw [Core.above] at h ⊢
  split
  ·grind
  ·rename_i h1
   rw [if_neg h1] at h
   exact SX hAB h
theorem SX {k:Int} {A B:Nat} (hAB:A≤B):∀ {l:List Core} {i:Nat},Core.aboves k l i A=false→Core.aboves k l i B=false
 | [],i,_=>by rw [Core.aboves]
 |c::cs,i,h=>by
  rw [Core.aboves,Bool.or_eq_false_iff] at h ⊢
  exact⟨Uz (by omega) h.1,SX hAB h.2⟩
end
structure EnvOk (E:Env):Prop where
 defs:∀d ∈ E.defs,d.wf=true∧d.above 0=false∧d.nodes≤400∧d.depth≤80
 op:∀o a b,-2147483648≤E.op o a b∧E.op o a b≤2147483647
def actK (k:Int):Prop:=k=3∨k=5∨k=9∨k=10
def mT (c:Core) (l:List Core):Prop:=∀i,i<c.kids.length→¬actK (kidC c.kids i).kind →(kidC l i).kind =(kidC c.kids i).kind ∧(kidC l i).value =(kidC c.kids i).value
theorem H8 {k:Int} (h:k=2∨k=4∨k=8∨k=11):¬actK k:=by grind [actK]
theorem rk_kind {c:Core} (h:rk c≠0):c.kind=3∨c.kind=5∨c.kind=9∨c.kind=10:=by
 grind [rk]
theorem ji {c:Core} (hk:c.kind=5):rk c=if (kidC c.kids 0).kind =4 then 1 else if (kidC c.kids 0).kind =11 then 4 else 0:=by unfold rk; rw [if_pos hk]
theorem jj {c:Core} (hk:c.kind=3):rk c=if (kidC c.kids 0).kind =11 then 4 else if (kidC c.kids 0).kind =2 then (if (kidC c.kids 1).kind =2 then 2 else if (kidC c.kids 1).kind =11 then 4 else 0) else 0:=by unfold rk; rw [if_neg (by omega),if_pos hk]
theorem jk {c:Core} (hk:c.kind=9):rk c=if (kidC c.kids 0).kind =8∧(kidC c.kids 0).value <(c.data.length:Int) then 3 else if (kidC c.kids 0).kind =11 then 4 else 0:=by unfold rk; rw [if_neg (by omega),if_neg (by omega),if_pos hk]
theorem d9 {c:Core} (hk:c.kind=10):rk c=if (kidC c.kids 0).kind =2 then 3 else if (kidC c.kids 0).kind =11 then 4 else 0:=by unfold rk; rw [if_neg (by omega),if_neg (by omega),if_neg (by omega),if_pos hk]
theorem rk_cases (c:Core):rk c=0∨(rk c=1∧c.kind=5∧(kidC c.kids 0).kind =4)∨(rk c=2∧c.kind=3∧(kidC c.kids 0).kind =2∧(kidC c.kids 1).kind =2)∨
  (rk c=3∧((c.kind=9∧(kidC c.kids 0).kind =8∧(kidC c.kids 0).value <(c.data.length:Int))∨(c.kind=10∧(kidC c.kids 0).kind =2)))∨
  (rk c=4∧actK c.kind∧((kidC c.kids 0).kind =11∨(c.kind=3∧(kidC c.kids 0).kind =2∧(kidC c.kids 1).kind =11))):=by
 rcases Classical.em (rk c=0) with h|h
 ·exact .inl h
 refine .inr ?_
 rcases rk_kind h with hk|hk|hk|hk
 ·rw [jj hk] at h ⊢
  by_cases h1:(kidC c.kids 0).kind =11
  ·rw [if_pos h1]; exact .inr (.inr (.inr ⟨rfl,.inl hk,.inl h1⟩))
  ·rw [if_neg h1] at h ⊢
   by_cases h2:(kidC c.kids 0).kind =2
   ·rw [if_pos h2] at h ⊢
    by_cases h3:(kidC c.kids 1).kind =2
    ·rw [if_pos h3]; exact .inr (.inl ⟨rfl,hk,h2,h3⟩)
    ·rw [if_neg h3] at h ⊢
     by_cases h4:(kidC c.kids 1).kind =11
     ·rw [if_pos h4]; exact .inr (.inr (.inr ⟨rfl,.inl hk,.inr ⟨hk,h2,h4⟩⟩))
     ·rw [if_neg h4] at h; exact absurd rfl h
   ·rw [if_neg h2] at h; exact absurd rfl h
 ·rw [ji hk] at h ⊢
  by_cases h1:(kidC c.kids 0).kind =4
  ·rw [if_pos h1]; exact .inl ⟨rfl,hk,h1⟩
  ·rw [if_neg h1] at h ⊢
   by_cases h4:(kidC c.kids 0).kind =11
   ·rw [if_pos h4]; exact .inr (.inr (.inr ⟨rfl,.inr (.inl hk),.inl h4⟩))
   ·rw [if_neg h4] at h; exact absurd rfl h
 ·rw [jk hk] at h ⊢
  by_cases h1:(kidC c.kids 0).kind =8∧(kidC c.kids 0).value <(c.data.length:Int)
  ·rw [if_pos h1]; exact .inr (.inr (.inl ⟨rfl,.inl ⟨hk,h1⟩⟩))
  ·rw [if_neg h1] at h ⊢
   by_cases h4:(kidC c.kids 0).kind =11
   ·rw [if_pos h4]; exact .inr (.inr (.inr ⟨rfl,.inr (.inr (.inl hk)),.inl h4⟩))
   ·rw [if_neg h4] at h; exact absurd rfl h
 ·rw [d9 hk] at h ⊢
  by_cases h1:(kidC c.kids 0).kind =2
  ·rw [if_pos h1]; exact .inr (.inr (.inl ⟨rfl,.inr ⟨hk,h1⟩⟩))
  ·rw [if_neg h1] at h ⊢
   by_cases h4:(kidC c.kids 0).kind =11
   ·rw [if_pos h4]; exact .inr (.inr (.inr ⟨rfl,.inr (.inr (.inr hk)),.inl h4⟩))
   ·rw [if_neg h4] at h; exact absurd rfl h
theorem x5 {c:Core} (h:rk c=1):c.kind=5∧(kidC c.kids 0).kind =4:=by
 grind [rk_cases]
theorem rk_3 {c:Core} (h:rk c=3):(c.kind=9∧(kidC c.kids 0).kind =8∧(kidC c.kids 0).value <(c.data.length:Int))∨(c.kind=10∧(kidC c.kids 0).kind =2):=by
 grind [rk_cases]
theorem mL {c:Core} (h:rk c=4) (hno:A1 c=true):(kidC c.kids (atC c)).kind =11∧atC c<c.kids.length:=by
 have p:=FN hno
 rcases rk_cases c with k|k|k|k|⟨-,k,k2⟩
 ·omega
 ·omega
 ·omega
 ·omega
 ·have j:0<c.kids.length:=by
   rcases k with k|k|k|k
   ·omega
   ·omega
   ·omega
   omega
  grind [atC]
theorem eC {E:Env} (hE:EnvOk E) (c:Core) (hw:c.wf=true) (A:Nat) (hA:A+c.depth≤81) (ha:c.above A=false) (hn:∀x ∈ c.kids,x.kind=11→x.value<(E.defs.length:Int)) (m:Bool) (l:List Core) (hlen:l.length=c.kids.length) (hwl:Core.wfs l=true) (hal:c.kind≠1→Core.aboves c.kind l 0 A=false) (hfit:∀x ∈ l,x.wf=true∧x.fit=true) (hkept:mT c l):
  (dvN E c m l).wf =true∧(dvN E c m l).above A=false:=by
 obtain⟨u,J⟩:=AX hw
 have hl:=FN u
 have j:∀i,i<c.kids.length→kidC l i ∈ l:=fun i hi=>B1 (by omega)
 unfold dvN
 by_cases h1:m=true∧rk c=1
 ·rw [if_pos h1]
  obtain⟨hk,C⟩:=x5 h1.2
  have h2:=hl.1 (.inr hk)
  have v:=hal (by omega)
  have hb:∀i,bnd c.kind i=0:=d8 (by omega) (by omega)
  have G:=H4 hb v (j 0 (by omega))
  have a1:=H4 hb v (j 1 (by omega))
  obtain⟨w0,W⟩:=hfit _ (j 0 (by omega))
  obtain⟨w1,f1⟩:=hfit _ (j 1 (by omega))
  have O:(kidC l 0).kind =4:=(hkept 0 (by omega) (H8 (by omega))).1.trans C
  obtain⟨U,F⟩:=AX w0
  have hl0:=(FN U).2.1 (.inl O)
  have p:kidC (kidC l 0).kids 0 ∈ (kidC l 0).kids :=B1 (by omega)
  have wb:=Bg p F
  have ab:(kidC (kidC l 0).kids 0).above (A+1)=false:=by
   rw [Core.above_eq,if_neg (by omega),O] at G
   match hq:(kidC l 0).kids,hl0 with
   | [b],_=>
    rw [hq,Core.aboves,Core.aboves,Bool.or_false] at G
    exact G
  have hd:=K2 p
  unfold Core.fit at W f1
  simp at W f1
  have hd0:=W.1
  rw [Core.depth_eq] at hd0
  exact⟨jh A _ w1 a1 (by omega) _ 0 wb (by rw [Nat.add_zero]; exact ab) (by omega),XC A _ a1 _ 0 (by rw [Nat.add_zero]; exact ab)⟩
 rw [if_neg h1]
 by_cases h2:m=true∧rk c=2
 ·rw [if_pos h2]
  have:=hE.op c.value (kidC c.kids 0).value (kidC c.kids 1).value
  refine⟨?_,?_⟩
  ·rw [Core.wf,Core.wfs]
   simp [A1,shape,K4,this]
  ·rw [Core.above,if_neg (by omega),Core.aboves]
 rw [if_neg h2]
 by_cases h3:m=true∧rk c=3
 ·rw [if_pos h3]
  obtain⟨q,I⟩:=RI u
  rcases rk_3 h3.2 with ⟨hk,C,hv⟩|⟨hk,C⟩
  ·rw [if_pos hk]
   have h1':=hl.2.1 (.inr (.inl hk))
   have hk8:(kidC l 0).kind =8:=(hkept 0 (by omega) (H8 (by omega))).1.trans C
   obtain⟨w0,W⟩:=hfit _ (j 0 (by omega))
   obtain⟨U,F⟩:=AX w0
   have v:=hal (by omega)
   have G:=H4 (d8 (by omega) (by omega)) v (j 0 (by omega))
   rw [Core.above_eq,if_neg (by omega)] at G
   have hv0:=Ji (AX (Bg (B1 (show 0<c.kids.length by omega)) J)).1 (.inl C)
   have hdv:c.data.getD (kidC c.kids 0).value.toNat 0 ∈ c.data:=by
    exact P1 (by omega)
   exact⟨XD (d7 (q _ hdv)) fun x hx=>Bg hx F,P2 Ux fun x hx=>H4 (d8 (by omega) (by omega)) G hx⟩
  ·rw [if_neg (by omega)]
   have h2':=I hk
   refine⟨d7 ?_,Ux⟩
   split
   ·exact q _ (P1 (by omega))
   ·exact q _ (P1 (by omega))
 rw [if_neg h3]
 by_cases h4:m=true∧rk c=4
 ·rw [if_pos h4]
  obtain⟨C,Y⟩:=mL h4.2 u
  have hk:=rk_kind (c:=c) (by omega)
  have p:=B1 Y
  have hv:=hn _ p C
  have hv0:=Ji (AX (Bg p J)).1 (.inr C)
  have hdm:kidC E.defs (kidC c.kids (atC c)).value.toNat ∈ E.defs:=B1 (by omega)
  obtain⟨d1,d2,-,-⟩:=hE.defs _ hdm
  have hb:∀i,bnd c.kind i=0:=d8 (by omega) (by omega)
  refine⟨?_,?_⟩
  ·rw [Core.wf,Lb (b:=c.kids) (by rw [List.length_set]; exact hlen),dy fun x hx=>by
    rcases List.mem_or_eq_of_mem_set hx with hx|rfl
    ·exact(hfit x hx).1
    ·exact d1]
   have:A1 ⟨c.kind,c.value,c.data,c.kids⟩=true:=u
   rw [this]; rfl
  ·rw [Core.above,if_neg (by omega)]
   refine Uy hb fun x hx=>?_
   rcases List.mem_or_eq_of_mem_set hx with hx|rfl
   ·exact H4 hb (hal (by omega)) hx
   ·exact Uz (Nat.zero_le A) d2
 rw [if_neg h4]
 constructor
 ·rw [Core.wf,Lb hlen,hwl]
  have:A1 ⟨c.kind,c.value,c.data,c.kids⟩=true:=u
  rw [this]; rfl
 ·rw [Core.above]
  by_cases h1:c.kind=1
  ·rw [Core.above_eq,if_pos h1] at ha
   rw [if_pos h1]; exact ha
  ·rw [if_neg h1]; exact hal h1
theorem Fb {c:Core} {n:Nat} (h:c.anyC (F0 n)=false) {x:Core} (hx:x ∈ c.kids):x.anyC (F0 n)=false:=by
 rw [Core.anyC_eq,Bool.or_eq_false_iff,Core.anysC_any] at h
 grind
theorem NU {x:Core} {n:Nat} (h:x.anyC (F0 n)=false) (hk:x.kind=11):x.value<(n:Int):=by
 rw [Core.anyC_eq,Bool.or_eq_false_iff] at h
 grind [F0]
section
variable {E:Env} {P:Nat→Bool}
theorem mU {c e:Core} {p:Nat} (h:c.dm E P p=some e) (hk:¬actK c.kind):e.kind=c.kind∧e.value=c.value:=by
 rw [Core.dm_eq] at h
 cases hl:Core.dms E P c.kids (p+1) with
 |none=>rw [hl] at h; cases h
 | some l=>
  rw [hl] at h
  replace h:fitO (dvN E c (P p) l)=some e:=h
  have h0:rk c=0:=by
   rcases Classical.em (rk c=0) with h0|h0
   ·exact h0
   ·exact absurd (rk_kind h0) hk
  grind [fitO,dvN]
theorem Z8 (k:Int):∀ (l l':List Core) (i A p:Nat),(∀x ∈ l,x.wf=true→∀A p,A+x.depth≤81→x.above A=false→∀e,x.dm E P p=some e→Good A e)→Core.wfs l=true→Core.aboves k l i A=false→A+Core.depths l≤80→Core.dms E P l p=some l'→
  l'.length=l.length∧Core.wfs l'=true∧Core.aboves k l' i A=false∧Core.nodess l'≤400*l.length∧(∀x ∈ l',x.wf=true∧x.fit=true)∧∀j,j<l.length→¬actK (kidC l j).kind →(kidC l' j).kind =(kidC l j).kind ∧(kidC l' j).value =(kidC l j).value
 | [],l',i,A,p,_,_,_,_,h=>by rw [Core.dms] at h; cases h; exact⟨rfl,by rw [Core.wfs],by rw [Core.aboves],by rw [Core.nodess]; omega,(fun x hx=>by cases hx),fun j hj=>by simp at hj⟩
 | c ::cs,l',i,A,p,ih,hw,ha,hd,h=>by
  rw [Core.wfs,Bool.and_eq_true] at hw
  rw [Core.aboves,Bool.or_eq_false_iff] at ha
  rw [Core.depths] at hd
  rw [Core.dms] at h
  have hb:=Jk k i
  cases hc:c.dm E P p with
  |none=>rw [hc] at h; cases h
  | some e=>
   cases hcs:Core.dms E P cs (p+c.nodes) with
   |none=>rw [hc,hcs] at h; cases h
   | some l=>
    rw [hc,hcs] at h
    cases h
    have g:=ih c (by simp) hw.1 (A+bnd k i) p (by omega) ha.1 e hc
    obtain⟨h1,h2,h3,v,u,q⟩:=Z8 k cs l (i+1) A (p+c.nodes) (fun x hx=>ih x (by simp [hx])) hw.2 ha.2 (by omega) hcs
    have:=g.parts
    refine⟨by simp [h1],by rw [Core.wfs,g.wf,h2]; rfl,by rw [Core.aboves,g.below,h3]; rfl,by rw [Core.nodess,List.length_cons]; omega,(fun x hx=>?_),fun j hj hk=>?_⟩
    ·rcases List.mem_cons.1 hx with rfl|hx
     ·exact⟨g.wf,g.fit⟩
     ·exact u x hx
    ·cases j with
     |zero=>exact mU hc hk
     |succ j=>exact q j (by simpa using hj) hk
theorem Tb (hE:EnvOk E) (c:Core) (hw:c.wf=true) (hnm:c.anyC (F0 E.defs.length)=false) (A p:Nat) (hA:A+c.depth≤81) (ha:c.above A=false)
  (ih:∀x ∈ c.kids,x.wf=true→∀A p,A+x.depth≤81→x.above A=false→∀e,x.dm E P p=some e→Good A e) {l:List Core} (hl:Core.dms E P c.kids (p+1)=some l) (m:Bool):
  l.length=c.kids.length∧Core.nodess l≤400*c.kids.length∧(∀x ∈ l,x.wf=true∧x.fit=true)∧mT c l∧(dvN E c m l).wf =true∧(dvN E c m l).above A=false:=by
 obtain⟨F,q⟩:=AX hw
 have C:∀x ∈ c.kids,x.kind=11→x.value<(E.defs.length:Int):=fun x hx hk=>NU (Fb hnm hx) hk
 by_cases h1:c.kind=1
 ·grind [GU,Core.dms,mT,eC,Core.nodess]
 ·have j:Core.aboves c.kind c.kids 0 A=false:=by rw [Core.above_eq,if_neg h1] at ha; exact ha
  have u:=hA
  rw [Core.depth_eq] at u
  obtain⟨k1,k2,k3,k4,k5,k6⟩:=Z8 c.kind c.kids l 0 A (p+1) ih q j (by omega) hl
  obtain⟨G,v⟩:=eC hE c hw A hA ha C m l k1 k2 (fun _=>k3) k5 k6
  exact⟨k1,k4,k5,k6,G,v⟩
theorem Tc (hE:EnvOk E):∀ (c:Core),c.wf=true→c.anyC (F0 E.defs.length)=false→∀A p,A+c.depth≤81→c.above A=false→∀e,c.dm E P p=some e→Good A e:=by
 refine Core.ind fun c O I q A p J G e j=>?_
 rw [Core.dm_eq] at j
 cases hl:Core.dms E P c.kids (p+1) with
 |none=>rw [hl] at j; cases j
 | some l=>
  rw [hl] at j
  replace j:fitO (dvN E c (P p) l)=some e:=j
  obtain⟨-,-,-,-,F,C⟩:=Tb hE c I q A p J G (fun x hx u=>O x hx u (Fb q hx)) hl (P p)
  unfold fitO at j
  split at j
  ·rename_i v
   cases j
   exact⟨F,C,v⟩
  grind
end
def Eg (c:Core):Bool:=decide (c.kind=6)||decide (c.kind=7)
theorem Pz:∀ (c:Core),c.Small→∀n,16*c.nodes≤n→D3 n c=some (!c.anyC Eg):=by
 refine Core.ind fun c p v n j=>?_
 obtain⟨_,u,hk,q⟩:=v
 rw [Core.nodes_eq] at j
 rw [Core.anyC_eq]
 obtain⟨n,rfl⟩:∃m,n=m+1:=⟨n - 1,by omega⟩
 obtain⟨n,rfl⟩:∃m,n=m+1:=⟨n - 1,by omega⟩
 rw [D3]
 have loop:∀ (post pre:List Core) (n:Nat),c.kids=pre++post→16*Core.nodess post+1≤n→Cd n c (pre.length:Int)=some (!Core.anysC Eg post):=by
  intro post
  induction post with
  |nil=>
   intro pre n h j
   obtain⟨n,rfl⟩:∃m,n=m+1:=⟨n - 1,by omega⟩
   rw [Cd,Al h,if_neg (by simp),Core.anysC]; rfl
  | cons x post ihp=>
   intro pre n h j
   rw [Core.nodess] at j
   have:=x.nodes_pos
   obtain⟨n,rfl⟩:∃m,n=m+1:=⟨n - 1,by omega⟩
   have hx:x ∈ c.kids:=by rw [h]; simp
   rw [Cd,if_pos (Ah h),AU h,AA,p x hx (q x hx) n (by omega),AA,Core.anysC]
   cases x.anyC Eg with
   |true=>simp
   |false=>
    rw [if_neg (by simp),AN h hk,ihp (pre++[x]) n (AM h) (by omega)]
    simp
 have hj:∀b,DY (n+1) c b=some (!(b||Core.anysC Eg c.kids)):=by
  intro b
  rw [DY]
  cases b with
  |true=>simp
  |false=>
   rw [if_neg (by simp)]
   exact loop c.kids [] n (by simp) (by omega)
 rw [hj,hj]
 unfold Eg
 by_cases h1:c.kind=6 <;> simp [h1]
theorem SQ (c:Core) (hs:c.Small) (hN:c.nodes≤Big):Hu c=some (c.valid&& !c.anyC Eg):=by
 unfold Hu
 rw [P3 c hs hN,AA,U0 _ Eg c hs (fun x hx=>by unfold Iq Eg; by_cases h:x.kind=6 <;> simp [h]) fuel (by have:=Ag hN; omega),AA]
 cases c.valid <;> simp
theorem cJ:∀ (c:Core),c.Small→∀ (left n:Nat),left≤Big→16*c.nodes≤n→Gt n c left=some (szr c.nodes left):=by
 refine Core.ind fun c q v left n F p=>?_
 obtain⟨_,C,hk,u⟩:=v
 rw [Core.nodes_eq] at p ⊢
 obtain⟨n,rfl⟩:∃m,n=m+1:=⟨n - 1,by omega⟩
 obtain⟨n,rfl⟩:∃m,n=m+1:=⟨n - 1,by omega⟩
 rw [Gt,w64 (by omega) (by unfold Big at F; omega)]
 have stop:∀ (n:Nat) (pre:List Core),2≤n→CU n c (-1) (pre.length:Int)=some (-1):=by
  intro n pre p
  obtain⟨n,rfl⟩:∃m,n=m+1:=⟨n - 1,by omega⟩
  obtain⟨n,rfl⟩:∃m,n=m+1:=⟨n - 1,by omega⟩
  rw [CU]
  have e:decide ((0:Int)≤ -1)=false:=by decide
  rw [e]
  split <;> (rw [D6]; rfl)
 have loop:∀ (post pre:List Core) (n j:Nat),c.kids=pre++post→16*Core.nodess post+2≤n→j≤Big→CU n c j (pre.length:Int)=some (szr (Core.nodess post) j):=by
  intro post
  induction post with
  |nil=>
   intro pre n j h p _
   obtain⟨n,rfl⟩:∃m,n=m+1:=⟨n - 1,by omega⟩
   obtain⟨n,rfl⟩:∃m,n=m+1:=⟨n - 1,by omega⟩
   rw [CU,Al h,if_neg (by simp),D6]
   simp [Core.nodess,szr]
  | cons x post ihp=>
   intro pre n j h p h3
   rw [Core.nodess] at p ⊢
   have hp:=x.nodes_pos
   obtain⟨n,rfl⟩:∃m,n=m+1:=⟨n - 1,by omega⟩
   obtain⟨n,rfl⟩:∃m,n=m+1:=⟨n - 1,by omega⟩
   have hx:x ∈ c.kids:=by rw [h]; simp
   rw [CU,if_pos (Ah h),D6,if_pos (by simp),AU h,AA,q x hx (u x hx) j n h3 (by omega),AA,AN h hk]
   by_cases h5:x.nodes≤j
   ·rw [U1 h5,ihp (pre++[x]) n (j - x.nodes) (AM h) (by omega) (by omega)]
    congr 1
    unfold szr
    by_cases h6:Core.nodess post≤j - x.nodes
    ·rw [if_pos h6,if_pos (by omega)]; congr 1; omega
    ·rw [if_neg h6,if_neg (by omega)]
   ·rw [LW (by omega),stop _ _ (by omega),LW (by omega)]
 by_cases h0:left=0
 ·subst h0
  have:=stop (n+1) [] (by omega)
  refine this.trans ?_
  rw [LW (by omega)]
 ·have:=loop c.kids [] (n+1) (left - 1) (by simp) (by omega) (by omega)
  rw [show ((left:Int) - 1)=((left - 1:Nat):Int) from by omega]
  refine this.trans ?_
  congr 1
  unfold szr
  by_cases h6:Core.nodess c.kids≤left - 1
  ·rw [if_pos h6,if_pos (by omega)]; congr 1; omega
  ·rw [if_neg h6,if_neg (by omega)]
theorem NW {l:List Core} {i:Nat} (h:i<l.length):at? l (i:Int)=some (kidC l i):=by
 grind [at?,kidC]
theorem F1 {l:List Core} (h:0<l.length):at? l 0=some (kidC l 0):=NW (i:=0) h
theorem K3 {l:List Core} (h:1<l.length):at? l 1=some (kidC l 1):=NW (i:=1) h
theorem eD {l:List Core} {n:Int} (h0:0≤n) (h:n<(l.length:Int)):at? l n=some (kidC l n.toNat):=by
 grind [NW]
theorem NX {l:List Int} {n:Int} (h0:0≤n) (h:n<(l.length:Int)):at? l n=some (l.getD n.toNat 0):=by
 grind [at?]
theorem Pv {c:Core} (hno:A1 c=true) (hk:actK c.kind):0<c.kids.length:=by
 have j:=FN hno
 rcases hk with k|k|k|k
 ·omega
 ·omega
 ·omega
 omega
theorem Nt (c:Core) (hno:A1 c=true):Gp c=some (rk c):=by
 unfold Gp
 by_cases hk:actK c.kind
 ·have j:=Pv hno hk
  have p:=FN hno
  rw [decide_eq_false (by omega),if_neg (by simp),F1 j,AA]
  rcases hk with hk|hk|hk|hk
  ·rw [jj hk,K3 (by omega),AA]
   generalize kidC c.kids 0=f
   generalize kidC c.kids 1=a
   by_cases h1:f.kind=2 <;> by_cases h2:a.kind=2 <;> by_cases h3:f.kind=11 <;> by_cases h4:a.kind=11 <;> simp [hk,h1,h2,h3,h4,Fp,Ea] <;> omega
  ·rw [ji hk]
   generalize kidC c.kids 0=f
   by_cases h1:f.kind=4 <;> by_cases h2:f.kind=11 <;> simp [hk,h1,h2] <;> omega
  ·rw [jk hk]
   generalize kidC c.kids 0=f
   by_cases h1:f.kind=8 <;> by_cases h2:f.kind=11 <;> by_cases h3:f.value<(c.data.length:Int) <;> simp [hk,h1,h2,h3,Eb,DW,DV] <;> omega
  grind [d9,Eb,DW,DV]
 ·have h0:rk c=0:=by
   rcases Classical.em (rk c=0) with h0|h0
   ·exact h0
   ·exact absurd (rk_kind h0) hk
  rw [h0]
  unfold actK at hk
  by_cases hz:(c.kids.length:Int)=0
  ·rw [decide_eq_true hz,if_pos rfl]
  ·rw [decide_eq_false hz,if_neg (by simp),F1 (by omega),AA,decide_eq_false (by omega),if_neg (by simp),decide_eq_false (by omega),if_neg (by simp),decide_eq_false (by omega),if_neg (by simp),decide_eq_false (by omega)]
   rfl
theorem Zz (c:Core) (hno:A1 c=true):I0 c=some (rk c):=by
 grind [I0,FN,F1,K3,kidC,G7,rk]
def W32 (x:Int):Int:=IntKind.i64.wrap (IntKind.i32.wrap x)
theorem sU (x:Int):IntKind.i32.wrap (IntKind.u32.wrap (IntKind.u64.wrap x))=IntKind.i32.wrap x:=by
 have e:∀y,IntKind.i32.wrap y=if 2147483648≤y % 4294967296 then y % 4294967296 - 4294967296 else y % 4294967296:=fun y=>by
  simp [IntKind.wrap,IntKind.bits,IntKind.signed]
 have p:∀y,IntKind.u32.wrap y=y % 4294967296:=fun y=>by rfl
 have j:∀y,IntKind.u64.wrap y=y % 18446744073709551616:=fun y=>by rfl
 rw [e,e,p,j]
 have:x % 18446744073709551616 % 4294967296 % 4294967296=x % 4294967296:=by omega
 rw [this]
theorem gL (x:Int): -2147483648≤W32 x∧W32 x≤2147483647:=by
 have e:IntKind.i32.wrap x=if 2147483648≤x % 4294967296 then x % 4294967296 - 4294967296 else x % 4294967296:=by
  simp [IntKind.wrap,IntKind.bits,IntKind.signed]
 have h: -2147483648≤IntKind.i32.wrap x∧IntKind.i32.wrap x≤2147483647:=by
  rw [e]; split <;> omega
 grind [W32,w64]
def opF (o a b:Int):Int:=
 if o=1 then W32 (IntKind.i64.wrap (W32 a+W32 b)) else if o=2 then W32 (IntKind.i64.wrap (W32 a - W32 b)) else if o=3 then W32 (IntKind.i64.wrap (W32 a*W32 b))
 else if o=4 then (if W32 b=0 then 0 else W32 (IntKind.i64.wrap (Int.tdiv (W32 a) (W32 b)))) else if o=5 then (if W32 a<W32 b then 1 else 0) else if o=6 then (if W32 a=W32 b then 1 else 0) else 0
theorem gD (o a b:Int): -2147483648≤opF o a b∧opF o a b≤2147483647:=by
 have h:=gL
 grind [opF]
theorem Z9 (o a b:Int):Kj o a b=some (opF o a b):=by
 grind [Kj,G6,F8,opF,W32,nz?]
theorem Zy (o a b:Int):I1 o a b=some (opF o a b):=by
 unfold I1 G8 Kl opF
 grind [sU,W32,nz?]
theorem Jj (f:Core):(⟨f.kind,f.value,f.data,f.kids⟩:Core)=f:=by cases f; rfl
theorem cQ (d:Int) (l:List Core) (hl:l.length≤Big):Ml d l=some (LX d l):=by
 unfold Ml Hv LX
 rw [AA]
 have loop:∀ (post pre:List Core) (n:Nat) (f:Core),l=pre++post→post.length<n→En n l f.kind f.value f.data f.kids (pre.length:Int)=some (post.foldl appC f):=by
  intro post
  induction post with
  |nil=>
   intro pre n f h j
   obtain⟨n,rfl⟩:∃m,n=m+1:=⟨n - 1,by omega⟩
   rw [En,Al h,if_neg (by simp),Jj]; rfl
  |cons x post ih=>
   intro pre n f h j
   rw [List.length_cons] at j
   obtain⟨n,rfl⟩:∃m,n=m+1:=⟨n - 1,by omega⟩
   rw [En,if_pos (Ah h),AU h,AA]
   unfold NR
   rw [AA,AN h hl,Jj]
   exact ih (pre++[x]) n (appC f x) (AM h) (by omega)
 exact loop l [] fuel (Vr d) rfl (by rw [Af]; grind)
theorem X4 (l:List Core) (hl:l.length≤Big) (d:Int):B6 fuel l 11 d [] [] 0=some (LX d l):=by
 unfold LX
 have loop:∀ (post pre:List Core) (n:Nat) (f:Core),l=pre++post→post.length<n→B6 n l f.kind f.value f.data f.kids (pre.length:Int)=some (post.foldl appC f):=by
  intro post
  induction post with
  |nil=>
   intro pre n f h j
   obtain⟨n,rfl⟩:∃m,n=m+1:=⟨n - 1,by omega⟩
   rw [B6,Al h,if_neg (by simp),Jj]; rfl
  |cons x post ih=>
   intro pre n f h j
   rw [List.length_cons] at j
   obtain⟨n,rfl⟩:∃m,n=m+1:=⟨n - 1,by omega⟩
   rw [B6,if_pos (Ah h),AU h,AA]
   unfold Xu Xt
   rw [AA,AA,AN h hl,Jj]
   exact ih (pre++[x]) n (appC f x) (AM h) (by omega)
 exact loop l [] fuel (Vr d) rfl (by rw [Af]; grind)
section
variable {E:Env} {c:Core} {l:List Core}
theorem jW (h:rk c=1):dvN E c true l=(kidC (kidC l 0).kids 0).mv (putF (kidC l 1)) 0:=by
 unfold dvN; rw [if_pos ⟨rfl,h⟩]
theorem jX (h:rk c=2):dvN E c true l=⟨2,E.op c.value (kidC c.kids 0).value (kidC c.kids 1).value,[],[]⟩:=by
 unfold dvN; rw [if_neg (fun j=>by omega),if_pos ⟨rfl,h⟩]
theorem jY (h:rk c=3):dvN E c true l=(if c.kind=9 then LX (c.data.getD (kidC c.kids 0).value.toNat 0) (kidC l 0).kids else Vr (if (kidC c.kids 0).value =0 then c.data.getD 1 0 else c.data.getD 0 0)):=by
 unfold dvN; rw [if_neg (fun j=>by omega),if_neg (fun j=>by omega),if_pos ⟨rfl,h⟩]
theorem jZ (h:rk c=4):dvN E c true l=⟨c.kind,c.value,c.data,l.set (atC c) (kidC E.defs (kidC c.kids (atC c)).value.toNat)⟩:=by
 unfold dvN; rw [if_neg (fun j=>by omega),if_neg (fun j=>by omega),if_neg (fun j=>by omega),if_pos ⟨rfl,h⟩]
theorem Zx {m:Bool} (h:¬ (m=true∧rk c≠0)):dvN E c m l=⟨c.kind,c.value,c.data,l⟩:=by
 have k:∀z:Int,z≠0→¬ (m=true∧rk c=z):=fun z hz j=>h ⟨j.1,by rw [j.2]; exact hz⟩
 unfold dvN; rw [if_neg (k 1 (by omega)),if_neg (k 2 (by omega)),if_neg (k 3 (by omega)),if_neg (k 4 (by omega))]
end
theorem U2 (b:Bool):F8 b=some (if b=true then 1 else 0):=by
 unfold F8
 cases b <;> rfl
section
variable {defs:List Core} {b:Book} (hb:b.defs=defs)
include hb
theorem X3 (hE:EnvOk ⟨defs,opF⟩) (c:Core) (hw:c.wf=true) (hn:∀x ∈ c.kids,x.kind=11→x.value<(defs.length:Int)) (l:List Core) (hlen:l.length=c.kids.length) (hfit:∀x ∈ l,x.wf=true∧x.fit=true) (hkept:mT c l) (hr:rk c≠0):
  JU b (rk c) ⟨c.kind,c.value,c.data,l⟩=some (dvN ⟨defs,opF⟩ c true l):=by
 obtain⟨u,O⟩:=AX hw
 have G:=FN u
 have v:actK c.kind:=rk_kind hr
 have h0:=Pv u v
 have p:at? l 0=some (kidC l 0):=F1 (by omega)
 obtain⟨w0,f0⟩:=hfit _ (B1 (show 0<l.length by omega))
 unfold Core.fit at f0
 simp at f0
 have s0:=D8 _ w0 (by unfold Big; omega)
 obtain⟨-,-,hk0,U⟩:=s0
 unfold JU
 dsimp only
 rcases rk_cases c with k|⟨k,k1,k2⟩|⟨k,k1,k2,k3⟩|⟨k,k1⟩|⟨k,k1,k2⟩
 ·exact absurd k hr
 ·have h2:=G.1 (.inr k1)
  have F:at? l 1=some (kidC l 1):=K3 (by omega)
  obtain⟨w1,f1⟩:=hfit _ (B1 (show 1<l.length by omega))
  unfold Core.fit at f1
  simp at f1
  have hk4:(kidC l 0).kind =4:=(hkept 0 (by omega) (H8 (by omega))).1.trans k2
  obtain⟨no0,wk0⟩:=AX w0
  have hl0':=(FN no0).2.1 (.inl hk4)
  have j:kidC (kidC l 0).kids 0 ∈ (kidC l 0).kids :=B1 (by omega)
  have wb:=Bg j wk0
  have hnb:=Gd j
  have hn0:=f0.2
  rw [Core.nodes_eq] at hn0
  rw [jW k,k,decide_eq_true rfl,if_pos rfl,p,AA,F1 (by omega),AA,F,AA,RH _ _ (U _ j) wb (by unfold Big; omega) (D8 _ w1 (by unfold Big; omega)) w1 (by unfold Big; omega),AA]
 ·have h2:=G.1 (.inl k1)
  have F:at? l 1=some (kidC l 1):=K3 (by omega)
  have e0:=(hkept 0 (by omega) (H8 (by omega))).2
  have e1:=(hkept 1 (by omega) (H8 (by omega))).2
  rw [jX k,k,decide_eq_false (by omega),if_neg (by simp),decide_eq_true rfl,if_pos rfl,p,AA,F,AA,Z9,AA,e0,e1]
  rfl
 ·have e0:=(hkept 0 (by omega) (H8 (by omega))).2
  rw [jY k,k,decide_eq_false (by omega),if_neg (by simp),decide_eq_false (by omega),if_neg (by simp),decide_eq_true rfl,if_pos rfl,p]
  obtain⟨hdat,J⟩:=RI u
  rcases k1 with ⟨k1,k2,k3⟩|⟨k1,k2⟩
  ·have C:=Ji (AX (Bg (B1 h0) O)).1 (.inl k2)
   rw [decide_eq_true k1,if_pos rfl,if_pos k1,AA,e0,NX C k3,AA,AA,cQ _ _ hk0,AA]
  ·have h2':=J k1
   have a0:at? c.data 0=some (c.data.getD 0 0):=NX (n:=0) (by omega) (by omega)
   have a1:at? c.data 1=some (c.data.getD 1 0):=NX (n:=1) (by omega) (by omega)
   have h9:¬c.kind=9:=by omega
   rw [decide_eq_false h9,if_neg (by simp),if_neg h9,AA,U2,AA,e0]
   by_cases hz:(kidC c.kids 0).value =0
   ·rw [decide_eq_true hz,if_pos rfl,if_pos hz,a1,AA]; rfl
   ·rw [decide_eq_false hz,if_neg (by simp),if_neg hz,a0,AA]; rfl
 ·obtain⟨I,Y⟩:=mL k u
  have j:=B1 Y
  have hv:=hn _ j I
  have C:=Ji (AX (Bg j O)).1 (.inr I)
  have eA:=(hkept (atC c) Y (H8 (by omega))).2
  have hll:l.length≤Big:=by
   rcases v with q|q|q|q
   ·have:=G.1 (.inl q); unfold Big; omega
   ·have:=G.1 (.inr q); unfold Big; omega
   ·have:=G.2.1 (.inr (.inl q)); unfold Big; omega
   ·have:=G.2.1 (.inr (.inr q)); unfold Big; omega
  have W:(if (!decide ((kidC l 0).kind =11))=true then (1:Int) else 0)=((atC c:Nat):Int):=by
   unfold atC
   rcases k2 with k2|⟨-,k3,-⟩
   ·have:=(hkept 0 h0 (H8 (by omega))).1
    rw [this]; simp [k2]
   ·have:=(hkept 0 h0 (H8 (by omega))).1
    rw [this]; simp [k3]
  rw [jZ k,k,decide_eq_false (by omega),if_neg (by simp),decide_eq_false (by omega),if_neg (by simp),decide_eq_false (by omega),if_neg (by simp)]
  unfold Ez
  rw [A0 (by simpa using hll),AA,AA,p,AA,U2,AA,W,List.nil_append,NW (l:=l) (i:=atC c) (by omega),AA,eA,hb,eD C hv,AA,AA]
  rfl
theorem cL (c:Core) (hw:c.wf=true) (hn:∀x ∈ c.kids,x.kind=11→x.value<(defs.length:Int)) (l:List Core) (hlen:l.length=c.kids.length) (hr:rk c=4):
  Gs b c l=some (dvN ⟨defs,opF⟩ c true l):=by
 obtain⟨u,F⟩:=AX hw
 have J:=FN u
 have j:actK c.kind:=rk_kind (c:=c) (by omega)
 have h0:=Pv u j
 obtain⟨v,C⟩:=mL hr u
 have p:=B1 C
 have hv:=hn _ p v
 have G:=Ji (AX (Bg p F)).1 (.inr v)
 have I:l.length≤Big:=by
  rcases j with q|q|q|q
  ·grind
  ·grind
  ·grind
  grind
 have O:Ed b c l ((atC c:Nat):Int)=some (dvN ⟨defs,opF⟩ c true l):=by
  unfold Ed
  rw [jZ hr,NW C,AA,hb,eD G hv,AA,NW (by omega),AA]
  rfl
 grind [Gs,A0,F1,atC]
omit hb in
theorem cK (c:Core) (hw:c.wf=true) (l:List Core) (hlen:l.length=c.kids.length) (hk0:(kidC l 0).kids.length ≤Big) (hr:rk c=3):
  Gr c (kidC l 0).kids =some (dvN ⟨defs,opF⟩ c true l):=by
 obtain⟨q,u⟩:=AX hw
 have j:actK c.kind:=rk_kind (c:=c) (by omega)
 have h0:=Pv q j
 obtain⟨C,p⟩:=RI q
 unfold Gr RB
 rw [jY hr,F1 h0]
 rcases rk_3 hr with ⟨k1,k2,k3⟩|⟨k1,k2⟩
 ·have v:=Ji (AX (Bg (B1 h0) u)).1 (.inl k2)
  rw [decide_eq_false (by omega),if_neg (by simp),if_pos k1,AA,NX v k3,AA,AA,X4 _ hk0]
 ·have I:=p k1
  have G:at? c.data 0=some (c.data.getD 0 0):=NX (n:=0) (by omega) (by omega)
  have F:at? c.data 1=some (c.data.getD 1 0):=NX (n:=1) (by omega) (by omega)
  rw [decide_eq_true k1,if_pos rfl,if_neg (show ¬c.kind=9 by omega),AA]
  by_cases hz:(kidC c.kids 0).value =0
  ·rw [decide_eq_true hz,Bool.not_true,if_neg (by simp),if_pos hz,F,AA]; rfl
  ·rw [decide_eq_false hz,Bool.not_false,if_pos rfl,if_neg hz,G,AA]; rfl
end
end Go.Proofs.YtjnifengdhcojaaGreatDoor.Ab
