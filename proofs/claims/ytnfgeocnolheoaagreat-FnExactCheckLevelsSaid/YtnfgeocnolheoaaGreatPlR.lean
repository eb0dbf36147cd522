/-
  Datas that are in order: both sides. No program is in sight.
-/
import Derived.Test.YtnfgeocnolheoaaGreatPlW
namespace Go.Proofs.YtnfgeocnolheoaaGreat.Ab
set_option linter.unusedVariables false
set_option maxHeartbeats 1000000
set_option linter.unusedSimpArgs false
open Go.RowKit
def allp {α:Type} (okp:List α→α→Bool):List α→List α→Bool
 |_,[] =>true
 |pre,x::l=>okp pre x&&allp okp (pre++[x]) l
theorem Wz {α:Type} (okp:List α→α→Bool) (x:α):∀ (pre q:List α),allp okp q (pre++[x])=(allp okp q pre&&okp (q++pre) x)
 | [],q=>by simp [allp]
 |y::pre,q=>by simp only [List.cons_append,allp,Wz okp x pre]; simp [Bool.and_assoc]
theorem Ky {α:Type} {okp:List α→α→Bool} {x:α}:∀ {l q:List α},allp okp q l=true→x ∈ l→∃p,okp p x=true
 |y::l,q,h,hx=>by
  simp only [allp,Bool.and_eq_true] at h
  rcases List.mem_cons.1 hx with rfl|hx
  ·grind
  ·exact Ky h.2 hx
theorem Dc {α σ ρ:Type} {L:Nat→σ→Int→Option ρ} (l:List α) (c K:Nat) (S:List α→σ) (okp:List α→α→Bool) (bad e:Option ρ)
  (hs:∀N R pre x post,l=pre++x::post→allp okp [] pre=true→K≤N→(okp pre x=true→∀m,N≤m→L m (S (pre++[x])) ((List.length (pre++[x]):Nat):Int)=R)→∀m,N+c≤m→L m (S pre) (pre.length:Int)=if okp pre x=true then R else bad)
  (he:allp okp [] l=true→∀m,K≤m→L m (S l) (l.length:Int)=e)
  (m:Nat) (hm:K+c*l.length≤m):L m (S []) 0=if allp okp [] l=true then e else bad:=by
 have key:∀ (post pre:List α),l=pre++post→allp okp [] pre=true→∀m,K+c*post.length≤m→L m (S pre) (pre.length:Int)=if allp okp pre post=true then e else bad:=by
  intro post
  induction post with
  |nil=>
   grind [allp]
  |cons x post ih=>
   intro pre h hp m hm
   rw [List.length_cons,Nat.mul_add,Nat.mul_one] at hm
   rw [hs (K+c*post.length) (if allp okp (pre++[x]) post=true then e else bad) pre x post h hp (by omega) (fun hx m hm=>ih (pre++[x]) (by rw [h]; simp) (by rw [Wz,hp,List.nil_append,hx]; rfl) m hm) m (by omega),allp]
   cases okp pre x <;> simp
 exact key l [] rfl rfl m hm
theorem VB {α:Type} (p:α→Bool) (x:α) (post:List α) (hx:p x=true):∀pre:List α,idx p (pre++x::post)=if pre.any p=true then idx p pre else (pre.length:Int)
 | [] =>by simp [idx,hx]
 | y::pre=>by
  simp only [List.cons_append,idx,List.any_cons,VB p x post hx pre,List.length_cons]
  have hg:=Mh p pre
  by_cases hy:p y=true
  ·simp [hy]
  ·simp only [hy,Bool.false_eq_true,if_false,Bool.false_or]
   by_cases ha:pre.any p=true
   ·simp only [ha,if_true]
   ·simp only [ha,if_false,Bool.false_eq_true]
    rw [if_neg (by omega)]; simp
theorem UZ {α:Type} {p:α→Bool} {x:α} {l pre post:List α} (h:l=pre++x::post) (hx:p x=true):decide (idx p l=(pre.length:Int))= !pre.any p:=by
 rw [h,VB p x post hx]
 have hg:=Mh p pre
 grind
theorem VG {α:Type} {x:α} {l pre post:List α} (h:l=pre++x::post):cutL l 0 (pre.length:Int)=some pre:=by
 rw [cutL,if_pos ⟨by decide,by omega,by rw [h]; grind⟩,h]; simp
theorem Ub {β:Type} (k k':ByteArray) (v:β):∀m:List (ByteArray × β),Gy (Gz m k v) k'=if sameStr k' k=true then some v else Gy m k'
 | [] =>by rfl
 | p::m=>by
  rw [Gz]
  by_cases h:sameStr k p.1 =true
  ·rw [if_pos h,Gy,Gy]
   rw [C2] at h
   rw [h]
   by_cases h2:sameStr k' p.1 =true <;> simp [h2]
  ·rw [if_neg h,Gy,Gy,Ub k k' v m]
   by_cases h2:sameStr k' p.1 =true
   ·rw [if_pos h2,if_neg]
    ·rw [if_pos h2]
    ·intro h3; rw [C2] at h2 h3; rw [← h3,h2,Bj] at h; exact h rfl
   ·rw [if_neg h2,if_neg h2]
def mpS (l:List ByteArray):List (ByteArray × Bool):=l.foldl (fun m k=>Gz m k true) []
theorem gP (l:List ByteArray) (x:ByteArray):mpS (l++[x])=Gz (mpS l) x true:=by simp [mpS]
theorem Sv {β:Type} (k:ByteArray) (v:β):∀m:List (ByteArray × β),(Gz m k v).length ≤m.length+1
 | [] =>by simp [Gz]
 |p::m=>by
  have:=Sv k v m
  rw [Gz]; split <;> simp; omega
theorem Ng (k:ByteArray):∀ (l:List ByteArray) (m:List (ByteArray × Bool)),(Gy (l.foldl (fun m k=>Gz m k true) m) k).getD false=(l.any (fun s=>sameStr s k)||(Gy m k).getD false)
 | [],m=>by simp
 |x::l,m=>by
  rw [List.foldl_cons,Ng k l,Ub,List.any_cons,I3 k x]
  cases sameStr x k <;> simp
theorem gQ (k:ByteArray) (l:List ByteArray):(Gy (mpS l) k).getD false=l.any fun s=>sameStr s k:=by
 rw [mpS,Ng]; simp [Gy]
theorem Nh:∀ (l:List ByteArray) (m:List (ByteArray × Bool)),(l.foldl (fun m k=>Gz m k true) m).length ≤l.length+m.length
 | [],m=>by simp
 |x::l,m=>by
  have h1:=Nh l (Gz m x true)
  have h2:=Sv x true m
  rw [List.foldl_cons,List.length_cons]; omega
theorem gR (l:List ByteArray):(mpS l).length ≤l.length:=by grind [Nh,mpS]
def CQ (l:List Data):List ByteArray:=l.flatMap fun d=>d.cons.map Constructor.name
def okc (l:List Data) (seen:List ByteArray) (pc:List Constructor) (c:Constructor):Bool:=conB l c&& !((seen++pc.map Constructor.name).any fun s=>sameStr s c.name)
def okd (l:List Data) (pre:List Data) (d:Data):Bool:=upB d.name&& !Me d.name&& !dHas pre d.name&&decide (1≤d.cons.length)&&decide (d.cons.length≤4)&&allp (okc l (CQ pre)) [] d.cons
def Il (l:List Data):Bool:=decide (l.length≤4)&&allp (okd l) [] l
theorem LU (l:List Data) (d:Data):CQ (l++[d])=CQ l++d.cons.map Constructor.name:=by simp [CQ]
theorem PF {l0:List Data} {l:List Data} (h:∀d ∈ l,d.cons.length≤4):(CQ l).length ≤4*l.length:=by
 induction l with
 |nil=>simp [CQ]
 |cons d l ih=>
  grind [CQ]
theorem U5 {l pre:List Data} {d:Data} (h:okd l pre d=true):1≤d.cons.length∧d.cons.length≤4:=by
 grind [okd]
theorem jd (a0:List Data) (i:Int) (d:Data) (seen:List ByteArray) (hseen:seen.length+1≤Big) (pc:List Constructor) (c:Constructor) (qc:List Constructor) (hc:d.cons=pc++c::qc) (hcl:d.cons.length≤Big) (R:Option Bool) (N:Nat)
  (hk:(seen.any fun s=>sameStr s c.name)=false→∀m,N≤m→B8 m a0 i d (seen++[c.name]) ((List.length (pc++[c]):Nat):Int)=R) (m:Nat) (hm:N+seen.length+1≤m):
  Cm m a0 i seen (pc.length:Int) d 0=if (seen.any fun s=>sameStr s c.name)=true then some false else R:=by
 have:=K3 (L:=fun n (_:Unit) k=>Cm n a0 i seen (pc.length:Int) d k) seen 1 N (fun _=>()) (fun s=> !sameStr s c.name) (some false) R m (fun n pre x post hh hp hn=>by
   show Cm (n+1) _ _ _ _ _ _=_
   rw [Cm,if_pos (Ah hh),AY hh,AA,AY hc,AA,AP hh (by omega)]
   cases sameStr x c.name <;> simp) (fun n hp hn=>by
   show Cm (n+1) _ _ _ _ _ _=_
   rw [Cm,if_neg (by simp),AY hc,AA,DC (by omega),AA,AP hc hcl,hk (by rw [List.any_eq_false]; grind) n hn]) (by omega)
 refine Eq.trans this ?_
 have h2:seen.all (fun s=> !sameStr s c.name)= !(seen.any fun s=>sameStr s c.name):=by rw [List.all_eq_not_any_not]; simp
 rw [h2]
 cases seen.any fun s=>sameStr s c.name <;> simp
theorem W0 (a0:List Data) (hl:a0.length≤Big) (i:Int) (d:Data) (hd:d.sz≤Big) (seen:List ByteArray) (hseen:seen.length+d.cons.length≤20) (R:Option Bool) (N:Nat)
  (hk:allp (okc a0 seen) [] d.cons=true→∀m,N≤m→CS m a0 (seen++d.cons.map Constructor.name) (IntKind.i64.wrap (i+1))=R) (m:Nat) (hm:N+1+24*d.cons.length≤m):
  B8 m a0 i d seen 0=if allp (okc a0 seen) [] d.cons=true then R else some false:=by
 have hsz:=hd
 unfold Data.sz at hsz
 have hB:Big=4294967296:=rfl
 have:=Dc (L:=fun n (s:List ByteArray) k=>B8 n a0 i d s k) d.cons 24 (N+1) (fun pc=>seen++pc.map Constructor.name) (okc a0 seen) (some false) R (fun N' R' pc c qc hh hp hN hR m hm=>by
   have hpl:pc.length+1≤d.cons.length:=by rw [hh]; simp
   obtain⟨m,rfl⟩:∃k,m=k+1:=⟨m - 1,by omega⟩
   show B8 (m+1) _ _ _ _ _=_
   have hcs:=Ac (s:=Constructor.sz) (BE hh)
   rw [B8,if_pos (Ah hh),AY hh,AA,an a0 hl c (by omega),AA]
   cases hcb:conB a0 c with
   |false=>simp [okc,hcb]
   | true=>
    simp only [Bool.not_true,Bool.false_eq_true,if_false]
    rw [jd a0 i d (seen++pc.map Constructor.name) (by grind) pc c qc hh (by omega) R' N' (fun hso m hm=>by
     grind [okc]) m (by grind),okc,hcb]
    cases (seen++pc.map Constructor.name).any fun s=>sameStr s c.name <;> simp)
  (fun ha m hm=>by
   obtain⟨m,rfl⟩:∃k,m=k+1:=⟨m - 1,by omega⟩
   show B8 (m+1) _ _ _ _ _=_
   rw [B8,if_neg (by simp),hk ha m (by omega)]) m hm
 grind
theorem gN (l:List Data) (hz:szl Data.sz l≤Big):O7 l=some (Il l):=by
 unfold O7 Il
 have hB:Big=4294967296:=rfl
 have hlen:=AZ Data.sz l
 by_cases h4:4<l.length
 ·rw [if_pos (by grind)]; grind
 ·rw [if_neg (by grind),show decide (l.length≤4)=true from by grind,Bool.true_and]
  have :=Dc (L:=fun n (s:List ByteArray) k=>CS n l s k) l 130 1 (fun pre=>CQ pre) (okd l) (some false) (some true) (fun N R pre d post hh hp hN hR m hm=>by
    obtain⟨m,rfl⟩:∃k,m=k+2:=⟨m - 2,by omega⟩
    have hds:=Ac (s:=Data.sz) (BE hh)
    have hpl:pre.length+1≤l.length:=by rw [hh]; simp
    have hn4:∀y ∈ pre,y.cons.length≤4:=fun y hy=>by
     obtain⟨q,hq⟩:=Ky hp hy
     grind [U5]
    have hnl:=PF (l0:=l) hn4
    show CS (m+2) _ _ _=_
    rw [CS,if_pos (Ah hh),AY hh,AA,I4,AA,Ni l _ (by omega),AA]
    simp only [Di]
    have hfi:decide (dIdx l d.name=(pre.length:Int))= !dHas pre d.name:=UZ hh (Bj _)
    rw [hfi]
    have hint:sameStr d.name (ByteArray.mk #[73,110,116])=Me d.name:=rfl
    rw [hint]
    have hc1:decide ((d.cons.length:Int)<1)= !decide (1≤d.cons.length):=by rw [← decide_not]; grind
    have hc2:decide ((4:Int)<(d.cons.length:Int))= !decide (d.cons.length≤4):=by rw [← decide_not]; grind
    rw [hc1,hc2]
    have hloop:d.cons.length≤4→okd l pre d=allp (okc l (CQ pre)) [] d.cons→B8 m l (pre.length:Int) d (CQ pre) 0=if okd l pre d=true then R else some false:=fun h hok=>by
     rw [hok]
     exact W0 l (by omega) _ d (by omega) (CQ pre) (by omega) R N (fun ha m hm=>by
       rw [AP hh (by omega),← LU]; grind) m (by omega)
    grind [okd])
   (fun _ m hm=>by
    obtain⟨m,rfl⟩:∃k,m=k+1:=⟨m - 1,by omega⟩
    grind [CS]) fuel (A3 (by omega))
  have h0:CS fuel l [] 0=_:=this
  rw [h0]
  cases allp (okd l) [] l <;> simp
theorem W1 (a0:List Data) (hl:a0.length≤Big) (i:Int) (d:Data) (hd:d.sz≤Big) (seen:List ByteArray) (hseen:seen.length+d.cons.length≤20) (R:Option Bool) (N:Nat)
  (hk:allp (okc a0 seen) [] d.cons=true→∀m,N≤m→BJ m a0 (mpS (seen++d.cons.map Constructor.name)) (IntKind.i64.wrap (i+1))=R) (m:Nat) (hm:N+1+2*d.cons.length≤m):
  BK m a0 i d (mpS seen) 0=if allp (okc a0 seen) [] d.cons=true then R else some false:=by
 have hsz:=hd
 unfold Data.sz at hsz
 have hB:Big=4294967296:=rfl
 have:=Dc (L:=fun n (s:List (ByteArray × Bool)) k=>BK n a0 i d s k) d.cons 2 (N+1) (fun pc=>mpS (seen++pc.map Constructor.name)) (okc a0 seen) (some false) R (fun N' R' pc c qc hh hp hN hR m hm=>by
   have hpl:pc.length+1≤d.cons.length:=by rw [hh]; simp
   obtain⟨m,rfl⟩:∃k,m=k+2:=⟨m - 2,by omega⟩
   show BK (m+2) _ _ _ _ _=_
   have hcs:=Ac (s:=Constructor.sz) (BE hh)
   rw [BK,if_pos (Ah hh),AY hh,AA,aq a0 hl c (by omega),AA]
   grind [gR,D0,U1,gP,gQ,AP,okc])
  (fun ha m hm=>by
   obtain⟨m,rfl⟩:∃k,m=k+1:=⟨m - 1,by omega⟩
   show BK (m+1) _ _ _ _ _=_
   rw [BK,if_neg (by simp),hk ha m (by omega)]) m hm
 grind
theorem gO (l:List Data) (hz:szl Data.sz l≤Big):HW l=some (Il l):=by
 unfold HW Il
 have hB:Big=4294967296:=rfl
 have hlen:=AZ Data.sz l
 by_cases h4:4<l.length
 ·rw [if_pos (by grind)]; grind
 ·rw [if_neg (by grind),show decide (l.length≤4)=true from by grind,Bool.true_and]
  have :=Dc (L:=fun n (s:List (ByteArray × Bool)) k=>BJ n l s k) l 30 1 (fun pre=>mpS (CQ pre)) (okd l) (some false) (some true) (fun N R pre d post hh hp hN hR m hm=>by
    obtain⟨m,rfl⟩:∃k,m=k+2:=⟨m - 2,by omega⟩
    have hds:=Ac (s:=Data.sz) (BE hh)
    have hpl:pre.length+1≤l.length:=by rw [hh]; simp
    have hn4:∀y ∈ pre,y.cons.length≤4:=fun y hy=>by
     obtain⟨q,hq⟩:=Ky hp hy
     grind [U5]
    have hnl:=PF (l0:=l) hn4
    show BJ (m+2) _ _ _=_
    rw [BJ,if_pos (Ah hh),AY hh,AA,I5,AA,VG hh,AA,Nj pre _ (by omega),AA,W2]
    simp only [B9]
    have hint:sameStr d.name (ByteArray.mk #[73,110,116])=Me d.name:=rfl
    rw [hint]
    have hc1:decide ((d.cons.length:Int)<1)= !decide (1≤d.cons.length):=by rw [← decide_not]; grind
    have hc2:decide ((4:Int)<(d.cons.length:Int))= !decide (d.cons.length≤4):=by rw [← decide_not]; grind
    rw [hc1,hc2]
    have hloop:d.cons.length≤4→okd l pre d=allp (okc l (CQ pre)) [] d.cons→BK m l (pre.length:Int) d (mpS (CQ pre)) 0=if okd l pre d=true then R else some false:=fun h hok=>by
     rw [hok]
     exact W1 l (by omega) _ d (by omega) (CQ pre) (by omega) R N (fun ha m hm=>by
       rw [AP hh (by omega),← LU]; grind) m (by omega)
    grind [okd])
   (fun _ m hm=>by
    obtain⟨m,rfl⟩:∃k,m=k+1:=⟨m - 1,by omega⟩
    grind [BJ]) fuel (A3 (by omega))
  have h0:BJ fuel l [] 0=_:=this
  rw [h0]
  cases allp (okd l) [] l <;> simp
noncomputable instance:DecidableEq TType:=fun a b=>Classical.propDecidable (a=b)
theorem Sw (l m:List TType) (h:l.length=m.length) (hl:l.length≤Big) (f:TType→TType→Option Bool) (hf:∀x ∈ l,∀y,f x y=some (decide (x=y))) (L:Nat→Int→Option Bool) (n K:Nat)
  (hL:∀n i,K≤n→L (n+1) i=(if (decide (i<(l.length:Int)))=true then ((at? l i).bind fun x=>(at? m i).bind fun y=>(f x y).bind fun b=>if (!b)=true then some false else L n (IntKind.i64.wrap (i+1))) else some true)) (hn:K+l.length+1≤n):
  L n 0=some (decide (l=m)):=by
 have key:∀ (p q pre pre':List TType) (n:Nat),l=pre++p→m=pre'++q→pre.length=pre'.length→K+p.length+1≤n→L n (pre.length:Int)=some (decide (p=q)):=by
  intro p
  induction p with
  | nil=>
   intro q pre pre' n h1 h2 h3 hn
   obtain⟨n,rfl⟩:∃m,n=m+1:=⟨n - 1,by omega⟩
   rw [hL n _ (by omega),Hb h1]
   have:q=[] :=by
    rw [h1,h2] at h; simp_all
   grind
  | cons x p ih=>
   intro q pre pre' n h1 h2 h3 hn
   obtain⟨n,rfl⟩:∃m,n=m+1:=⟨n - 1,by omega⟩
   cases q with
   |nil=>rw [h1,h2] at h; grind
   | cons y q=>
    rw [hL n _ (by omega),if_pos (Ah h1),AY h1,AA,h3,AY h2,AA,← h3,hf x (BE h1),AA,AP h1 hl]
    by_cases hxy:x=y
    ·subst hxy
     rw [if_neg (by simp),ih q (pre++[x]) (pre'++[x]) n (by rw [h1]; simp) (by rw [h2]; simp) (by grind) (by grind)]
     simp
    simp_all
 exact key l m [] [] n rfl rfl rfl hn
theorem K0:∀t:TType,t.sz≤Big→∀ (u:TType) (n:Nat),16*t.sz+16≤n→Cw n t u=some (decide (t=u)):=by
 refine TType.ind fun t ih hz u n hn=>?_
 obtain⟨n,rfl⟩:∃m,n=m+2:=⟨n - 2,by omega⟩
 have hsz:=t.sz_eq
 have hlen:=AZ TType.sz t.kids
 have hB:Big=4294967296:=rfl
 have heq:decide (t=u)=decide (t.kind=u.kind∧t.name=u.name∧t.kids=u.kids):=decide_eq_decide.2 (TType.eq_iff t u)
 rw [Cw,heq]
 simp only [EZ]
 by_cases h1:t.kind=u.kind
 ·by_cases h2:t.name=u.name
  ·rw [if_neg (by grind),if_neg (by grind [C2])]
   by_cases h3:t.kids.length=u.kids.length
   ·rw [if_neg (by grind),Sw t.kids u.kids h3 (by omega) (fun x y=>if x ∈ t.kids then Cw (16*szl TType.sz t.kids+8 - 6*t.kids.length) x y else none) (fun x hx y=>by
      have hm2:=Ac (s:=TType.sz) hx
      have hp1:1≤t.kids.length:=List.length_pos_of_mem hx
      show (if x ∈ t.kids then _ else _)=_
      rw [if_pos hx,ih x hx (by omega) y _ (by omega)]) (fun n i=>Ds n t u i) n (16*szl TType.sz t.kids+8 - 6*t.kids.length) (fun m i hm=>by
      show Ds (m+1) t u i=_
      rw [Ds]
      congr 1
      cases ha:at? t.kids i with
      |none=>rfl
      | some x=>
       have hx:x ∈ t.kids:=by
        grind [at?]
       have hm2:=Ac (s:=TType.sz) hx
       have hp1:1≤t.kids.length:=List.length_pos_of_mem hx
       rw [AA,AA]
       congr 1
       funext y
       rw [if_pos hx,ih x hx (by omega) y m (by omega),ih x hx (by omega) y _ (by omega)]) (by omega)]
    grind
   grind
  grind [C2]
 grind
theorem Wl (l m:List TType) (hl:l.length≤Big) (f:TType→TType→Option Bool) (hf:∀x ∈ l,∀y,f x y=some (decide (x=y))):CA l m f=some (decide (l=m)):=by
 unfold CA
 by_cases h3:l.length=m.length
 ·rw [if_neg (by grind)]
  exact Sw l m h3 hl f hf (fun n i=>Be n l m i f) fuel 0 (fun n i _=>rfl) (A3 (by grind))
 ·rw [if_pos (by grind)]
  have:l≠m:=fun h=>h3 (by rw [h])
  grind
theorem H8:∀t:TType,t.sz≤Big→∀ (u:TType) (n:Nat),16*t.sz+16≤n→DA n t u=some (decide (t=u)):=by
 refine TType.ind fun t ih hz u n hn=>?_
 obtain⟨n,rfl⟩:∃m,n=m+1:=⟨n - 1,by omega⟩
 have hsz:=t.sz_eq
 grind [AZ,TType.eq_iff,DA,Wl,Ac,C2]
theorem Si (l m:List TType) (hl:szl TType.sz l≤Big):F6 l m=some (decide (l=m)):=by
 unfold F6
 have hlen:=AZ TType.sz l
 by_cases h3:l.length=m.length
 ·rw [if_neg (by grind)]
  exact Sw l m h3 (by omega) (fun x y=>if x ∈ l then Cw fuel x y else none) (fun x hx y=>by
   grind [Ac,K0,EC]) (fun n i=>CJ n l m i) fuel 0 (fun n i _=>by
   show CJ (n+1) l m i=_
   rw [CJ]
   grind [at?]) (A3 (by grind))
 ·rw [if_pos (by grind)]
  have:l≠m:=fun h=>h3 (by rw [h])
  grind
def Kz {α:Type} (p:α→Bool):List α→Int
 | [] => -1
 |x::r=>if p x=true then (r.length:Int) else Kz p r
def lidx {α:Type} (p:α→Bool) (l:List α):Int:=Kz p l.reverse
theorem W4 {α:Type} (p:α→Bool):∀r:List α,-1≤Kz p r∧Kz p r<r.length∧(Kz p r= -1↔r.any p=false)
 | [] =>by simp [Kz]
 |x::r=>by
  have ih:=W4 p r
  rw [Kz]
  grind
theorem Jc {α:Type} (p:α→Bool) (l:List α):decide (0≤lidx p l)=l.any p:=by
 have:=W4 p l.reverse
 grind [lidx]
theorem Ra (l:List ByteArray) (s:ByteArray) (hl:l.length≤Big):IG l s=some (lidx (fun k=>sameStr k s) l):=by
 unfold IG
 have key:∀ (r post:List ByteArray) (n:Nat),l=r.reverse++post→r.length+1≤n→Fv n l s ((r.length:Int) - 1)=some (Kz (fun k=>sameStr k s) r):=by
  intro r
  induction r with
  |nil=>
   intro post n h hn
   obtain⟨n,rfl⟩:∃m,n=m+1:=⟨n - 1,by omega⟩
   rw [Fv,if_neg (by simp)]; rfl
  |cons x r ih=>
   intro post n h hn
   obtain⟨n,rfl⟩:∃m,n=m+1:=⟨n - 1,by omega⟩
   have h':l=r.reverse++x::post:=by rw [h]; simp
   have e:(((x::r).length :Int) - 1)=(r.reverse.length:Int):=by simp
   have hl2:r.length≤Big:=by rw [h'] at hl; grind
   rw [Fv,e,if_pos (by simp),AY h',AA,Kz]
   grind [w64]
 have:=key l.reverse [] fuel (by simp) (A3 (by grind))
 rw [w64 (by omega) (by grind)]
 rw [List.length_reverse] at this
 exact this
def okn (pre:List ByteArray) (x:ByteArray):Bool:=lowB x&& !(pre.any fun k=>sameStr k x)
def distB (l:List ByteArray):Bool:=allp okn [] l
theorem TY (l:List ByteArray) (hl:l.length≤Big):Gb l=some (distB l):=by
 unfold Gb distB
 have hB:Big=4294967296:=rfl
 have:=Dc (L:=fun n (_:Unit) i=>BV n l i) l 2 1 (fun _=>()) okn (some false) (some true) (fun N R pre x post hh hp hN hR m hm=>by
   obtain⟨m,rfl⟩:∃k,m=k+2:=⟨m - 2,by omega⟩
   have hpl:pre.length+1≤l.length:=by rw [hh]; simp
   show BV (m+2) l _=_
   rw [BV,if_pos (Ah hh),AY hh,AA,LY,AA,VG hh,AA,AA,Ra pre x (by omega),AA,Jc]
   grind [Dv,AP,okn]) (fun _ m hm=>by
   obtain⟨m,rfl⟩:∃k,m=k+1:=⟨m - 1,by omega⟩
   grind [BV]) fuel (A3 (by omega))
 have h0:BV fuel l 0=_:=this
 rw [h0]
 cases allp okn [] l <;> simp
theorem Q8 (l:List ByteArray) (hl:l.length≤Big):EP l=some (distB l&&decide (l.length≤3)):=by
 unfold EP distB
 have hB:Big=4294967296:=rfl
 have:=Dc (L:=fun n (_:Unit) i=>Ap n l i) l 2 1 (fun _=>()) okn (some false) (some (decide (l.length≤3))) (fun N R pre x post hh hp hN hR m hm=>by
   obtain⟨m,rfl⟩:∃k,m=k+2:=⟨m - 2,by omega⟩
   have hpl:pre.length+1≤l.length:=by rw [hh]; simp
   show Ap (m+2) l _=_
   rw [Ap,if_pos (Ah hh),AY hh,AA,LZ,AA,VG hh,AA,Jg pre x (by omega),AA]
   grind [Cb,AP,okn,I3]) (fun _ m hm=>by
   obtain⟨m,rfl⟩:∃k,m=k+1:=⟨m - 1,by omega⟩
   show Ap (m+1) l _=_
   rw [Ap,if_neg (by simp)]
   congr 2; grind) fuel (A3 (by omega))
 have h0:Ap fuel l 0=_:=this
 rw [h0]
 cases allp okn [] l <;> simp
noncomputable def noT (t:TType):Bool:=decide (t=⟨0,ByteArray.empty,[]⟩)
theorem W5 (t:TType):HD t=some (noT t):=by
 unfold HD noT
 have heq:decide (t=⟨0,ByteArray.empty,[]⟩)=decide (t.kind=0∧t.name=ByteArray.empty∧t.kids=[]):=decide_eq_decide.2 (TType.eq_iff t _)
 rw [heq]
 by_cases h1:t.kind=0
 ·rw [if_pos (by grind)]
  by_cases h2:sameStr t.name (ByteArray.mk #[])=true
  ·have h3:t.name=ByteArray.empty:=C2.1 h2
   rw [if_pos h2]
   simp_all
  ·rw [if_neg h2]
   have h3:¬t.name=ByteArray.empty:=fun h=>h2 (C2.2 h)
   grind
 grind
theorem TZ (t:TType) (h:t.sz≤Big):HX t=some (noT t):=by
 unfold HX noT
 rw [H8 t h _ fuel (EC h),AA]
def kLo (k:Int):Int:=if k=1∨k=2∨k=8 then 0 else if k=4∨k=6∨k=10 then 1 else if k=3∨k=5∨k=7∨k=9 then 2 else if k=11 then 3 else 0
def kHi (k:Int):Int:=if k=1∨k=2 then 0 else if k=4∨k=6∨k=10 then 1 else if k=3∨k=5∨k=7 then 2 else if k=8∨k=11 then 3 else if k=9 then 5 else -1
theorem kind_cases (k:Int):k=1∨k=2∨k=3∨k=4∨k=5∨k=6∨k=7∨k=8∨k=9∨k=10∨k=11∨(k≠1∧k≠2∧k≠3∧k≠4∧k≠5∧k≠6∧k≠7∧k≠8∧k≠9∧k≠10∧k≠11):=by omega
theorem ar (k:Int):Km k=some (kLo k,kHi k):=by
 grind [Km,HT,GM,GL,kLo,kHi]
def La (t:Term):Bool:=decide (kLo t.kind≤(t.kids.length:Int))&&decide ((t.kids.length:Int)≤kHi t.kind)
noncomputable def fldB (t:Term):Bool:=
 (if t.kind=1∨t.kind=4∨t.kind=7 then lowB t.name else if t.kind=8∨t.kind=10 then upB t.name else U6 t.name)&&
 (if t.kind=4 then vtB t.typ else noT t.typ)&&
 (if t.kind=10 then decide (t.names.length≤3)&&distB t.names else decide (t.names.length=0))&&
 (if t.kind=2 then decide (-2147483648≤t.num)&&decide (t.num≤2147483647) else if t.kind=3 then decide (1≤t.num)&&decide (t.num≤6) else decide (t.num=0))
theorem W6 (t:Term) (hz:t.sz≤Big):IT t=some (fldB t):=by
 have hsz:=t.sz_eq
 have hB:Big=4294967296:=rfl
 unfold IT Ep Fy Ar DL Fx Fw fldB
 rw [LY,I4,Je t.typ (by omega),W5,TY t.names (by omega),ai,ai]
 simp only [AA]
 have z0:decide ((0:Int)<(t.names.length:Int))= !decide (t.names.length=0):=by rw [← decide_not]; grind
 have z3:decide ((3:Int)<(t.names.length:Int))= !decide (t.names.length≤3):=by rw [← decide_not]; grind
 rw [z0,z3,U6]
 generalize lowB t.name=L
 generalize upB t.name=U
 generalize vtB t.typ=V
 generalize noT t.typ=W
 generalize distB t.names=D
 generalize sameStr t.name (ByteArray.mk #[])=E
 generalize decide (t.names.length=0)=c0
 generalize decide (t.names.length≤3)=c3
 generalize t.num=num
 generalize t.kind=k
 rcases kind_cases k with h|h|h|h|h|h|h|h|h|h|h|⟨h1,h2,h3,h4,h5,h6,h7,h8,h9,h10,h11⟩
 ·subst h; cases L <;> cases W <;> cases c0 <;> rfl
 ·subst h; cases E <;> cases W <;> cases c0 <;> rfl
 ·subst h; cases E <;> cases W <;> cases c0 <;> rfl
 ·subst h; cases L <;> cases V <;> cases c0 <;> rfl
 ·subst h; cases E <;> cases W <;> cases c0 <;> rfl
 ·subst h; cases E <;> cases W <;> cases c0 <;> rfl
 ·subst h; cases L <;> cases W <;> cases c0 <;> rfl
 ·subst h; cases U <;> cases W <;> cases c0 <;> rfl
 ·subst h; cases E <;> cases W <;> cases c0 <;> rfl
 ·subst h; cases U <;> cases W <;> cases c3 <;> cases D <;> rfl
 ·subst h; cases E <;> cases W <;> cases c0 <;> rfl
 grind
theorem au (t:Term) (hz:t.sz≤Big):IV t=some (La t&&fldB t):=by
 have hsz:=t.sz_eq
 have hB:Big=4294967296:=rfl
 unfold IV As La fldB
 rw [TZ t.typ (by omega),LZ,I5,Jf t.typ (by omega),Q8 t.names (by omega)]
 simp only [AA,RX,I1]
 have z0:decide ((0:Int)<(t.names.length:Int))= !decide (t.names.length=0):=by rw [← decide_not]; grind
 rw [z0,U6]
 generalize lowB t.name=L
 generalize upB t.name=U
 generalize vtB t.typ=V
 generalize noT t.typ=W
 generalize distB t.names=D
 generalize sameStr t.name (ByteArray.mk #[])=E
 generalize decide (t.names.length=0)=c0
 generalize decide (t.names.length≤3)=c3
 generalize t.num=num
 generalize t.kind=k
 have hn:(0:Int)≤(t.kids.length:Int):=by omega
 generalize (t.kids.length:Int)=n at hn
 have two:∀a b:Int,(if decide (a≤num)=true then some (decide (num≤b)) else some false)=some (decide (a≤num)&&decide (num≤b)):=fun a b=>by cases decide (a≤num) <;> simp
 have eqn:∀a:Int,decide (n=a)=(decide (a≤n)&&decide (n≤a)):=fun a=>by rw [← Bool.decide_and]; grind
 have two9:(if decide (2≤n)=true then some (decide (n≤5)) else some false)=some (decide (2≤n)&&decide (n≤5)):=by cases decide (2≤n) <;> simp
 have pos:decide (0≤n)=true:=by grind
 simp only [two,two9,eqn]
 rcases kind_cases k with h|h|h|h|h|h|h|h|h|h|h|⟨h1,h2,h3,h4,h5,h6,h7,h8,h9,h10,h11⟩
 ·subst h; cases L <;> cases W <;> cases c0 <;> simp [kLo,kHi,hn] <;> (try split) <;> (try simp_all) <;> (try (split <;> simp_all)) <;> (try (intros; omega))
 ·subst h; cases E <;> cases W <;> cases c0 <;> simp [kLo,kHi,hn] <;> (try split) <;> (try simp_all) <;> (try (split <;> simp_all)) <;> (try (intros; omega))
 ·subst h; cases E <;> cases W <;> cases c0 <;> simp [kLo,kHi,hn] <;> (try split) <;> (try simp_all) <;> (try (split <;> simp_all)) <;> (try (intros; omega))
 ·subst h; cases L <;> cases V <;> cases c0 <;> simp [kLo,kHi,hn] <;> (try split) <;> (try simp_all) <;> (try (split <;> simp_all)) <;> (try (intros; omega))
 ·subst h; cases E <;> cases W <;> cases c0 <;> simp [kLo,kHi,hn] <;> (try split) <;> (try simp_all) <;> (try (split <;> simp_all)) <;> (try (intros; omega))
 ·subst h; cases E <;> cases W <;> cases c0 <;> simp [kLo,kHi,hn] <;> (try split) <;> (try simp_all) <;> (try (split <;> simp_all)) <;> (try (intros; omega))
 ·subst h; cases L <;> cases W <;> cases c0 <;> simp [kLo,kHi,hn] <;> (try split) <;> (try simp_all) <;> (try (split <;> simp_all)) <;> (try (intros; omega))
 ·subst h; cases U <;> cases W <;> cases c0 <;> simp [kLo,kHi,hn] <;> (try split) <;> (try simp_all) <;> (try (split <;> simp_all)) <;> (try (intros; omega))
 ·subst h; cases E <;> cases W <;> cases c0 <;> simp [kLo,kHi,hn] <;> (try split) <;> (try simp_all) <;> (try (split <;> simp_all)) <;> (try (intros; omega))
 ·subst h; cases U <;> cases W <;> cases c3 <;> cases D <;> simp [kLo,kHi,hn] <;> (try split) <;> (try simp_all) <;> (try (split <;> simp_all)) <;> (try (intros; omega))
 ·subst h; cases E <;> cases W <;> cases c0 <;> simp [kLo,kHi,hn] <;> (try split) <;> (try simp_all) <;> (try (split <;> simp_all)) <;> (try (intros; omega))
 grind [kHi]
theorem PG {α:Type} (a b:List α→α→Bool):∀ (l pre:List α),allp (fun p x=>a p x&&b p x) pre l=(allp a pre l&&allp b pre l)
 | [],_=>rfl
 |x::l,pre=>by
  simp only [allp,PG a b l]
  cases a pre x <;> cases b pre x <;> cases allp a (pre++[x]) l <;> simp
theorem Hh {α:Type} (f:α→Bool):∀ (l pre:List α),allp (fun _ x=>f x) pre l=l.all f
 | [],_=>rfl
 |x::l,pre=>by simp only [allp,List.all_cons,Hh f l]
def GC (k:Int) (pre:List Term) (x:Term):Bool:=decide (x.kind=10) == (decide (k=9)&&decide (0<pre.length))
noncomputable def dq (t:Term):Bool:=La t&&fldB t&&allp (GC t.kind) [] t.kids
mutual
noncomputable def Term.okS:Term→Bool
 |⟨k,num,nm,ty,nms,ks⟩=>dq ⟨k,num,nm,ty,nms,ks⟩&&Term.okSs ks
noncomputable def Term.okSs:List Term→Bool
 | [] =>true
 |x::l=>Term.okS x&&Term.okSs l
end
theorem Term.okSs_eq:∀l:List Term,Term.okSs l=l.all Term.okS
 | [] =>by rw [Term.okSs]; rfl
 |x::l=>by rw [Term.okSs,List.all_cons,Term.okSs_eq l]
theorem Term.okS_eq (t:Term):t.okS=(dq t&&t.kids.all Term.okS):=by cases t; rw [Term.okS,Term.okSs_eq]
mutual
def Term.dep:Term→Nat
 |⟨_,_,_,_,_,ks⟩=>Term.deps ks
def Term.deps:List Term→Nat
 | [] =>1
 |x::l=>max (Term.dep x+1) (Term.deps l)
end
mutual
def Term.cnt:Term→Nat
 |⟨_,_,_,_,_,ks⟩=>Term.cnts ks
def Term.cnts:List Term→Nat
 | [] =>1
 |x::l=>Term.cnt x+Term.cnts l
end
theorem Term.dep_eq (t:Term):t.dep=Term.deps t.kids:=by cases t; rfl
theorem Term.cnt_eq (t:Term):t.cnt=Term.cnts t.kids:=by cases t; rfl
theorem Term.deps_app (x:Term):∀l:List Term,Term.deps (l++[x])=max (Term.deps l) (x.dep+1)
 | [] =>by grind [Term.deps]
 |y::l=>by simp only [List.cons_append,Term.deps,Term.deps_app x l]; omega
theorem Term.cnts_app (x:Term):∀l:List Term,Term.cnts (l++[x])=Term.cnts l+x.cnt
 | [] =>by grind [Term.cnts]
 |y::l=>by simp only [List.cons_append,Term.cnts,Term.cnts_app x l]; omega
theorem Term.deps_le:∀ {l:List Term} {d:Nat},1≤d→(Term.deps l≤d↔∀x ∈ l,x.dep+1≤d)
 | [],d,h=>by grind [Term.deps]
 |y::l,d,h=>by
  have:=Term.deps_le (l:=l) h
  simp only [Term.deps,List.mem_cons,forall_eq_or_imp,← this]; omega
theorem Term.one_le (l:List Term):1≤Term.deps l∧1≤Term.cnts l:=by
 induction l with
 |nil=>simp [Term.deps,Term.cnts]
 |cons x l ih=>grind [Term.deps,Term.cnts]
theorem Term.cnts_le {l:List Term} (h:∀x ∈ l,x.cnt≤x.sz+1):Term.cnts l≤szl Term.sz l+1:=by
 induction l with
 |nil=>simp [Term.cnts]
 |cons x l ih=>
  grind [Term.cnts,szl]
theorem Term.cnt_le:∀t:Term,t.cnt≤t.sz+1:=by
 refine Term.ind fun t ih=>?_
 grind [Term.cnts_le,Term.cnt_eq,Term.sz_eq]
theorem Term.deps_cnts {l:List Term} (h:∀x ∈ l,x.dep≤x.cnt):Term.deps l≤Term.cnts l:=by
 induction l with
 |nil=>simp [Term.deps,Term.cnts]
 |cons x l ih=>
  grind [Term.one_le,Term.deps,Term.cnts]
theorem Term.dep_le:∀t:Term,t.dep≤t.cnt:=by
 refine Term.ind fun t ih=>?_
 rw [Term.cnt_eq,Term.dep_eq]; exact Term.deps_cnts ih
theorem Term.cnts_pre' (post:List Term) (x:Term):∀ (p:List Term),Term.cnts p+x.cnt≤Term.cnts (p++x::post)
 | [] =>by have:=Term.one_le post; grind [Term.cnts]
 |y::p=>by have:=Term.cnts_pre' post x p; simp only [List.cons_append,Term.cnts]; omega
theorem Term.cnts_pre {l pre post:List Term} {x:Term} (h:l=pre++x::post):Term.cnts pre+x.cnt≤szl Term.sz l+1:=by
 have h1:Term.cnts l≤szl Term.sz l+1:=Term.cnts_le fun y _=>y.cnt_le
 grind [Term.cnts_pre']
theorem QH (left:Int):∀ (post pre:List Term),((Term.cnts pre:Nat):Int)≤left→allp (fun p x=>decide (((Term.cnts p:Nat):Int)+(x.cnt:Int)≤left)) pre post=decide (((Term.cnts (pre++post):Nat):Int)≤left)
 | [],pre,h=>by grind [allp]
 | x::post,pre,h=>by
  rw [allp]
  by_cases h1:((Term.cnts pre:Nat):Int)+(x.cnt:Int)≤left
  ·rw [QH left post (pre++[x]) (by rw [Term.cnts_app]; omega)]
   grind
  grind [Term.cnts_pre']
theorem J8 {t:Term} (h:t.sz≤Big):16*t.sz+16≤fuel:=A3 (by grind)
theorem W7:∀t:Term,t.sz≤Big→∀ (n:Nat) (d left:Int) (c:Bool),0≤d→d≤100→0≤left→left≤1000→16*t.sz+16≤n→
  FF n t d c left=some (if ((decide (t.kind=10) == c)&&t.okS&&decide ((t.dep:Int)≤d)&&decide ((t.cnt:Int)≤left))=true then (t.cnt:Int) else -1):=by
 refine Term.ind fun t ih hz n d left c hd0 hd1 hl0 hl1 hn=>?_
 obtain⟨n,rfl⟩:∃m,n=m+2:=⟨n - 2,by omega⟩
 have hsz:=t.sz_eq
 have hlen:=AZ Term.sz t.kids
 have hB:Big=4294967296:=rfl
 have hl:t.kids.length≤Big:=by omega
 have h1d:1≤t.dep:=by rw [Term.dep_eq]; grind [Term.one_le]
 have h1c:1≤t.cnt:=by rw [Term.cnt_eq]; simp [Term.one_le]
 rw [FF,ar,AA]
 simp only [DF,if_true]
 by_cases hd:d<1
 ·rw [if_pos (by grind),if_neg]
  grind
 rw [if_neg (by grind)]
 by_cases hle:left<1
 ·rw [if_pos (by grind),if_neg]
  grind
 rw [if_neg (by grind)]
 rcases Bool.eq_false_or_eq_true (decide (t.kind=10) == c) with hc|hc
 rotate_left
 ·rw [hc]; simp
 rw [hc,if_neg (by simp),ai,AA,W6 t hz,AA]
 have hin:(decide (kLo t.kind≤(t.kids.length:Int))&&decide ((t.kids.length:Int)≤kHi t.kind))=La t:=rfl
 rw [hin]
 let okp:List Term→Term→Bool:=fun pre x=>GC t.kind pre x&&(x.okS&&(decide ((x.dep:Int)≤d - 1)&&decide (((Term.cnts pre:Nat):Int)+(x.cnt:Int)≤left)))
 have hloop:B7 n t d left 1 0=if allp okp [] t.kids=true then some ((Term.cnts t.kids:Nat):Int) else some (-1):=by
  refine Dc (L:=fun n (s:Int) i=>B7 n t d left s i) t.kids 2 (16*szl Term.sz t.kids+8 - 6*t.kids.length) (fun pre=>((Term.cnts pre:Nat):Int)) okp (some (-1)) _ (fun N R pre x post hh hp hN hR m hm=>?_) (fun hp m hm=>?_) n (by omega)
  ·obtain⟨m,rfl⟩:∃k,m=k+2:=⟨m - 2,by omega⟩
   have hx:=BE hh
   have hm2:=Ac (s:=Term.sz) hx
   have hp1:1≤t.kids.length:=List.length_pos_of_mem hx
   have hcp:((Term.cnts pre:Nat):Int)≤left:=by
    have h2:allp (fun p x=>decide (((Term.cnts p:Nat):Int)+(x.cnt:Int)≤left)) [] pre=true:=by
     have h3:=hp
     simp only [okp,PG] at h3
     grind
    rw [QH left pre [] (by grind [Term.cnts])] at h2
    grind
   have h1p:=Term.one_le pre
   show B7 (m+2) t d left _ _=_
   have hcase:∀ (v:Option Int→Option Int),True:=fun _=>trivial
   rw [B7,if_pos (Ah hh),AY hh,AA,w64 (by omega) (by omega),w64 (by omega) (by omega)]
   have hb:decide ((0:Int)<(pre.length:Int))=decide (0<pre.length):=decide_eq_decide.2 ⟨fun h=>by omega,fun h=>by omega⟩
   rw [hb,ih x hx (by omega) (m+1) (d - 1) (left - (Term.cnts pre:Nat)) (decide (0<pre.length)) (by omega) (by omega) (by omega) (by omega) (by omega),ih x hx (by omega) (m+1) (d - 1) (left - (Term.cnts pre:Nat)) false (by omega) (by omega) (by omega) (by omega) (by omega)]
   simp only [AA,Fc]
   have hsub:decide ((x.cnt:Int)≤left - ((Term.cnts pre:Nat):Int))=decide (((Term.cnts pre:Nat):Int)+(x.cnt:Int)≤left):=decide_eq_decide.2 ⟨fun h=>by omega,fun h=>by omega⟩
   rw [hsub]
   have hall:okp pre x=(GC t.kind pre x&&(x.okS&&(decide ((x.dep:Int)≤d - 1)&&decide (((Term.cnts pre:Nat):Int)+(x.cnt:Int)≤left)))):=rfl
   have hcp2:=Term.cnts_pre hh
   have step:∀b:Bool,GC t.kind pre x=(decide (x.kind=10) == b)→
     (if decide ((if ((decide (x.kind=10) == b)&&x.okS&&decide ((x.dep:Int)≤d - 1)&&decide (((Term.cnts pre:Nat):Int)+(x.cnt:Int)≤left))=true then (x.cnt:Int) else -1)<0)=true then some (-1)
      else B7 m t d left (IntKind.i64.wrap (((Term.cnts pre:Nat):Int)+(if ((decide (x.kind=10) == b)&&x.okS&&decide ((x.dep:Int)≤d - 1)&&decide (((Term.cnts pre:Nat):Int)+(x.cnt:Int)≤left))=true then (x.cnt:Int) else -1))) (IntKind.i64.wrap ((pre.length:Int)+1)))=if okp pre x=true then R else some (-1):=fun b hb=>by
    have e:((decide (x.kind=10) == b)&&x.okS&&decide ((x.dep:Int)≤d - 1)&&decide (((Term.cnts pre:Nat):Int)+(x.cnt:Int)≤left))=okp pre x:=by rw [hall,hb]; grind
    rw [e]
    by_cases hk:okp pre x=true
    ·rw [if_pos hk,if_pos hk,if_neg (by simp),AP hh hl,show (((Term.cnts pre:Nat):Int)+(x.cnt:Int))=((Term.cnts pre+x.cnt:Nat):Int) from by simp,Uc (by omega),← Term.cnts_app]
     grind
    grind
   by_cases h9:t.kind=9
   ·rw [if_pos (by grind)]
    exact step _ (by simp [GC,h9])
   ·rw [if_neg (by grind)]
    exact step _ (by simp [GC,h9])
  ·obtain⟨m,rfl⟩:∃k,m=k+1:=⟨m - 1,by omega⟩
   show B7 (m+1) t d left _ _=_
   rw [B7,if_neg (by simp)]
 have hall:(t.okS&&decide ((t.dep:Int)≤d)&&decide ((t.cnt:Int)≤left))=(La t&&fldB t&&allp okp [] t.kids):=by
  rw [Term.okS_eq,dq]
  simp only [okp,PG]
  have ha1:allp (fun (_:List Term) (x:Term)=>x.okS) [] t.kids=t.kids.all Term.okS:=Hh Term.okS t.kids []
  have ha2:allp (fun (_:List Term) (x:Term)=>decide ((x.dep:Int)≤d - 1)) [] t.kids=t.kids.all fun x=>decide ((x.dep:Int)≤d - 1):=Hh (fun x:Term=>decide ((x.dep:Int)≤d - 1)) t.kids []
  rw [QH left t.kids [] (by grind [Term.cnts]),ha1,ha2,List.nil_append,← Term.cnt_eq]
  have hdd:decide ((t.dep:Int)≤d)=t.kids.all fun x=>decide ((x.dep:Int)≤d - 1):=by
   rw [Bool.eq_iff_iff]
   simp only [List.all_eq_true,decide_eq_true_eq]
   have:=Term.deps_le (l:=t.kids) (d:=d.toNat) (by omega)
   rw [Term.dep_eq]
   grind
  rw [hdd]
  grind
 rw [Bool.true_and,hall,hloop]
 rcases Bool.eq_false_or_eq_true (La t) with e1|e1 <;> rcases Bool.eq_false_or_eq_true (fldB t) with e2|e2 <;> rcases Bool.eq_false_or_eq_true (allp okp [] t.kids) with e3|e3 <;> simp [e1,e2,e3,Term.cnt_eq]
theorem W8:∀t:Term,t.sz≤Big→∀n,16*t.sz+16≤n→∃a b,E7 n t=some (a,b,t.okS)∧(t.okS=true→a=(t.dep:Int)∧b=(t.cnt:Int)):=by
 refine Term.ind fun t ih hz n hn=>?_
 obtain⟨n,rfl⟩:∃m,n=m+1:=⟨n - 1,by omega⟩
 have hsz:=t.sz_eq
 have hlen:=AZ Term.sz t.kids
 have hB:Big=4294967296:=rfl
 have hl:t.kids.length≤Big:=by omega
 rw [E7,au t hz,AA,Term.okS_eq,dq]
 rcases Bool.eq_false_or_eq_true (La t&&fldB t) with e1|e1
 rotate_left
 ·rw [e1]; simp_all
 rw [e1,if_neg (by simp)]
 let okp:List Term→Term→Bool:=fun pre x=>GC t.kind pre x&&x.okS
 have main:=Dc (L:=fun n (s:Int × Int) i=>B3 n t s.1 s.2 i) t.kids 2 (16*szl Term.sz t.kids+8 - 6*t.kids.length) (fun pre=>((Term.deps pre:Int),(Term.cnts pre:Int))) okp (some (0,0,false)) (some ((Term.deps t.kids:Int),(Term.cnts t.kids:Int),true))
  (fun N R pre x post hh hp hN hR m hm=>by
   obtain⟨m,rfl⟩:∃k,m=k+2:=⟨m - 2,by omega⟩
   have hx:=BE hh
   have hm2:=Ac (s:=Term.sz) hx
   have hp1:1≤t.kids.length:=List.length_pos_of_mem hx
   obtain⟨a,b,e1,e2⟩:=ih x hx (by omega) m (by omega)
   show B3 (m+2) t _ _ _=_
   have hb:decide ((0:Int)<(pre.length:Int))=decide (0<pre.length):=decide_eq_decide.2 ⟨fun h=>by omega,fun h=>by omega⟩
   rw [B3,if_pos (Ah hh),AY hh,AA,hb]
   simp only [Es]
   have hoc:(if decide (t.kind=9)=true then (!(decide (x.kind=10) == decide (0<pre.length))) else (!(decide (x.kind=10) == false)))= !GC t.kind pre x:=by
    by_cases h9:t.kind=9 <;> simp [GC,h9]
   have hif:∀ (c p q:Bool) (X Y:Option (Int × Int × Bool)),(if c=true then (if p=true then X else Y) else (if q=true then X else Y))=if (if c=true then p else q)=true then X else Y:=fun c p q X Y=>by cases c <;> simp
   rw [hif,hoc,e1,AA]
   rcases Bool.eq_false_or_eq_true (GC t.kind pre x) with o1|o1
   rotate_left
   ·grind
   rcases Bool.eq_false_or_eq_true x.okS with ho|ho
   rotate_left
   ·grind
   obtain⟨rfl,rfl⟩:=e2 ho
   have hc:=Term.cnts_pre hh
   have hd:=x.dep_le
   have hw:=AP hh hl
   have hok:okp pre x=true:=by grind
   have hR:=hR hok m (by omega)
   simp only [Term.deps_app,Term.cnts_app] at hR
   rw [hok,if_pos rfl,← hR]
   simp only [o1,ho,Bool.not_true,Bool.false_eq_true,if_false]
   rw [hw,show ((x.dep:Int)+1)=((x.dep+1:Nat):Int) from by simp,Uc (by omega),show ((Term.cnts pre:Int)+(x.cnt:Int))=((Term.cnts pre+x.cnt:Nat):Int) from by simp,Uc (by omega)]
   congr 1
   split <;> omega)
  (fun hp m hk=>by
   obtain⟨m,rfl⟩:∃k,m=k+1:=⟨m - 1,by omega⟩
   show B3 (m+1) t _ _ _=_
   rw [B3,if_neg (by simp)]) n (by omega)
 have main':B3 n t 1 1 0=_:=main
 have hall:allp okp [] t.kids=(allp (GC t.kind) [] t.kids&&t.kids.all Term.okS):=by
  have ha1:allp (fun (_:List Term) (x:Term)=>x.okS) [] t.kids=t.kids.all Term.okS:=Hh Term.okS t.kids []
  simp only [okp,PG]; rw [ha1]
 rw [main',hall,Bool.true_and]
 grind [Term.dep_eq,Term.cnt_eq]
noncomputable def tmB (t:Term):Bool:=decide (t.kind≠10)&&t.okS&&decide (t.dep≤24)&&decide (t.cnt≤160)
theorem Wp (t:Term) (h:t.sz≤Big):O8 t=some (tmB t):=by
 unfold O8 tmB
 rw [W7 t h fuel 24 160 false (by decide) (by decide) (by decide) (by decide) (J8 h),AA]
 congr 1
 have hc:1≤t.cnt:=by rw [Term.cnt_eq]; simp [Term.one_le]
 grind
theorem Wq (t:Term) (h:t.sz≤Big):IW t=some (tmB t):=by
 unfold IW tmB
 obtain⟨a,b,e1,e2⟩:=W8 t h fuel (J8 h)
 rw [e1,AA]
 grind [decide]
end Go.Proofs.YtnfgeocnolheoaaGreat.Ab
