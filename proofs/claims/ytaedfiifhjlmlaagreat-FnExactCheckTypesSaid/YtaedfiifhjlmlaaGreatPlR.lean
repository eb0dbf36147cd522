/-
  Datas that are in order: both sides. No program is in sight.
-/
import Derived.Test.YtaedfiifhjlmlaaGreatPlW
namespace Go.Proofs.YtaedfiifhjlmlaaGreat.Ab
set_option linter.unusedVariables false
set_option linter.unusedSimpArgs false
open Go.RowKit
def allp {α:Type} (okp:List α→α→Bool):List α→List α→Bool
 |_,[] =>true
 |pre,x::l=>okp pre x&&allp okp (pre++[x]) l
theorem UL {α:Type} (okp:List α→α→Bool) (x:α):∀ (pre q:List α),allp okp q (pre++[x])=(allp okp q pre&&okp (q++pre) x)
 | [],q=>by simp [allp]
 |y::pre,q=>by simp only [List.cons_append,allp,UL okp x pre]; simp [Bool.and_assoc]
theorem JU {α:Type} {okp:List α→α→Bool} {x:α}:∀ {l q:List α},allp okp q l=true→x ∈ l→∃p,okp p x=true
 |y::l,q,h,hx=>by
  simp only [allp,Bool.and_eq_true] at h
  rcases List.mem_cons.1 hx with rfl|hx
  ·exact⟨_,h.1⟩
  ·exact JU h.2 hx
theorem Cr {α σ ρ:Type} {L:Nat→σ→Int→Option ρ} (l:List α) (c K:Nat) (S:List α→σ) (okp:List α→α→Bool) (bad e:Option ρ)
  (hs:∀N R pre x post,l=pre++x::post→allp okp [] pre=true→K≤N→(okp pre x=true→∀m,N≤m→L m (S (pre++[x])) ((List.length (pre++[x]):Nat):Int)=R)→∀m,N+c≤m→L m (S pre) (pre.length:Int)=if okp pre x=true then R else bad)
  (he:allp okp [] l=true→∀m,K≤m→L m (S l) (l.length:Int)=e)
  (m:Nat) (hm:K+c*l.length≤m):L m (S []) 0=if allp okp [] l=true then e else bad:=by
 have key:∀ (post pre:List α),l=pre++post→allp okp [] pre=true→∀m,K+c*post.length≤m→L m (S pre) (pre.length:Int)=if allp okp pre post=true then e else bad:=by
  intro post
  induction post with
  |nil=>
   intro pre h hp m hm
   rw [List.append_nil] at h
   subst h
   rw [he hp m (by simp at hm; omega)]; simp [allp]
  |cons x post ih=>
   intro pre h hp m hm
   rw [List.length_cons,Nat.mul_add,Nat.mul_one] at hm
   rw [hs (K+c*post.length) (if allp okp (pre++[x]) post=true then e else bad) pre x post h hp (by omega) (fun hx m hm=>ih (pre++[x]) (by rw [h]; simp) (by rw [UL,hp,List.nil_append,hx]; rfl) m hm) m (by omega),allp]
   cases okp pre x <;> simp
 exact key l [] rfl rfl m hm
theorem Sd {α:Type} (p:α→Bool) (x:α) (post:List α) (hx:p x=true):∀pre:List α,idx p (pre++x::post)=if pre.any p=true then idx p pre else (pre.length:Int)
 | [] =>by simp [idx,hx]
 | y::pre=>by
  simp only [List.cons_append,idx,List.any_cons,Sd p x post hx pre,List.length_cons]
  have hg:=J2 p pre
  by_cases hy:p y=true
  ·simp [hy]
  ·simp only [hy,Bool.false_eq_true,if_false,Bool.false_or]
   by_cases ha:pre.any p=true
   ·simp only [ha,if_true]
   ·simp only [ha,if_false,Bool.false_eq_true]
    rw [if_neg (by omega)]; simp
theorem R6 {α:Type} {p:α→Bool} {x:α} {l pre post:List α} (h:l=pre++x::post) (hx:p x=true):decide (idx p l=(pre.length:Int))= !pre.any p:=by
 rw [h,Sd p x post hx]
 have hg:=J2 p pre
 by_cases ha:pre.any p=true
 ·rw [if_pos ha,ha]; simp; omega
 ·rw [if_neg ha]; simp only [Bool.not_eq_true] at ha; rw [ha]; simp
theorem Si {α:Type} {x:α} {l pre post:List α} (h:l=pre++x::post):cutL l 0 (pre.length:Int)=some pre:=by
 rw [cutL,if_pos ⟨by decide,by omega,by rw [h]; simp; omega⟩,h]; simp
theorem R8 {β:Type} (k k':ByteArray) (v:β):∀m:List (ByteArray × β),Fa (Fb m k v) k'=if sameStr k' k=true then some v else Fa m k'
 | [] =>by simp [Fb,Fa]
 | p::m=>by
  rw [Fb]
  by_cases h:sameStr k p.1 =true
  ·rw [if_pos h,Fa,Fa]
   rw [CW] at h
   rw [h]
   by_cases h2:sameStr k' p.1 =true <;> simp [h2]
  ·rw [if_neg h,Fa,Fa,R8 k k' v m]
   by_cases h2:sameStr k' p.1 =true
   ·rw [if_pos h2,if_neg]
    ·rw [if_pos h2]
    ·intro h3; rw [CW] at h2 h3; rw [← h3,h2,BY] at h; exact h rfl
   ·rw [if_neg h2,if_neg h2]
def mpS (l:List ByteArray):List (ByteArray × Bool):=l.foldl (fun m k=>Fb m k true) []
theorem bI (l:List ByteArray) (x:ByteArray):mpS (l++[x])=Fb (mpS l) x true:=by simp [mpS]
theorem Qb {β:Type} (k:ByteArray) (v:β):∀m:List (ByteArray × β),(Fb m k v).length ≤m.length+1
 | [] =>by simp [Fb]
 |p::m=>by
  have:=Qb k v m
  rw [Fb]; split <;> simp; omega
theorem Lz (k:ByteArray):∀ (l:List ByteArray) (m:List (ByteArray × Bool)),(Fa (l.foldl (fun m k=>Fb m k true) m) k).getD false=(l.any (fun s=>sameStr s k)||(Fa m k).getD false)
 | [],m=>by simp
 |x::l,m=>by
  rw [List.foldl_cons,Lz k l,R8,List.any_cons,Hc k x]
  cases sameStr x k <;> simp
theorem bJ (k:ByteArray) (l:List ByteArray):(Fa (mpS l) k).getD false=l.any fun s=>sameStr s k:=by
 rw [mpS,Lz]; simp [Fa]
theorem L0:∀ (l:List ByteArray) (m:List (ByteArray × Bool)),(l.foldl (fun m k=>Fb m k true) m).length ≤l.length+m.length
 | [],m=>by simp
 |x::l,m=>by
  have h1:=L0 l (Fb m x true)
  have h2:=Qb x true m
  rw [List.foldl_cons,List.length_cons]; omega
theorem bK (l:List ByteArray):(mpS l).length ≤l.length:=by have:=L0 l []; simpa [mpS] using this
def Bh (l:List Data):List ByteArray:=l.flatMap fun d=>d.cons.map Constructor.name
def okc (l:List Data) (seen:List ByteArray) (pc:List Constructor) (c:Constructor):Bool:=conB l c&& !((seen++pc.map Constructor.name).any fun s=>sameStr s c.name)
def okd (l:List Data) (pre:List Data) (d:Data):Bool:=upB d.name&& !HE d.name&& !dHas pre d.name&&decide (1≤d.cons.length)&&decide (d.cons.length≤4)&&allp (okc l (Bh pre)) [] d.cons
def HD (l:List Data):Bool:=decide (l.length≤4)&&allp (okd l) [] l
theorem Jz (l:List Data) (d:Data):Bh (l++[d])=Bh l++d.cons.map Constructor.name:=by simp [Bh]
theorem NN {l0:List Data} {l:List Data} (h:∀d ∈ l,d.cons.length≤4):(Bh l).length ≤4*l.length:=by
 induction l with
 |nil=>simp [Bh]
 |cons d l ih=>
  have h1:=h d (by simp)
  have h2:=ih fun y hy=>h y (by simp [hy])
  have:Bh (d::l)=d.cons.map Constructor.name++Bh l:=by simp [Bh]
  rw [this]; simp; omega
theorem SZ {l pre:List Data} {d:Data} (h:okd l pre d=true):1≤d.cons.length∧d.cons.length≤4:=by
 unfold okd at h; simp at h; exact⟨h.1.1.2,h.1.2⟩
theorem dU (a0:List Data) (i:Int) (d:Data) (seen:List ByteArray) (hseen:seen.length+1≤Big) (pc:List Constructor) (c:Constructor) (qc:List Constructor) (hc:d.cons=pc++c::qc) (hcl:d.cons.length≤Big) (R:Option Bool) (N:Nat)
  (hk:(seen.any fun s=>sameStr s c.name)=false→∀m,N≤m→Bn m a0 i d (seen++[c.name]) ((List.length (pc++[c]):Nat):Int)=R) (m:Nat) (hm:N+seen.length+1≤m):
  CK m a0 i seen (pc.length:Int) d 0=if (seen.any fun s=>sameStr s c.name)=true then some false else R:=by
 have:=NM (L:=fun n (_:Unit) k=>CK n a0 i seen (pc.length:Int) d k) seen 1 N (fun _=>()) (fun s=> !sameStr s c.name) (some false) R m (fun n pre x post hh hp hn=>by
   show CK (n+1) _ _ _ _ _ _=_
   rw [CK,if_pos (Ai hh),AW hh,AA,AW hc,AA,AP hh (by omega)]
   cases sameStr x c.name <;> simp) (fun n hp hn=>by
   show CK (n+1) _ _ _ _ _ _=_
   rw [CK,if_neg (by simp),AW hc,AA,EW (by simp; omega),AA,AP hc hcl,hk (by rw [List.any_eq_false]; intro y hy; have:=hp y hy; simpa using this) n hn]) (by omega)
 refine Eq.trans this ?_
 have h2:seen.all (fun s=> !sameStr s c.name)= !(seen.any fun s=>sameStr s c.name):=by rw [List.all_eq_not_any_not]; simp
 rw [h2]
 cases seen.any fun s=>sameStr s c.name <;> simp
theorem UM (a0:List Data) (hl:a0.length≤Big) (i:Int) (d:Data) (hd:d.sz≤Big) (seen:List ByteArray) (hseen:seen.length+d.cons.length≤20) (R:Option Bool) (N:Nat)
  (hk:allp (okc a0 seen) [] d.cons=true→∀m,N≤m→Bm m a0 (seen++d.cons.map Constructor.name) (IntKind.i64.wrap (i+1))=R) (m:Nat) (hm:N+1+24*d.cons.length≤m):
  Bn m a0 i d seen 0=if allp (okc a0 seen) [] d.cons=true then R else some false:=by
 have hsz:=hd
 unfold Data.sz at hsz
 have hB:=bgE
 have:=Cr (L:=fun n (s:List ByteArray) k=>Bn n a0 i d s k) d.cons 24 (N+1) (fun pc=>seen++pc.map Constructor.name) (okc a0 seen) (some false) R (fun N' R' pc c qc hh hp hN hR m hm=>by
   have hpl:pc.length+1≤d.cons.length:=by rw [hh]; simp
   obtain⟨m,rfl⟩:∃k,m=k+1:=⟨m - 1,by omega⟩
   show Bn (m+1) _ _ _ _ _=_
   have hcs:=Ah (s:=Constructor.sz) (BZ hh)
   rw [Bn,if_pos (Ai hh),AW hh,AA,Xr a0 hl c (by omega),AA]
   cases hcb:conB a0 c with
   |false=>simp [okc,hcb]
   | true=>
    simp only [Bool.not_true,Bool.false_eq_true,if_false]
    rw [dU a0 i d (seen++pc.map Constructor.name) (by simp; omega) pc c qc hh (by omega) R' N' (fun hso m hm=>by
     have:=hR (by rw [okc,hcb,hso]; rfl) m hm
     rw [← this]; simp) m (by simp; omega),okc,hcb]
    cases (seen++pc.map Constructor.name).any fun s=>sameStr s c.name <;> simp)
  (fun ha m hm=>by
   obtain⟨m,rfl⟩:∃k,m=k+1:=⟨m - 1,by omega⟩
   show Bn (m+1) _ _ _ _ _=_
   rw [Bn,if_neg (by simp),hk ha m (by omega)]) m hm
 simpa using this
theorem bF (l:List Data) (hz:szl Data.sz l≤Big):NG l=some (HD l):=by
 unfold NG HD
 have hB:=bgE
 have hlen:=AZ Data.sz l
 by_cases h4:4<l.length
 ·rw [if_pos (by simp; omega)]; simp; omega
 ·rw [if_neg (by simp; omega),show decide (l.length≤4)=true from by simp; omega,Bool.true_and]
  have :=Cr (L:=fun n (s:List ByteArray) k=>Bm n l s k) l 130 1 (fun pre=>Bh pre) (okd l) (some false) (some true) (fun N R pre d post hh hp hN hR m hm=>by
    obtain⟨m,rfl⟩:∃k,m=k+2:=⟨m - 2,by omega⟩
    have hds:=Ah (s:=Data.sz) (BZ hh)
    have hpl:pre.length+1≤l.length:=by rw [hh]; simp
    have hn4:∀y ∈ pre,y.cons.length≤4:=fun y hy=>by
     obtain⟨q,hq⟩:=JU hp hy
     exact(SZ hq).2
    have hnl:=NN (l0:=l) hn4
    show Bm (m+2) _ _ _=_
    rw [Bm,if_pos (Ai hh),AW hh,AA,Hd,AA,L2 l _ (by omega),AA]
    simp only [C2]
    have hfi:decide (dIdx l d.name=(pre.length:Int))= !dHas pre d.name:=R6 hh (BY _)
    rw [hfi]
    have hint:sameStr d.name (ByteArray.mk #[73,110,116])=HE d.name:=rfl
    rw [hint]
    have hc1:decide ((d.cons.length:Int)<1)= !decide (1≤d.cons.length):=by rw [← decide_not]; congr 1; exact propext ⟨fun h=>by omega,fun h=>by omega⟩
    have hc2:decide ((4:Int)<(d.cons.length:Int))= !decide (d.cons.length≤4):=by rw [← decide_not]; congr 1; exact propext ⟨fun h=>by omega,fun h=>by omega⟩
    rw [hc1,hc2]
    have hloop:d.cons.length≤4→okd l pre d=allp (okc l (Bh pre)) [] d.cons→Bn m l (pre.length:Int) d (Bh pre) 0=if okd l pre d=true then R else some false:=fun h hok=>by
     rw [hok]
     exact UM l (by omega) _ d (by omega) (Bh pre) (by omega) R N (fun ha m hm=>by
       rw [AP hh (by omega),← Jz]; exact hR (by rw [hok,ha]) m hm) m (by omega)
    by_cases hcl:d.cons.length≤4
    ·have hloop:=hloop hcl
     rw [show decide (d.cons.length≤4)=true from by simpa using hcl]
     unfold okd at hloop ⊢
     rw [show decide (d.cons.length≤4)=true from by simpa using hcl] at hloop ⊢
     rcases btf (upB d.name) with e1|e1 <;> rcases btf (HE d.name) with e2|e2 <;> rcases btf (dHas pre d.name) with e3|e3 <;> rcases btf (decide (1≤d.cons.length)) with e4|e4 <;> simp only [e1,e2,e3,e4,Bool.not_true,Bool.not_false,Bool.true_and,Bool.and_true,Bool.false_and,Bool.and_false,Bool.false_eq_true,if_true,if_false,forall_const] at hloop ⊢
     exact hloop
    ·unfold okd
     rw [show decide (d.cons.length≤4)=false from by simpa using hcl]
     rcases btf (upB d.name) with e1|e1 <;> rcases btf (HE d.name) with e2|e2 <;> rcases btf (dHas pre d.name) with e3|e3 <;> rcases btf (decide (1≤d.cons.length)) with e4|e4 <;> simp only [e1,e2,e3,e4,Bool.not_true,Bool.not_false,Bool.true_and,Bool.and_true,Bool.false_and,Bool.and_false,Bool.false_eq_true,if_true,if_false])
   (fun _ m hm=>by
    obtain⟨m,rfl⟩:∃k,m=k+1:=⟨m - 1,by omega⟩
    show Bm (m+1) _ _ _=_
    rw [Bm]; simp) fuel (CY (by omega))
  have h0:Bm fuel l [] 0=_:=this
  rw [h0]
  cases allp (okd l) [] l <;> simp
theorem UN (a0:List Data) (hl:a0.length≤Big) (i:Int) (d:Data) (hd:d.sz≤Big) (seen:List ByteArray) (hseen:seen.length+d.cons.length≤20) (R:Option Bool) (N:Nat)
  (hk:allp (okc a0 seen) [] d.cons=true→∀m,N≤m→A1 m a0 (mpS (seen++d.cons.map Constructor.name)) (IntKind.i64.wrap (i+1))=R) (m:Nat) (hm:N+1+2*d.cons.length≤m):
  A5 m a0 i d (mpS seen) 0=if allp (okc a0 seen) [] d.cons=true then R else some false:=by
 have hsz:=hd
 unfold Data.sz at hsz
 have hB:=bgE
 have:=Cr (L:=fun n (s:List (ByteArray × Bool)) k=>A5 n a0 i d s k) d.cons 2 (N+1) (fun pc=>mpS (seen++pc.map Constructor.name)) (okc a0 seen) (some false) R (fun N' R' pc c qc hh hp hN hR m hm=>by
   have hpl:pc.length+1≤d.cons.length:=by rw [hh]; simp
   obtain⟨m,rfl⟩:∃k,m=k+2:=⟨m - 2,by omega⟩
   show A5 (m+2) _ _ _ _ _=_
   have hcs:=Ah (s:=Constructor.sz) (BZ hh)
   rw [A5,if_pos (Ai hh),AW hh,AA,Xs a0 hl c (by omega),AA]
   have hml:=bK (seen++pc.map Constructor.name)
   simp only [List.length_append,List.length_map] at hml
   simp only [DH]
   have hput:QO (mpS (seen++pc.map Constructor.name)) c.name true=some (mpS (seen++pc.map Constructor.name++[c.name])):=by rw [QO,if_pos (by omega),bI]
   rw [bJ,hput,AA,AP hh (by omega)]
   cases hcb:conB a0 c with
   |false=>simp [okc,hcb]
   | true=>
    simp only [Bool.not_true,Bool.false_eq_true,if_false]
    rcases btf ((seen++pc.map Constructor.name).any fun s=>sameStr s c.name) with hso|hso
    ·rw [okc,hso]; simp
    ·rw [okc,hso,hcb]
     have:=hR (by rw [okc,hcb,hso]; rfl) m (by omega)
     simp only [List.map_append,List.map_cons,List.map_nil,← List.append_assoc] at this
     simpa using this)
  (fun ha m hm=>by
   obtain⟨m,rfl⟩:∃k,m=k+1:=⟨m - 1,by omega⟩
   show A5 (m+1) _ _ _ _ _=_
   rw [A5,if_neg (by simp),hk ha m (by omega)]) m hm
 simpa using this
theorem bG (l:List Data) (hz:szl Data.sz l≤Big):GL l=some (HD l):=by
 unfold GL HD
 have hB:=bgE
 have hlen:=AZ Data.sz l
 by_cases h4:4<l.length
 ·rw [if_pos (by simp; omega)]; simp; omega
 ·rw [if_neg (by simp; omega),show decide (l.length≤4)=true from by simp; omega,Bool.true_and]
  have :=Cr (L:=fun n (s:List (ByteArray × Bool)) k=>A1 n l s k) l 30 1 (fun pre=>mpS (Bh pre)) (okd l) (some false) (some true) (fun N R pre d post hh hp hN hR m hm=>by
    obtain⟨m,rfl⟩:∃k,m=k+2:=⟨m - 2,by omega⟩
    have hds:=Ah (s:=Data.sz) (BZ hh)
    have hpl:pre.length+1≤l.length:=by rw [hh]; simp
    have hn4:∀y ∈ pre,y.cons.length≤4:=fun y hy=>by
     obtain⟨q,hq⟩:=JU hp hy
     exact(SZ hq).2
    have hnl:=NN (l0:=l) hn4
    show A1 (m+2) _ _ _=_
    rw [A1,if_pos (Ai hh),AW hh,AA,He,AA,Si hh,AA,L5 pre _ (by omega),AA,UO]
    simp only [Bo]
    have hint:sameStr d.name (ByteArray.mk #[73,110,116])=HE d.name:=rfl
    rw [hint]
    have hc1:decide ((d.cons.length:Int)<1)= !decide (1≤d.cons.length):=by rw [← decide_not]; congr 1; exact propext ⟨fun h=>by omega,fun h=>by omega⟩
    have hc2:decide ((4:Int)<(d.cons.length:Int))= !decide (d.cons.length≤4):=by rw [← decide_not]; congr 1; exact propext ⟨fun h=>by omega,fun h=>by omega⟩
    rw [hc1,hc2]
    have hloop:d.cons.length≤4→okd l pre d=allp (okc l (Bh pre)) [] d.cons→A5 m l (pre.length:Int) d (mpS (Bh pre)) 0=if okd l pre d=true then R else some false:=fun h hok=>by
     rw [hok]
     exact UN l (by omega) _ d (by omega) (Bh pre) (by omega) R N (fun ha m hm=>by
       rw [AP hh (by omega),← Jz]; exact hR (by rw [hok,ha]) m hm) m (by omega)
    by_cases hcl:d.cons.length≤4
    ·have hloop:=hloop hcl
     rw [show decide (d.cons.length≤4)=true from by simpa using hcl]
     unfold okd at hloop ⊢
     rw [show decide (d.cons.length≤4)=true from by simpa using hcl] at hloop ⊢
     rcases btf (upB d.name) with e1|e1 <;> rcases btf (HE d.name) with e2|e2 <;> rcases btf (dHas pre d.name) with e3|e3 <;> rcases btf (decide (1≤d.cons.length)) with e4|e4 <;> simp only [e1,e2,e3,e4,Bool.not_true,Bool.not_false,Bool.true_and,Bool.and_true,Bool.false_and,Bool.and_false,Bool.false_eq_true,if_true,if_false,forall_const] at hloop ⊢
     exact hloop
    ·unfold okd
     rw [show decide (d.cons.length≤4)=false from by simpa using hcl]
     rcases btf (upB d.name) with e1|e1 <;> rcases btf (HE d.name) with e2|e2 <;> rcases btf (dHas pre d.name) with e3|e3 <;> rcases btf (decide (1≤d.cons.length)) with e4|e4 <;> simp only [e1,e2,e3,e4,Bool.not_true,Bool.not_false,Bool.true_and,Bool.and_true,Bool.false_and,Bool.and_false,Bool.false_eq_true,if_true,if_false])
   (fun _ m hm=>by
    obtain⟨m,rfl⟩:∃k,m=k+1:=⟨m - 1,by omega⟩
    show A1 (m+1) _ _ _=_
    rw [A1]; simp) fuel (CY (by omega))
  have h0:A1 fuel l [] 0=_:=this
  rw [h0]
  cases allp (okd l) [] l <;> simp
noncomputable instance:DecidableEq TType:=fun a b=>Classical.propDecidable (a=b)
theorem Qc (l m:List TType) (h:l.length=m.length) (hl:l.length≤Big) (f:TType→TType→Option Bool) (hf:∀x ∈ l,∀y,f x y=some (decide (x=y))) (L:Nat→Int→Option Bool) (n K:Nat)
  (hL:∀n i,K≤n→L (n+1) i=(if (decide (i<(l.length:Int)))=true then ((at? l i).bind fun x=>(at? m i).bind fun y=>(f x y).bind fun b=>if (!b)=true then some false else L n (IntKind.i64.wrap (i+1))) else some true)) (hn:K+l.length+1≤n):
  L n 0=some (decide (l=m)):=by
 have key:∀ (p q pre pre':List TType) (n:Nat),l=pre++p→m=pre'++q→pre.length=pre'.length→K+p.length+1≤n→L n (pre.length:Int)=some (decide (p=q)):=by
  intro p
  induction p with
  | nil=>
   intro q pre pre' n h1 h2 h3 hn
   obtain⟨n,rfl⟩:∃m,n=m+1:=⟨n - 1,by omega⟩
   rw [hL n _ (by omega),HC h1]
   have:q=[] :=by
    rw [h1,h2] at h; simp at h; exact List.eq_nil_of_length_eq_zero (by omega)
   simp [this]
  | cons x p ih=>
   intro q pre pre' n h1 h2 h3 hn
   obtain⟨n,rfl⟩:∃m,n=m+1:=⟨n - 1,by omega⟩
   cases q with
   |nil=>rw [h1,h2] at h; simp at h; omega
   | cons y q=>
    rw [hL n _ (by simp at hn; omega),if_pos (Ai h1),AW h1,AA,h3,AW h2,AA,← h3,hf x (BZ h1),AA,AP h1 hl]
    by_cases hxy:x=y
    ·subst hxy
     rw [if_neg (by simp),ih q (pre++[x]) (pre'++[x]) n (by rw [h1]; simp) (by rw [h2]; simp) (by simp [h3]) (by simp at hn; omega)]
     simp
    ·rw [if_pos (by simp [hxy])]; simp [hxy]
 exact key l m [] [] n rfl rfl rfl hn
theorem JX:∀t:TType,t.sz≤Big→∀ (u:TType) (n:Nat),16*t.sz+16≤n→CR n t u=some (decide (t=u)):=by
 refine TType.ind fun t ih hz u n hn=>?_
 obtain⟨n,rfl⟩:∃m,n=m+2:=⟨n - 2,by omega⟩
 have hsz:=t.sz_eq
 have hlen:=AZ TType.sz t.kids
 have hB:=bgE
 have heq:decide (t=u)=decide (t.kind=u.kind∧t.name=u.name∧t.kids=u.kids):=decide_eq_decide.2 (TType.eq_iff t u)
 rw [CR,heq]
 simp only [Dq]
 by_cases h1:t.kind=u.kind
 ·by_cases h2:t.name=u.name
  ·rw [if_neg (by simp [h1]),if_neg (by simp [CW.2 h2])]
   by_cases h3:t.kids.length=u.kids.length
   ·rw [if_neg (by simp; omega),Qc t.kids u.kids h3 (by omega) (fun x y=>if x ∈ t.kids then CR (16*szl TType.sz t.kids+8 - 6*t.kids.length) x y else none) (fun x hx y=>by
      have hm2:=Ah (s:=TType.sz) hx
      have hp1:1≤t.kids.length:=List.length_pos_of_mem hx
      show (if x ∈ t.kids then _ else _)=_
      rw [if_pos hx,ih x hx (by omega) y _ (by omega)]) (fun n i=>DA n t u i) n (16*szl TType.sz t.kids+8 - 6*t.kids.length) (fun m i hm=>by
      show DA (m+1) t u i=_
      rw [DA]
      congr 1
      cases ha:at? t.kids i with
      |none=>rfl
      | some x=>
       have hx:x ∈ t.kids:=by
        unfold at? at ha; split at ha
        ·exact List.mem_of_getElem? ha
        ·cases ha
       have hm2:=Ah (s:=TType.sz) hx
       have hp1:1≤t.kids.length:=List.length_pos_of_mem hx
       rw [AA,AA]
       congr 1
       funext y
       rw [if_pos hx,ih x hx (by omega) y m (by omega),ih x hx (by omega) y _ (by omega)]) (by omega)]
    simp [h1,h2]
   ·rw [if_pos (by simp; omega)]
    have:t.kids≠u.kids:=fun h=>h3 (by rw [h])
    simp [this]
  ·have hs:sameStr t.name u.name=false:=by
    cases h:sameStr t.name u.name with
    |false=>rfl
    |true=>exact absurd (CW.1 h) h2
   rw [if_neg (by simp [h1]),hs]; simp [h2]
 ·rw [if_pos (by simp [h1]),if_pos trivial]; simp [h1]
theorem T6 (l m:List TType) (hl:l.length≤Big) (f:TType→TType→Option Bool) (hf:∀x ∈ l,∀y,f x y=some (decide (x=y))):Bp l m f=some (decide (l=m)):=by
 unfold Bp
 by_cases h3:l.length=m.length
 ·rw [if_neg (by simp; omega)]
  exact Qc l m h3 hl f hf (fun n i=>BK n l m i f) fuel 0 (fun n i _=>rfl) (CY (by unfold Big at hl; omega))
 ·rw [if_pos (by simp; omega)]
  have:l≠m:=fun h=>h3 (by rw [h])
  simp [this]
theorem Gn:∀t:TType,t.sz≤Big→∀ (u:TType) (n:Nat),16*t.sz+16≤n→Cc n t u=some (decide (t=u)):=by
 refine TType.ind fun t ih hz u n hn=>?_
 obtain⟨n,rfl⟩:∃m,n=m+1:=⟨n - 1,by omega⟩
 have hsz:=t.sz_eq
 have hlen:=AZ TType.sz t.kids
 have hB:=bgE
 have heq:decide (t=u)=decide (t.kind=u.kind∧t.name=u.name∧t.kids=u.kids):=decide_eq_decide.2 (TType.eq_iff t u)
 rw [Cc,T6 t.kids u.kids (by omega) _ (fun x hx y=>by
   have hm2:=Ah (s:=TType.sz) hx
   have hp1:1≤t.kids.length:=List.length_pos_of_mem hx
   exact ih x hx (by omega) y n (by omega)),AA,heq]
 by_cases h1:t.kind=u.kind
 ·by_cases h2:t.name=u.name
  ·rw [if_pos (by simp [h1]),if_pos (CW.2 h2)]; simp [h1,h2]
  ·rw [if_pos (by simp [h1]),if_neg (fun h=>h2 (CW.1 h))]; simp [h2]
 ·rw [if_neg (by simp [h1])]; simp [h1]
theorem QW (l m:List TType) (hl:szl TType.sz l≤Big):E9 l m=some (decide (l=m)):=by
 unfold E9
 have hlen:=AZ TType.sz l
 by_cases h3:l.length=m.length
 ·rw [if_neg (by simp; omega)]
  exact Qc l m h3 (by omega) (fun x y=>if x ∈ l then CR fuel x y else none) (fun x hx y=>by
   have hm2:=Ah (s:=TType.sz) hx
   show (if x ∈ l then _ else _)=_
   rw [if_pos hx]; exact JX x (by omega) y fuel (D8 (by omega))) (fun n i=>By n l m i) fuel 0 (fun n i _=>by
   show By (n+1) l m i=_
   rw [By]
   congr 1
   cases ha:at? l i with
   |none=>rfl
   | some x=>
    have hx:x ∈ l:=by
     unfold at? at ha; split at ha
     ·exact List.mem_of_getElem? ha
     ·cases ha
    rw [AA,AA]
    congr 1
    funext y
    rw [if_pos hx]) (CY (by unfold Big at hl; omega))
 ·rw [if_pos (by simp; omega)]
  have:l≠m:=fun h=>h3 (by rw [h])
  simp [this]
def IE {α:Type} (p:α→Bool):List α→Int
 | [] => -1
 |x::r=>if p x=true then (r.length:Int) else IE p r
def lidx {α:Type} (p:α→Bool) (l:List α):Int:=IE p l.reverse
theorem UP {α:Type} (p:α→Bool):∀r:List α,-1≤IE p r∧IE p r<r.length∧(IE p r= -1↔r.any p=false)
 | [] =>by simp [IE]
 | x::r=>by
  have ih:=UP p r
  rw [IE]
  by_cases hp:p x=true
  ·simp [hp]; omega
  ·simp only [hp,if_false,List.length_cons,List.any_cons,Bool.false_or,Bool.false_eq_true]
   exact⟨ih.1,by omega,ih.2.2⟩
theorem JV {α:Type} (p:α→Bool) (l:List α):decide (0≤lidx p l)=l.any p:=by
 have:=UP p l.reverse
 unfold lidx
 rw [List.any_reverse] at this
 cases h:l.any p with
 |false=>have:=this.2.2.2 h; simp; omega
 |true=>
  have h2:IE p l.reverse≠ -1:=fun h'=>by rw [this.2.2.1 h'] at h; cases h
  simp; omega
theorem Sc (l:List ByteArray) (s:ByteArray) (hl:l.length≤Big):HX l s=some (lidx (fun k=>sameStr k s) l):=by
 unfold HX
 have key:∀ (r post:List ByteArray) (n:Nat),l=r.reverse++post→r.length+1≤n→E0 n l s ((r.length:Int) - 1)=some (IE (fun k=>sameStr k s) r):=by
  intro r
  induction r with
  |nil=>
   intro post n h hn
   obtain⟨n,rfl⟩:∃m,n=m+1:=⟨n - 1,by omega⟩
   rw [E0,if_neg (by simp)]; rfl
  | cons x r ih=>
   intro post n h hn
   obtain⟨n,rfl⟩:∃m,n=m+1:=⟨n - 1,by omega⟩
   have h':l=r.reverse++x::post:=by rw [h]; simp
   have e:(((x::r).length :Int) - 1)=(r.reverse.length:Int):=by simp
   have hl2:r.length≤Big:=by rw [h'] at hl; simp at hl; omega
   rw [E0,e,if_pos (by simp),AW h',AA,IE]
   by_cases hx:sameStr x s=true
   ·rw [if_pos hx,if_pos hx]; simp
   ·rw [if_neg hx,if_neg hx,w64 (by omega) (by simp; unfold Big at hl2; omega)]
    have:=ih (x::post) n h' (by simp at hn; omega)
    rw [List.length_reverse]; exact this
 have:=key l.reverse [] fuel (by simp) (CY (by simp; unfold Big at hl; omega))
 rw [w64 (by omega) (by unfold Big at hl; omega)]
 rw [List.length_reverse] at this
 exact this
def okn (pre:List ByteArray) (x:ByteArray):Bool:=lowB x&& !(pre.any fun k=>sameStr k x)
def distB (l:List ByteArray):Bool:=allp okn [] l
theorem RA (l:List ByteArray) (hl:l.length≤Big):Ff l=some (distB l):=by
 unfold Ff distB
 have hB:=bgE
 have:=Cr (L:=fun n (_:Unit) i=>A4 n l i) l 2 1 (fun _=>()) okn (some false) (some true) (fun N R pre x post hh hp hN hR m hm=>by
   obtain⟨m,rfl⟩:∃k,m=k+2:=⟨m - 2,by omega⟩
   have hpl:pre.length+1≤l.length:=by rw [hh]; simp
   show A4 (m+2) l _=_
   rw [A4,if_pos (Ai hh),AW hh,AA,J3,AA,Si hh,AA,AA,Sc pre x (by omega),AA,JV]
   simp only [DC]
   rw [AP hh hl,okn]
   have hR:=hR
   rw [okn] at hR
   rcases btf (lowB x) with e1|e1 <;> rcases btf (pre.any fun k=>sameStr k x) with e2|e2 <;> simp only [e1,e2,Bool.not_true,Bool.not_false,Bool.true_and,Bool.false_and,Bool.false_eq_true,if_true,if_false,forall_const] at hR ⊢
   exact hR m (by omega)) (fun _ m hm=>by
   obtain⟨m,rfl⟩:∃k,m=k+1:=⟨m - 1,by omega⟩
   show A4 (m+1) l _=_
   rw [A4]; simp) fuel (CY (by omega))
 have h0:A4 fuel l 0=_:=this
 rw [h0]
 cases allp okn [] l <;> simp
theorem O3 (l:List ByteArray) (hl:l.length≤Big):Dd l=some (distB l&&decide (l.length≤3)):=by
 unfold Dd distB
 have hB:=bgE
 have:=Cr (L:=fun n (_:Unit) i=>Ag n l i) l 2 1 (fun _=>()) okn (some false) (some (decide (l.length≤3))) (fun N R pre x post hh hp hN hR m hm=>by
   obtain⟨m,rfl⟩:∃k,m=k+2:=⟨m - 2,by omega⟩
   have hpl:pre.length+1≤l.length:=by rw [hh]; simp
   show Ag (m+2) l _=_
   rw [Ag,if_pos (Ai hh),AW hh,AA,J4,AA,Si hh,AA,IJ pre x (by omega),AA]
   simp only [CB]
   rw [AP hh hl,okn]
   have hR:=hR
   rw [okn] at hR
   have hcm:(pre.any fun k=>sameStr x k)=pre.any fun k=>sameStr k x:=by congr 1; funext k; exact Hc x k
   rw [hcm]
   rcases btf (lowB x) with e1|e1 <;> rcases btf (pre.any fun k=>sameStr k x) with e2|e2 <;> simp only [e1,e2,Bool.not_true,Bool.not_false,Bool.true_and,Bool.false_and,Bool.false_eq_true,if_true,if_false,forall_const] at hR ⊢
   exact hR m (by omega)) (fun _ m hm=>by
   obtain⟨m,rfl⟩:∃k,m=k+1:=⟨m - 1,by omega⟩
   show Ag (m+1) l _=_
   rw [Ag,if_neg (by simp)]
   congr 2; exact propext ⟨fun h=>by omega,fun h=>by omega⟩) fuel (CY (by omega))
 have h0:Ag fuel l 0=_:=this
 rw [h0]
 cases allp okn [] l <;> simp
noncomputable def noT (t:TType):Bool:=decide (t=⟨0,ByteArray.empty,[]⟩)
theorem UQ (t:TType):F5 t=some (noT t):=by
 unfold F5 noT
 have heq:decide (t=⟨0,ByteArray.empty,[]⟩)=decide (t.kind=0∧t.name=ByteArray.empty∧t.kids=[]):=decide_eq_decide.2 (TType.eq_iff t _)
 rw [heq]
 by_cases h1:t.kind=0
 ·rw [if_pos (by simp [h1])]
  by_cases h2:sameStr t.name (ByteArray.mk #[])=true
  ·have h3:t.name=ByteArray.empty:=CW.1 h2
   rw [if_pos h2]
   congr 1
   refine decide_eq_decide.2 ⟨fun h=>⟨h1,h3,List.eq_nil_of_length_eq_zero (by omega)⟩,fun h=>by rw [h.2.2]; rfl⟩
  ·rw [if_neg h2]
   have h3:¬t.name=ByteArray.empty:=fun h=>h2 (CW.2 h)
   simp [h3]
 ·rw [if_neg (by simp [h1])]; simp [h1]
theorem RB (t:TType) (h:t.sz≤Big):GM t=some (noT t):=by
 unfold GM noT
 rw [Gn t h _ fuel (D8 h),AA]
def kLo (k:Int):Int:=if k=1∨k=2∨k=8 then 0 else if k=4∨k=6∨k=10 then 1 else if k=3∨k=5∨k=7∨k=9 then 2 else if k=11 then 3 else 0
def kHi (k:Int):Int:=if k=1∨k=2 then 0 else if k=4∨k=6∨k=10 then 1 else if k=3∨k=5∨k=7 then 2 else if k=8∨k=11 then 3 else if k=9 then 5 else -1
theorem kind_cases (k:Int):k=1∨k=2∨k=3∨k=4∨k=5∨k=6∨k=7∨k=8∨k=9∨k=10∨k=11∨(k≠1∧k≠2∧k≠3∧k≠4∧k≠5∧k≠6∧k≠7∧k≠8∧k≠9∧k≠10∧k≠11):=by omega
theorem Xt (k:Int):JJ k=some (kLo k,kHi k):=by
 unfold JJ GI FO FN kLo kHi
 rcases kind_cases k with h|h|h|h|h|h|h|h|h|h|h|⟨h1,h2,h3,h4,h5,h6,h7,h8,h9,h10,h11⟩
 all_goals first|(subst h; rfl)|simp [h1,h2,h3,h4,h5,h6,h7,h8,h9,h10,h11]
def J5 (t:Term):Bool:=decide (kLo t.kind≤(t.kids.length:Int))&&decide ((t.kids.length:Int)≤kHi t.kind)
noncomputable def fldB (t:Term):Bool:=
 (if t.kind=1∨t.kind=4∨t.kind=7 then lowB t.name else if t.kind=8∨t.kind=10 then upB t.name else Sa t.name)&&
 (if t.kind=4 then vtB t.typ else noT t.typ)&&
 (if t.kind=10 then decide (t.names.length≤3)&&distB t.names else decide (t.names.length=0))&&
 (if t.kind=2 then decide (-2147483648≤t.num)&&decide (t.num≤2147483647) else if t.kind=3 then decide (1≤t.num)&&decide (t.num≤6) else decide (t.num=0))
theorem UR (t:Term) (hz:t.sz≤Big):Gz t=some (fldB t):=by
 have hsz:=t.sz_eq
 have hB:=bgE
 unfold Gz Dz E3 Ak Cf E2 E1 fldB
 rw [J3,Hd,IG t.typ (by omega),UQ,RA t.names (by omega),ZR,ZR]
 simp only [AA]
 have z0:decide ((0:Int)<(t.names.length:Int))= !decide (t.names.length=0):=by rw [← decide_not]; congr 1; exact propext ⟨fun h=>by omega,fun h=>by omega⟩
 have z3:decide ((3:Int)<(t.names.length:Int))= !decide (t.names.length≤3):=by rw [← decide_not]; congr 1; exact propext ⟨fun h=>by omega,fun h=>by omega⟩
 rw [z0,z3,Sa]
 generalize lowB t.name=L
 generalize upB t.name=U
 generalize vtB t.typ=V
 generalize noT t.typ=W
 generalize distB t.names=D
 generalize sameStr t.name (ByteArray.mk #[])=E
 generalize decide (t.names.length=0)=c0
 generalize decide (t.names.length≤3)=c3
 generalize t.num=num
 generalize t.kind=k
 rcases kind_cases k with h|h|h|h|h|h|h|h|h|h|h|⟨h1,h2,h3,h4,h5,h6,h7,h8,h9,h10,h11⟩
 ·subst h; cases L <;> cases W <;> cases c0 <;> rfl
 ·subst h; cases E <;> cases W <;> cases c0 <;> rfl
 ·subst h; cases E <;> cases W <;> cases c0 <;> rfl
 ·subst h; cases L <;> cases V <;> cases c0 <;> rfl
 ·subst h; cases E <;> cases W <;> cases c0 <;> rfl
 ·subst h; cases E <;> cases W <;> cases c0 <;> rfl
 ·subst h; cases L <;> cases W <;> cases c0 <;> rfl
 ·subst h; cases U <;> cases W <;> cases c0 <;> rfl
 ·subst h; cases E <;> cases W <;> cases c0 <;> rfl
 ·subst h; cases U <;> cases W <;> cases c3 <;> cases D <;> rfl
 ·subst h; cases E <;> cases W <;> cases c0 <;> rfl
 ·cases E <;> cases W <;> cases c0 <;> simp [h1,h2,h3,h4,h7,h8,h10]
theorem Xu (t:Term) (hz:t.sz≤Big):G1 t=some (J5 t&&fldB t):=by
 have hsz:=t.sz_eq
 have hB:=bgE
 unfold G1 Al J5 fldB
 rw [RB t.typ (by omega),J4,He,II t.typ (by omega),O3 t.names (by omega)]
 simp only [AA,PR,HZ]
 have z0:decide ((0:Int)<(t.names.length:Int))= !decide (t.names.length=0):=by rw [← decide_not]; congr 1; exact propext ⟨fun h=>by omega,fun h=>by omega⟩
 rw [z0,Sa]
 generalize lowB t.name=L
 generalize upB t.name=U
 generalize vtB t.typ=V
 generalize noT t.typ=W
 generalize distB t.names=D
 generalize sameStr t.name (ByteArray.mk #[])=E
 generalize decide (t.names.length=0)=c0
 generalize decide (t.names.length≤3)=c3
 generalize t.num=num
 generalize t.kind=k
 have hn:(0:Int)≤(t.kids.length:Int):=by omega
 generalize (t.kids.length:Int)=n at hn
 have two:∀a b:Int,(if decide (a≤num)=true then some (decide (num≤b)) else some false)=some (decide (a≤num)&&decide (num≤b)):=fun a b=>by cases decide (a≤num) <;> simp
 have eqn:∀a:Int,decide (n=a)=(decide (a≤n)&&decide (n≤a)):=fun a=>by rw [← Bool.decide_and]; exact decide_eq_decide.2 ⟨fun h=>by omega,fun h=>by omega⟩
 have two9:(if decide (2≤n)=true then some (decide (n≤5)) else some false)=some (decide (2≤n)&&decide (n≤5)):=by cases decide (2≤n) <;> simp
 have pos:decide (0≤n)=true:=by simpa using hn
 simp only [two,two9,eqn]
 rcases kind_cases k with h|h|h|h|h|h|h|h|h|h|h|⟨h1,h2,h3,h4,h5,h6,h7,h8,h9,h10,h11⟩
 ·subst h; cases L <;> cases W <;> cases c0 <;> simp [kLo,kHi,hn] <;> (try split) <;> (try simp_all) <;> (try (split <;> simp_all)) <;> (try (intros; omega))
 ·subst h; cases E <;> cases W <;> cases c0 <;> simp [kLo,kHi,hn] <;> (try split) <;> (try simp_all) <;> (try (split <;> simp_all)) <;> (try (intros; omega))
 ·subst h; cases E <;> cases W <;> cases c0 <;> simp [kLo,kHi,hn] <;> (try split) <;> (try simp_all) <;> (try (split <;> simp_all)) <;> (try (intros; omega))
 ·subst h; cases L <;> cases V <;> cases c0 <;> simp [kLo,kHi,hn] <;> (try split) <;> (try simp_all) <;> (try (split <;> simp_all)) <;> (try (intros; omega))
 ·subst h; cases E <;> cases W <;> cases c0 <;> simp [kLo,kHi,hn] <;> (try split) <;> (try simp_all) <;> (try (split <;> simp_all)) <;> (try (intros; omega))
 ·subst h; cases E <;> cases W <;> cases c0 <;> simp [kLo,kHi,hn] <;> (try split) <;> (try simp_all) <;> (try (split <;> simp_all)) <;> (try (intros; omega))
 ·subst h; cases L <;> cases W <;> cases c0 <;> simp [kLo,kHi,hn] <;> (try split) <;> (try simp_all) <;> (try (split <;> simp_all)) <;> (try (intros; omega))
 ·subst h; cases U <;> cases W <;> cases c0 <;> simp [kLo,kHi,hn] <;> (try split) <;> (try simp_all) <;> (try (split <;> simp_all)) <;> (try (intros; omega))
 ·subst h; cases E <;> cases W <;> cases c0 <;> simp [kLo,kHi,hn] <;> (try split) <;> (try simp_all) <;> (try (split <;> simp_all)) <;> (try (intros; omega))
 ·subst h; cases U <;> cases W <;> cases c3 <;> cases D <;> simp [kLo,kHi,hn] <;> (try split) <;> (try simp_all) <;> (try (split <;> simp_all)) <;> (try (intros; omega))
 ·subst h; cases E <;> cases W <;> cases c0 <;> simp [kLo,kHi,hn] <;> (try split) <;> (try simp_all) <;> (try (split <;> simp_all)) <;> (try (intros; omega))
 ·cases E <;> cases W <;> cases c0 <;> simp [kLo,kHi,h1,h2,h3,h4,h5,h6,h7,h8,h9,h10,h11] <;> omega
theorem NO {α:Type} (a b:List α→α→Bool):∀ (l pre:List α),allp (fun p x=>a p x&&b p x) pre l=(allp a pre l&&allp b pre l)
 | [],_=>rfl
 |x::l,pre=>by
  simp only [allp,NO a b l]
  cases a pre x <;> cases b pre x <;> cases allp a (pre++[x]) l <;> simp
theorem GU {α:Type} (f:α→Bool):∀ (l pre:List α),allp (fun _ x=>f x) pre l=l.all f
 | [],_=>rfl
 |x::l,pre=>by simp only [allp,List.all_cons,GU f l]
def Ej (k:Int) (pre:List Term) (x:Term):Bool:=decide (x.kind=10) == (decide (k=9)&&decide (0<pre.length))
noncomputable def bH (t:Term):Bool:=J5 t&&fldB t&&allp (Ej t.kind) [] t.kids
mutual
noncomputable def Term.okS:Term→Bool
 |⟨k,num,nm,ty,nms,ks⟩=>bH ⟨k,num,nm,ty,nms,ks⟩&&Term.okSs ks
noncomputable def Term.okSs:List Term→Bool
 | [] =>true
 |x::l=>Term.okS x&&Term.okSs l
end
theorem Term.okSs_eq:∀l:List Term,Term.okSs l=l.all Term.okS
 | [] =>by rw [Term.okSs]; rfl
 |x::l=>by rw [Term.okSs,List.all_cons,Term.okSs_eq l]
theorem Term.okS_eq (t:Term):t.okS=(bH t&&t.kids.all Term.okS):=by cases t; rw [Term.okS,Term.okSs_eq]
mutual
def Term.dep:Term→Nat
 |⟨_,_,_,_,_,ks⟩=>Term.deps ks
def Term.deps:List Term→Nat
 | [] =>1
 |x::l=>max (Term.dep x+1) (Term.deps l)
end
mutual
def Term.cnt:Term→Nat
 |⟨_,_,_,_,_,ks⟩=>Term.cnts ks
def Term.cnts:List Term→Nat
 | [] =>1
 |x::l=>Term.cnt x+Term.cnts l
end
theorem Term.dep_eq (t:Term):t.dep=Term.deps t.kids:=by cases t; rfl
theorem Term.cnt_eq (t:Term):t.cnt=Term.cnts t.kids:=by cases t; rfl
theorem Term.deps_app (x:Term):∀l:List Term,Term.deps (l++[x])=max (Term.deps l) (x.dep+1)
 | [] =>by simp only [List.nil_append,Term.deps]; omega
 |y::l=>by simp only [List.cons_append,Term.deps,Term.deps_app x l]; omega
theorem Term.cnts_app (x:Term):∀l:List Term,Term.cnts (l++[x])=Term.cnts l+x.cnt
 | [] =>by simp only [List.nil_append,Term.cnts]; omega
 |y::l=>by simp only [List.cons_append,Term.cnts,Term.cnts_app x l]; omega
theorem Term.deps_le:∀ {l:List Term} {d:Nat},1≤d→(Term.deps l≤d↔∀x ∈ l,x.dep+1≤d)
 | [],d,h=>by simp [Term.deps]; exact h
 |y::l,d,h=>by
  have:=Term.deps_le (l:=l) h
  simp only [Term.deps,List.mem_cons,forall_eq_or_imp,← this]; omega
theorem Term.one_le (l:List Term):1≤Term.deps l∧1≤Term.cnts l:=by
 induction l with
 |nil=>simp [Term.deps,Term.cnts]
 |cons x l ih=>simp only [Term.deps,Term.cnts]; omega
theorem Term.cnts_le {l:List Term} (h:∀x ∈ l,x.cnt≤x.sz+1):Term.cnts l≤szl Term.sz l+1:=by
 induction l with
 |nil=>simp [Term.cnts]
 |cons x l ih=>
  have h1:=h x (by simp)
  have h2:=ih fun y hy=>h y (by simp [hy])
  simp only [Term.cnts,szl]; omega
theorem Term.cnt_le:∀t:Term,t.cnt≤t.sz+1:=by
 refine Term.ind fun t ih=>?_
 have:=Term.cnts_le ih
 rw [Term.cnt_eq,Term.sz_eq]; omega
theorem Term.deps_cnts {l:List Term} (h:∀x ∈ l,x.dep≤x.cnt):Term.deps l≤Term.cnts l:=by
 induction l with
 |nil=>simp [Term.deps,Term.cnts]
 |cons x l ih=>
  have h1:=h x (by simp)
  have h2:=ih fun y hy=>h y (by simp [hy])
  have:=Term.one_le l
  simp only [Term.deps,Term.cnts]; omega
theorem Term.dep_le:∀t:Term,t.dep≤t.cnt:=by
 refine Term.ind fun t ih=>?_
 rw [Term.cnt_eq,Term.dep_eq]; exact Term.deps_cnts ih
theorem Term.cnts_pre' (post:List Term) (x:Term):∀ (p:List Term),Term.cnts p+x.cnt≤Term.cnts (p++x::post)
 | [] =>by have:=Term.one_le post; simp only [List.nil_append,Term.cnts]; omega
 |y::p=>by have:=Term.cnts_pre' post x p; simp only [List.cons_append,Term.cnts]; omega
theorem Term.cnts_pre {l pre post:List Term} {x:Term} (h:l=pre++x::post):Term.cnts pre+x.cnt≤szl Term.sz l+1:=by
 have h1:Term.cnts l≤szl Term.sz l+1:=Term.cnts_le fun y _=>y.cnt_le
 have:=Term.cnts_pre' post x pre
 rw [h] at h1 ⊢
 omega
theorem OI (left:Int):∀ (post pre:List Term),((Term.cnts pre:Nat):Int)≤left→allp (fun p x=>decide (((Term.cnts p:Nat):Int)+(x.cnt:Int)≤left)) pre post=decide (((Term.cnts (pre++post):Nat):Int)≤left)
 | [],pre,h=>by simp [allp]; exact h
 | x::post,pre,h=>by
  rw [allp]
  by_cases h1:((Term.cnts pre:Nat):Int)+(x.cnt:Int)≤left
  ·rw [OI left post (pre++[x]) (by rw [Term.cnts_app]; omega)]
   simp [h1]
  ·have:=Term.cnts_pre' post x pre
   rw [show decide (((Term.cnts pre:Nat):Int)+(x.cnt:Int)≤left)=false from by simpa using h1,Bool.false_and]
   symm; simp; omega
theorem In {t:Term} (h:t.sz≤Big):16*t.sz+16≤fuel:=CY (by unfold Big at h; omega)
theorem US:∀t:Term,t.sz≤Big→∀ (n:Nat) (d left:Int) (c:Bool),0≤d→d≤100→0≤left→left≤1000→16*t.sz+16≤n→
  EK n t d c left=some (if ((decide (t.kind=10) == c)&&t.okS&&decide ((t.dep:Int)≤d)&&decide ((t.cnt:Int)≤left))=true then (t.cnt:Int) else -1):=by
 refine Term.ind fun t ih hz n d left c hd0 hd1 hl0 hl1 hn=>?_
 obtain⟨n,rfl⟩:∃m,n=m+2:=⟨n - 2,by omega⟩
 have hsz:=t.sz_eq
 have hlen:=AZ Term.sz t.kids
 have hB:=bgE
 have hl:t.kids.length≤Big:=by omega
 have h1d:1≤t.dep:=by rw [Term.dep_eq]; exact(Term.one_le _).1
 have h1c:1≤t.cnt:=by rw [Term.cnt_eq]; exact(Term.one_le _).2
 rw [EK,Xt,AA]
 simp only [Ce,if_true]
 by_cases hd:d<1
 ·rw [if_pos (by simpa using hd),if_neg]
  simp; intros; omega
 rw [if_neg (by simpa using hd)]
 by_cases hle:left<1
 ·rw [if_pos (by simpa using hle),if_neg]
  simp; intros; omega
 rw [if_neg (by simpa using hle)]
 rcases btf (decide (t.kind=10) == c) with hc|hc
 rotate_left
 ·rw [hc]; simp
 rw [hc,if_neg (by simp),ZR,AA,UR t hz,AA]
 have hin:(decide (kLo t.kind≤(t.kids.length:Int))&&decide ((t.kids.length:Int)≤kHi t.kind))=J5 t:=rfl
 rw [hin]
 let okp:List Term→Term→Bool:=fun pre x=>Ej t.kind pre x&&(x.okS&&(decide ((x.dep:Int)≤d - 1)&&decide (((Term.cnts pre:Nat):Int)+(x.cnt:Int)≤left)))
 have hloop:Bi n t d left 1 0=if allp okp [] t.kids=true then some ((Term.cnts t.kids:Nat):Int) else some (-1):=by
  refine Cr (L:=fun n (s:Int) i=>Bi n t d left s i) t.kids 2 (16*szl Term.sz t.kids+8 - 6*t.kids.length) (fun pre=>((Term.cnts pre:Nat):Int)) okp (some (-1)) _ (fun N R pre x post hh hp hN hR m hm=>?_) (fun hp m hm=>?_) n (by omega)
  ·obtain⟨m,rfl⟩:∃k,m=k+2:=⟨m - 2,by omega⟩
   have hx:=BZ hh
   have hm2:=Ah (s:=Term.sz) hx
   have hp1:1≤t.kids.length:=List.length_pos_of_mem hx
   have hcp:((Term.cnts pre:Nat):Int)≤left:=by
    have h2:allp (fun p x=>decide (((Term.cnts p:Nat):Int)+(x.cnt:Int)≤left)) [] pre=true:=by
     have h3:=hp
     simp only [okp,NO] at h3
     simp only [Bool.and_eq_true] at h3
     exact h3.2.2.2
    rw [OI left pre [] (by simp [Term.cnts]; omega)] at h2
    simpa using h2
   have h1p:=Term.one_le pre
   show Bi (m+2) t d left _ _=_
   have hcase:∀ (v:Option Int→Option Int),True:=fun _=>trivial
   rw [Bi,if_pos (Ai hh),AW hh,AA,w64 (by omega) (by omega),w64 (by omega) (by omega)]
   have hb:decide ((0:Int)<(pre.length:Int))=decide (0<pre.length):=decide_eq_decide.2 ⟨fun h=>by omega,fun h=>by omega⟩
   rw [hb,ih x hx (by omega) (m+1) (d - 1) (left - (Term.cnts pre:Nat)) (decide (0<pre.length)) (by omega) (by omega) (by omega) (by omega) (by omega),ih x hx (by omega) (m+1) (d - 1) (left - (Term.cnts pre:Nat)) false (by omega) (by omega) (by omega) (by omega) (by omega)]
   simp only [AA,Ed]
   have hsub:decide ((x.cnt:Int)≤left - ((Term.cnts pre:Nat):Int))=decide (((Term.cnts pre:Nat):Int)+(x.cnt:Int)≤left):=decide_eq_decide.2 ⟨fun h=>by omega,fun h=>by omega⟩
   rw [hsub]
   have hall:okp pre x=(Ej t.kind pre x&&(x.okS&&(decide ((x.dep:Int)≤d - 1)&&decide (((Term.cnts pre:Nat):Int)+(x.cnt:Int)≤left)))):=rfl
   have hcp2:=Term.cnts_pre hh
   have step:∀b:Bool,Ej t.kind pre x=(decide (x.kind=10) == b)→
     (if decide ((if ((decide (x.kind=10) == b)&&x.okS&&decide ((x.dep:Int)≤d - 1)&&decide (((Term.cnts pre:Nat):Int)+(x.cnt:Int)≤left))=true then (x.cnt:Int) else -1)<0)=true then some (-1)
      else Bi m t d left (IntKind.i64.wrap (((Term.cnts pre:Nat):Int)+(if ((decide (x.kind=10) == b)&&x.okS&&decide ((x.dep:Int)≤d - 1)&&decide (((Term.cnts pre:Nat):Int)+(x.cnt:Int)≤left))=true then (x.cnt:Int) else -1))) (IntKind.i64.wrap ((pre.length:Int)+1)))=if okp pre x=true then R else some (-1):=fun b hb=>by
    have e:((decide (x.kind=10) == b)&&x.okS&&decide ((x.dep:Int)≤d - 1)&&decide (((Term.cnts pre:Nat):Int)+(x.cnt:Int)≤left))=okp pre x:=by rw [hall,hb]; simp only [Bool.and_assoc]
    rw [e]
    by_cases hk:okp pre x=true
    ·rw [if_pos hk,if_pos hk,if_neg (by simp),AP hh hl,show (((Term.cnts pre:Nat):Int)+(x.cnt:Int))=((Term.cnts pre+x.cnt:Nat):Int) from by simp,R9 (by omega),← Term.cnts_app]
     exact hR hk m (by omega)
    ·rw [if_neg hk,if_neg hk,if_pos (by decide)]
   by_cases h9:t.kind=9
   ·rw [if_pos (by simpa using h9)]
    exact step _ (by simp [Ej,h9])
   ·rw [if_neg (by simpa using h9)]
    exact step _ (by simp [Ej,h9])
  ·obtain⟨m,rfl⟩:∃k,m=k+1:=⟨m - 1,by omega⟩
   show Bi (m+1) t d left _ _=_
   rw [Bi,if_neg (by simp)]
 have hall:(t.okS&&decide ((t.dep:Int)≤d)&&decide ((t.cnt:Int)≤left))=(J5 t&&fldB t&&allp okp [] t.kids):=by
  rw [Term.okS_eq,bH]
  simp only [okp,NO]
  have ha1:allp (fun (_:List Term) (x:Term)=>x.okS) [] t.kids=t.kids.all Term.okS:=GU Term.okS t.kids []
  have ha2:allp (fun (_:List Term) (x:Term)=>decide ((x.dep:Int)≤d - 1)) [] t.kids=t.kids.all fun x=>decide ((x.dep:Int)≤d - 1):=GU (fun x:Term=>decide ((x.dep:Int)≤d - 1)) t.kids []
  rw [OI left t.kids [] (by simp [Term.cnts]; omega),ha1,ha2,List.nil_append,← Term.cnt_eq]
  have hdd:decide ((t.dep:Int)≤d)=t.kids.all fun x=>decide ((x.dep:Int)≤d - 1):=by
   rw [Bool.eq_iff_iff]
   simp only [List.all_eq_true,decide_eq_true_eq]
   have:=Term.deps_le (l:=t.kids) (d:=d.toNat) (by omega)
   rw [Term.dep_eq]
   constructor
   ·intro h x hx
    have:=this.1 (by omega) x hx
    omega
   ·intro h
    have:=this.2 fun x hx=>by have:=h x hx; omega
    omega
  rw [hdd]
  simp only [Bool.and_assoc]
 rw [Bool.true_and,hall,hloop]
 rcases btf (J5 t) with e1|e1 <;> rcases btf (fldB t) with e2|e2 <;> rcases btf (allp okp [] t.kids) with e3|e3 <;> simp [e1,e2,e3,Term.cnt_eq]
theorem UT:∀t:Term,t.sz≤Big→∀n,16*t.sz+16≤n→∃a b,ED n t=some (a,b,t.okS)∧(t.okS=true→a=(t.dep:Int)∧b=(t.cnt:Int)):=by
 refine Term.ind fun t ih hz n hn=>?_
 obtain⟨n,rfl⟩:∃m,n=m+1:=⟨n - 1,by omega⟩
 have hsz:=t.sz_eq
 have hlen:=AZ Term.sz t.kids
 have hB:=bgE
 have hl:t.kids.length≤Big:=by omega
 rw [ED,Xu t hz,AA,Term.okS_eq,bH]
 rcases btf (J5 t&&fldB t) with e1|e1
 rotate_left
 ·rw [e1]; exact⟨0,0,by simp,by simp⟩
 rw [e1,if_neg (by simp)]
 let okp:List Term→Term→Bool:=fun pre x=>Ej t.kind pre x&&x.okS
 have main:=Cr (L:=fun n (s:Int × Int) i=>Bf n t s.1 s.2 i) t.kids 2 (16*szl Term.sz t.kids+8 - 6*t.kids.length) (fun pre=>((Term.deps pre:Int),(Term.cnts pre:Int))) okp (some (0,0,false)) (some ((Term.deps t.kids:Int),(Term.cnts t.kids:Int),true))
  (fun N R pre x post hh hp hN hR m hm=>by
   obtain⟨m,rfl⟩:∃k,m=k+2:=⟨m - 2,by omega⟩
   have hx:=BZ hh
   have hm2:=Ah (s:=Term.sz) hx
   have hp1:1≤t.kids.length:=List.length_pos_of_mem hx
   obtain⟨a,b,e1,e2⟩:=ih x hx (by omega) m (by omega)
   show Bf (m+2) t _ _ _=_
   have hb:decide ((0:Int)<(pre.length:Int))=decide (0<pre.length):=decide_eq_decide.2 ⟨fun h=>by omega,fun h=>by omega⟩
   rw [Bf,if_pos (Ai hh),AW hh,AA,hb]
   simp only [D1]
   have hoc:(if decide (t.kind=9)=true then (!(decide (x.kind=10) == decide (0<pre.length))) else (!(decide (x.kind=10) == false)))= !Ej t.kind pre x:=by
    by_cases h9:t.kind=9 <;> simp [Ej,h9]
   have hif:∀ (c p q:Bool) (X Y:Option (Int × Int × Bool)),(if c=true then (if p=true then X else Y) else (if q=true then X else Y))=if (if c=true then p else q)=true then X else Y:=fun c p q X Y=>by cases c <;> simp
   rw [hif,hoc,e1,AA]
   rcases btf (Ej t.kind pre x) with o1|o1
   rotate_left
   ·simp [okp,o1]
   rcases btf x.okS with ho|ho
   rotate_left
   ·simp [okp,o1,ho]
   obtain⟨rfl,rfl⟩:=e2 ho
   have hc:=Term.cnts_pre hh
   have hd:=x.dep_le
   have hw:=AP hh hl
   have hok:okp pre x=true:=by simp [okp,o1,ho]
   have hR:=hR hok m (by omega)
   simp only [Term.deps_app,Term.cnts_app] at hR
   rw [hok,if_pos rfl,← hR]
   simp only [o1,ho,Bool.not_true,Bool.false_eq_true,if_false]
   rw [hw,show ((x.dep:Int)+1)=((x.dep+1:Nat):Int) from by simp,R9 (by omega),show ((Term.cnts pre:Int)+(x.cnt:Int))=((Term.cnts pre+x.cnt:Nat):Int) from by simp,R9 (by omega)]
   congr 1
   split <;> omega)
  (fun hp m hk=>by
   obtain⟨m,rfl⟩:∃k,m=k+1:=⟨m - 1,by omega⟩
   show Bf (m+1) t _ _ _=_
   rw [Bf,if_neg (by simp)]) n (by omega)
 have main':Bf n t 1 1 0=_:=main
 have hall:allp okp [] t.kids=(allp (Ej t.kind) [] t.kids&&t.kids.all Term.okS):=by
  have ha1:allp (fun (_:List Term) (x:Term)=>x.okS) [] t.kids=t.kids.all Term.okS:=GU Term.okS t.kids []
  simp only [okp,NO]; rw [ha1]
 rw [main',hall,Bool.true_and]
 rcases btf (allp (Ej t.kind) [] t.kids&&t.kids.all Term.okS) with ho|ho
 ·rw [ho,if_pos rfl]
  exact⟨_,_,rfl,fun _=>⟨by rw [Term.dep_eq],by rw [Term.cnt_eq]⟩⟩
 ·rw [ho]
  exact⟨0,0,by simp,by simp⟩
noncomputable def tmB (t:Term):Bool:=decide (t.kind≠10)&&t.okS&&decide (t.dep≤24)&&decide (t.cnt≤160)
theorem UB (t:Term) (h:t.sz≤Big):NH t=some (tmB t):=by
 unfold NH tmB
 rw [US t h fuel 24 160 false (by decide) (by decide) (by decide) (by decide) (In h),AA]
 congr 1
 have hc:1≤t.cnt:=by rw [Term.cnt_eq]; exact(Term.one_le _).2
 have e1:decide ((t.dep:Int)≤24)=decide (t.dep≤24):=decide_eq_decide.2 ⟨fun h=>by omega,fun h=>by omega⟩
 have e2:decide ((t.cnt:Int)≤160)=decide (t.cnt≤160):=decide_eq_decide.2 ⟨fun h=>by omega,fun h=>by omega⟩
 have e3:(decide (t.kind=10) == false)=decide (t.kind≠10):=by by_cases h:t.kind=10 <;> simp [h]
 rw [e1,e2,e3]
 rcases btf (decide (t.kind≠10)&&t.okS&&decide (t.dep≤24)&&decide (t.cnt≤160)) with ho|ho
 ·rw [ho,if_pos rfl]; simp; omega
 ·rw [ho]; simp
theorem UC (t:Term) (h:t.sz≤Big):G2 t=some (tmB t):=by
 unfold G2 tmB
 obtain⟨a,b,e1,e2⟩:=UT t h fuel (In h)
 rw [e1,AA]
 rcases btf t.okS with ho|ho
 rotate_left
 ·simp [ho]
 obtain⟨rfl,rfl⟩:=e2 ho
 have e1:decide ((t.dep:Int)≤24)=decide (t.dep≤24):=decide_eq_decide.2 ⟨fun h=>by omega,fun h=>by omega⟩
 have e2:decide ((t.cnt:Int)≤160)=decide (t.cnt≤160):=decide_eq_decide.2 ⟨fun h=>by omega,fun h=>by omega⟩
 rw [e1,e2,ho]
 by_cases h10:t.kind=10
 ·simp [h10]
 ·rcases btf (decide (t.dep≤24)) with h1|h1 <;> simp [h10,h1]
end Go.Proofs.YtaedfiifhjlmlaaGreat.Ab
