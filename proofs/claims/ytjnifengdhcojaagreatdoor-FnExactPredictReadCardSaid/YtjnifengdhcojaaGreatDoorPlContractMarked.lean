/- Redexes contracted at once. -/
import Derived.Test.YtjnifengdhcojaaGreatDoorPlDw
import Derived.Test.YtjnifengdhcojaaGreatDoorModD
import Derived.Test.YtjnifengdhcojaaGreatDoorPlBook
namespace Go.Proofs.YtjnifengdhcojaaGreatDoor.Ab
set_option linter.unusedVariables false
set_option maxHeartbeats 1000000
set_option linter.unusedSimpArgs false
open Go.RowKit
theorem X0 (c:Core) (hs:c.Small) (hN:c.nodes≤Big):Gc c=some c.fit:=SO c hs hN
theorem Un (c:Core) (hs:c.Small) (hN:c.nodes≤Big):Km c=some c.fit:=by
 unfold Km
 have e:=cJ c hs 400 fuel (by grind) (Ag hN)
 rw [show ((400:Nat):Int)=400 from rfl] at e
 rw [e,AA,SP c hs hN fuel (Ag hN)]
 grind [Core.fit,szr]
theorem H3 {x:Core} {post:List Core}:∀ {pre:List Core},Core.nodess (pre++x::post)=Core.nodess pre+(x.nodes+Core.nodess post)
 | [] =>by rw [List.nil_append,Core.nodess,Core.nodess]; omega
 |c::cs=>by rw [List.cons_append,Core.nodess,Core.nodess,H3]; omega
theorem Uo {x:Core}:∀ {l:List Core} {i:Nat},Core.nodess (l.set i x)≤Core.nodess l+x.nodes
 | [],i=>by grind
 |c::cs,0=>by rw [List.set_cons_zero,Core.nodess,Core.nodess]; omega
 |c::cs,i+1=>by
  rw [List.set_cons_succ,Core.nodess,Core.nodess]
  have:=Uo (x:=x) (l:=cs) (i:=i)
  omega
section
variable {E:Env}
theorem RF (hE:EnvOk E) (c:Core) (hw:c.wf=true) (hn:∀x ∈ c.kids,x.kind=11→x.value<(E.defs.length:Int)) (m:Bool) (l:List Core) (hlen:l.length=c.kids.length) (hN:c.kids.length≤400) (hln:Core.nodess l≤400*c.kids.length) (hfit:∀x ∈ l,x.wf=true∧x.fit=true):
  (dvN E c m l).nodes ≤Big:=by
 obtain⟨q,J⟩:=AX hw
 have hl:=FN q
 have p:∀i,i<c.kids.length→kidC l i ∈ l:=fun i hi=>B1 (by omega)
 have u:(⟨c.kind,c.value,c.data,l⟩:Core).nodes ≤Big:=by rw [Core.nodes]; grind
 cases m with
 |false=>rw [Zx (by simp)]; omega
 | true=>
  rcases rk_cases c with k|⟨k,k1,k2⟩|⟨k,-⟩|⟨k,k1⟩|⟨k,k1,k2⟩
  ·rw [Zx (by simp [k])]; omega
  ·rw [jW k]
   have h2:=hl.1 (.inr k1)
   obtain⟨w0,C⟩:=hfit _ (p 0 (by omega))
   obtain⟨w1,G⟩:=hfit _ (p 1 (by omega))
   unfold Core.fit at C G
   simp at C G
   obtain⟨no0,O⟩:=AX w0
   have F:=C.2
   rw [Core.nodes_eq] at F
   by_cases hz:0<(kidC l 0).kids.length
   ·have j:kidC (kidC l 0).kids 0 ∈ (kidC l 0).kids :=B1 hz
    have hnb:=Gd j
    have wb:=Bg j O
    have ho:=Core.occ_le (kidC (kidC l 0).kids 0) 0
    have Y:=RG (kidC l 1) w1 (kidC (kidC l 0).kids 0) 0 wb
    have U:(kidC (kidC l 0).kids 0).occ 0*(kidC l 1).nodes ≤160000:=Nat.le_trans (Nat.mul_le_mul (show (kidC (kidC l 0).kids 0).occ 0≤400 by omega) G.2) (by decide)
    grind
   grind [kidC,IZ,Core.mv_eq,Core.mvs,Core.nodes]
  ·rw [jX k,Core.nodes,Core.nodess]; grind
  ·rw [jY k]
   grind [Core.fit,Core.nodes_eq,LX,Pu,Ge,Vr,Core.nodess]
  ·rw [jZ k,Core.nodes]
   obtain⟨W,v⟩:=mL k q
   have j:=B1 v
   have hv:=hn _ j W
   have hv0:=Ji (AX (Bg j J)).1 (.inr W)
   have I:kidC E.defs (kidC c.kids (atC c)).value.toNat ∈ E.defs:=B1 (by omega)
   obtain⟨d1,d2,d3,-⟩:=hE.defs _ I
   grind [Uo]
end
section
variable {defs:List Core} {b:Book} (hb:b.defs=defs)
include hb
theorem ja {P:Nat→Bool} (hE:EnvOk ⟨defs,opF⟩) (c:Core) (hw:c.wf=true) (hnm:c.anyC (F0 defs.length)=false) (hN:c.nodes≤400) (A p:Nat) (hA:A+c.depth≤81) (ha:c.above A=false) {acc:List Core} (hacc:Core.dms ⟨defs,opF⟩ P c.kids (p+1)=some acc) (q:Int):
  ∃x,(if (decide (rk c=1))=true then ((at? acc 0).bind fun J=>((at? J.kids 0).bind fun O=>((at? acc 1).bind fun G=>((FW O G).bind fun j=>(AT q j.1.kind j.1.value j.1.data j.1.kids j.2))))) else (if (decide (rk c=2))=true then ((at? c.kids 0).bind fun W=>((at? c.kids 1).bind fun U=>((I1 c.value W.value U.value).bind fun I=>((Od I).bind fun C=>(AT q C.kind C.value C.data C.kids 0))))) else (if (decide (rk c=3))=true then ((at? acc 0).bind fun Y=>((Gr c Y.kids).bind fun v=>(AT q v.kind v.value v.data v.kids 0))) else (if (decide (rk c=4))=true then ((Gs b c acc).bind fun u=>(AT q u.kind u.value u.data u.kids 0)) else (AT q c.kind c.value c.data acc 0)))))
   =some (x,(if (dvN ⟨defs,opF⟩ c true acc).fit =true then 0 else 4),q)∧((dvN ⟨defs,opF⟩ c true acc).fit =true→x=dvN ⟨defs,opF⟩ c true acc):=by
 obtain⟨hno,hwk⟩:=AX hw
 have hl:=FN hno
 have hN':=hN
 rw [Core.nodes_eq] at hN'
 have hkl:c.kids.length≤400:=by grind [Ge]
 have hnk:∀x ∈ c.kids,x.kind=11→x.value<(defs.length:Int):=fun x hx hk=>NU (Fb hnm hx) hk
 obtain⟨k1,k2,k3,k4,k5,k6⟩:=Tb hE c hw hnm A p hA ha (fun x hx hwx=>Tc hE x hwx (Fb hnm hx)) hacc true
 have hNd:=RF hE c hw hnk true acc k1 hkl k2 k3
 have hsm:=D8 _ k5 hNd
 have j4:AT q (dvN ⟨defs,opF⟩ c true acc).kind (dvN ⟨defs,opF⟩ c true acc).value (dvN ⟨defs,opF⟩ c true acc).data (dvN ⟨defs,opF⟩ c true acc).kids 0=some (dvN ⟨defs,opF⟩ c true acc,(if (dvN ⟨defs,opF⟩ c true acc).fit =true then 0 else 4),q):=by
  unfold AT DL DK
  rw [Jj,decide_eq_true rfl,if_pos rfl,Un _ hsm hNd,AA]
  cases (dvN ⟨defs,opF⟩ c true acc).fit <;> rfl
 rcases rk_cases c with k|⟨k,q1,q2⟩|⟨k,q1,q2,q3⟩|⟨k,q1⟩|⟨k,q1,q2⟩
 ·rw [k]
  have e:dvN ⟨defs,opF⟩ c true acc=⟨c.kind,c.value,c.data,acc⟩:=Zx (by simp [k])
  refine⟨dvN ⟨defs,opF⟩ c true acc,?_,fun _=>rfl⟩
  have j4':=j4
  rw [e] at j4'
  dsimp only at j4'
  rw [decide_eq_false (by omega),if_neg (by simp),decide_eq_false (by omega),if_neg (by simp),decide_eq_false (by omega),if_neg (by simp),decide_eq_false (by omega),if_neg (by simp),j4',← e]
 ·have h2:=hl.1 (.inr q1)
  obtain⟨w0,f0⟩:=k3 _ (B1 (show 0<acc.length by omega))
  obtain⟨w1,f1⟩:=k3 _ (B1 (show 1<acc.length by omega))
  unfold Core.fit at f0 f1
  simp at f0 f1
  have hk4:(kidC acc 0).kind =4:=(k4 0 (by omega) (H8 (by omega))).1.trans q2
  obtain⟨no0,wk0⟩:=AX w0
  have hl0':=(FN no0).2.1 (.inl hk4)
  have F:kidC (kidC acc 0).kids 0 ∈ (kidC acc 0).kids :=B1 (by omega)
  have wb:=Bg F wk0
  have hnb:=Gd F
  have hdb:=K2 F
  have hn0:=f0.2
  have hd0:=f0.1
  rw [Core.nodes_eq] at hn0
  rw [Core.depth_eq] at hd0
  have hsb:=D8 _ wb (by grind)
  have hs1:=D8 _ w1 (by grind)
  have hng:=gA _ k5
  rw [jW k] at j4 hng ⊢
  rw [k,decide_eq_true rfl,if_pos rfl,F1 (by omega),AA,F1 (by omega),AA,K3 (by omega),AA,Up _ _ hsb hs1 wb w1 (by omega) (by omega) f1.1 f1.2,AA,hng]
  by_cases hf:((kidC (kidC acc 0).kids 0).mv (putF (kidC acc 1)) 0).depth ≤80∧((kidC (kidC acc 0).kids 0).mv (putF (kidC acc 1)) 0).nodes ≤400
  ·rw [if_pos hf,if_neg (by simp)]
   grind
  ·have hf':((kidC (kidC acc 0).kids 0).mv (putF (kidC acc 1)) 0).fit =false:=by grind [Core.fit]
   rw [if_neg hf,hf',if_neg (by simp)]
   exact⟨IZ,rfl,fun h=>by cases h⟩
 ·have h2:=hl.1 (.inl q1)
  refine⟨dvN ⟨defs,opF⟩ c true acc,?_,fun _=>rfl⟩
  rw [k,decide_eq_false (by omega),if_neg (by simp),decide_eq_true rfl,if_pos rfl,F1 (by omega),AA,K3 (by omega),AA,Zy,AA]
  unfold Od
  rw [AA,← j4,jX k]
 ·have h0:=Pv hno (rk_kind (c:=c) (by omega))
  obtain⟨w0,f0⟩:=k3 _ (B1 (show 0<acc.length by omega))
  unfold Core.fit at f0
  simp at f0
  obtain⟨-,-,hk0,-⟩:=D8 _ w0 (by grind)
  refine⟨dvN ⟨defs,opF⟩ c true acc,?_,fun _=>rfl⟩
  have hch:=cK (defs:=defs) c hw acc k1 hk0 k
  rw [k,decide_eq_false (by omega),if_neg (by simp),decide_eq_false (by omega),if_neg (by simp),decide_eq_true rfl,if_pos rfl,F1 (by omega),AA,hch,AA,j4]
 grind [cL]
end
def inP (marks:List Int):Nat→Bool:=fun p=>decide ((p:Int) ∈ marks)
theorem dx (l:List Int) (v:Int) (hl:l.length≤Big):Kk l v=some (decide (v ∈ l)):=by
 have loop:∀ (post pre:List Int) (n:Nat),l=pre++post→v ∉ pre→post.length<n→Eo n l v (pre.length:Int)=some (decide (v ∈ l)):=by
  intro post
  induction post with
  |nil=>
   intro pre n h hv j
   obtain⟨n,rfl⟩:∃m,n=m+1:=⟨n - 1,by omega⟩
   rw [Eo,Al h,if_neg (by simp)]
   rw [List.append_nil] at h
   rw [h,decide_eq_false hv]
  | cons x post ih=>
   intro pre n h hv j
   rw [List.length_cons] at j
   obtain⟨n,rfl⟩:∃m,n=m+1:=⟨n - 1,by omega⟩
   rw [Eo,if_pos (Ah h),AU h,AA]
   by_cases hx:x=v
   ·rw [decide_eq_true hx,if_pos rfl,decide_eq_true (by rw [h,← hx]; simp)]
   ·rw [decide_eq_false hx,if_neg (by simp),AN h hl]
    exact ih (pre++[x]) n (AM h) (by simp; exact⟨hv,fun e=>hx e.symm⟩) (by omega)
 exact loop l [] fuel rfl (by simp) (by rw [Af]; unfold Big at hl; omega)
theorem Pw (l:List Int) (v:Int) (hl:l.length≤Big):Co l v=some (decide (v ∈ l)):=by
 unfold Co G5
 have loop:∀ (post pre:List Int) (n:Nat),l=pre++post→v ∉ pre→post.length<n→∃i,Bd n l v (pre.length:Int)=some i∧decide (0≤i)=decide (v ∈ l):=by
  intro post
  induction post with
  |nil=>
   intro pre n h hv j
   obtain⟨n,rfl⟩:∃m,n=m+1:=⟨n - 1,by omega⟩
   rw [Bd,Al h,if_neg (by simp)]
   rw [List.append_nil] at h
   exact⟨-1,rfl,by rw [h,decide_eq_false hv]; rfl⟩
  | cons x post ih=>
   intro pre n h hv j
   rw [List.length_cons] at j
   obtain⟨n,rfl⟩:∃m,n=m+1:=⟨n - 1,by omega⟩
   rw [Bd,if_pos (Ah h),AU h,AA]
   by_cases hx:v=x
   ·rw [decide_eq_true hx,if_pos rfl]
    exact⟨_,rfl,by rw [decide_eq_true (show v ∈ l by rw [h,hx]; simp),decide_eq_true (by omega)]⟩
   ·rw [decide_eq_false hx,if_neg (by simp),AN h hl]
    exact ih (pre++[x]) n (AM h) (by simp; exact⟨hv,hx⟩) (by omega)
 obtain⟨i,h1,h2⟩:=loop l [] fuel rfl (by simp) (by rw [Af]; unfold Big at hl; omega)
 rw [show (0:Int)=((List.length ([] :List Int):Nat):Int) by simp,h1,AA,show ((List.length ([] :List Int):Nat):Int)=0 by simp,h2]
mutual
def Core.rps:Core→Nat→List Int
 |⟨k,v,d,ks⟩,p=>(if rk ⟨k,v,d,ks⟩=0 then [] else [(p:Int)])++Core.rpss ks (p+1)
def Core.rpss:List Core→Nat→List Int
 | [],_=>[]
 |c::cs,p=>Core.rps c p++Core.rpss cs (p+c.nodes)
end
theorem Core.rps_eq (c:Core) (p:Nat):c.rps p=(if rk c=0 then [] else [(p:Int)])++Core.rpss c.kids (p+1):=by cases c; rw [Core.rps]
mutual
theorem Core.rps_mem:∀ (c:Core) (p:Nat) (q:Int),q ∈ c.rps p→(p:Int)≤q∧q<((p+c.nodes:Nat):Int)
 | ⟨k,v,d,ks⟩,p,q,h=>by
  rw [Core.rps,List.mem_append] at h
  rw [Core.nodes]
  rcases h with h|h
  ·split at h
   ·simp at h
   ·simp at h; omega
  ·have:=Core.rpss_mem ks _ q h; omega
theorem Core.rpss_mem:∀ (l:List Core) (p:Nat) (q:Int),q ∈ Core.rpss l p→(p:Int)≤q∧q<((p+Core.nodess l:Nat):Int)
 | [],p,q,h=>by rw [Core.rpss] at h; simp at h
 |c::cs,p,q,h=>by
  rw [Core.rpss,List.mem_append] at h
  rw [Core.nodess]
  rcases h with h|h
  ·have:=Core.rps_mem c _ q h; omega
  ·have:=Core.rpss_mem cs _ q h; omega
end
mutual
theorem Core.rps_len:∀ (c:Core) (p:Nat),(c.rps p).length ≤c.nodes
 |⟨k,v,d,ks⟩,p=>by
  rw [Core.rps,Core.nodes,List.length_append]
  have:=Core.rpss_len ks (p+1)
  split <;> simp <;> omega
theorem Core.rpss_len:∀ (l:List Core) (p:Nat),(Core.rpss l p).length ≤Core.nodess l
 | [],p=>by rw [Core.rpss]; simp
 |c::cs,p=>by
  rw [Core.rpss,Core.nodess,List.length_append]
  have:=Core.rps_len c p
  have:=Core.rpss_len cs (p+c.nodes)
  omega
end
theorem Uq {x:Core} {post:List Core}:∀ {pre:List Core} {p:Nat},Core.rpss (pre++x::post) p=Core.rpss pre p++(x.rps (p+Core.nodess pre)++Core.rpss post (p+Core.nodess pre+x.nodes))
 | [],p=>by rw [List.nil_append,Core.rpss,Core.rpss,Core.nodess]; rfl
 |c::cs,p=>by
  rw [List.cons_append,Core.rpss,Core.rpss,Core.nodess,Uq,List.append_assoc]
  rw [show p+c.nodes+Core.nodess cs=p+(c.nodes+Core.nodess cs) by omega]
theorem W7 {x:Core} {pre:List Core} {p:Nat}:Core.rpss (pre++[x]) p=Core.rpss pre p++x.rps (p+Core.nodess pre):=by
 rw [Uq,Core.rpss,List.append_nil]
theorem Ir {x:Core} {pre:List Core}:Core.nodess (pre++[x])=Core.nodess pre+x.nodes:=by
 rw [H3,Core.nodess]; omega
theorem mM:∀ (c:Core),c.Small→c.wf=true→∀ (p n:Nat) (acc:List Int),16*c.nodes≤n→p+c.nodes≤Big→acc.length+c.nodes≤Big→BZ n c (p:Int) acc=some (acc++c.rps p,((p+c.nodes:Nat):Int)):=by
 refine Core.ind fun c I hs Y p n acc q hp W=>?_
 obtain⟨_,U,hk,J⟩:=hs
 obtain⟨v,C⟩:=AX Y
 rw [Core.nodes_eq] at q hp W ⊢
 rw [Core.rps_eq]
 obtain⟨n,rfl⟩:∃m,n=m+1:=⟨n - 1,by omega⟩
 obtain⟨n,rfl⟩:∃m,n=m+1:=⟨n - 1,by omega⟩
 have loop:∀ (post pre:List Core) (n:Nat) (j:List Int),c.kids=pre++post→j.length≤acc.length+1→16*Core.nodess post+1≤n→
   BG n c ((p+1+Core.nodess pre:Nat):Int) (j++Core.rpss pre (p+1)) (pre.length:Int)=some (j++Core.rpss c.kids (p+1),((p+1+Core.nodess c.kids:Nat):Int)):=by
  intro post
  induction post with
  |nil=>
   intro pre n j h h0 q
   obtain⟨n,rfl⟩:∃m,n=m+1:=⟨n - 1,by omega⟩
   have u:c.kids=pre:=by rw [h,List.append_nil]
   rw [BG,Al h,if_neg (by simp),u]
  |cons x post ihp=>
   intro pre n j h h0 q
   rw [Core.nodess] at q
   have:=x.nodes_pos
   obtain⟨n,rfl⟩:∃m,n=m+1:=⟨n - 1,by omega⟩
   have hx:x ∈ c.kids:=by rw [h]; simp
   have O:Core.nodess c.kids=Core.nodess pre+(x.nodes+Core.nodess post):=by rw [h,H3]
   have G:=Core.rpss_len pre (p+1)
   rw [BG,if_pos (Ah h),AU h,AA,I x hx (J x hx) (Bg hx C) (p+1+Core.nodess pre) n _ (by omega) (by omega) (by rw [List.length_append]; omega),AA,AN h hk,List.append_assoc,← W7]
   have:=ihp (pre++[x]) n j (AM h) h0 (by omega)
   rw [Ir,← Nat.add_assoc] at this
   exact this
 rw [BZ,Nt c v,AA]
 have F:∀j:List Int,j.length≤acc.length+1→Bb (n+1) c (p:Int) j=some (j++Core.rpss c.kids (p+1),((p+(1+Core.nodess c.kids):Nat):Int)):=fun j h0=>by
  rw [Bb,Ur (by omega)]
  have:=loop c.kids [] n j (by simp) h0 (by omega)
  rw [Core.rpss,List.append_nil,Core.nodess,Nat.add_zero] at this
  rw [show p+(1+Core.nodess c.kids)=p+1+Core.nodess c.kids by omega]
  exact this
 by_cases hr:rk c=0
 ·rw [decide_eq_true hr,Bool.not_true,if_neg (by simp),if_pos hr,List.nil_append]
  exact F acc (by omega)
 ·rw [decide_eq_false hr,Bool.not_false,if_pos rfl,if_neg hr,A0 (by simp; omega),AA,← List.append_assoc]
  exact F (acc++[(p:Int)]) (by simp)
theorem mN:∀ (c:Core),c.Small→c.wf=true→∀ (p n:Nat) (acc:List Int),16*c.nodes≤n→p+c.nodes≤Big→acc.length+c.nodes≤Big→C3 n c (p:Int) acc=some (acc++c.rps p,((p+c.nodes:Nat):Int)):=by
 refine Core.ind fun c I hs Y p n acc q hp W=>?_
 obtain⟨_,U,hk,J⟩:=hs
 obtain⟨v,C⟩:=AX Y
 rw [Core.nodes_eq] at q hp W ⊢
 rw [Core.rps_eq]
 obtain⟨n,rfl⟩:∃m,n=m+1:=⟨n - 1,by omega⟩
 obtain⟨n,rfl⟩:∃m,n=m+1:=⟨n - 1,by omega⟩
 have loop:∀ (post pre:List Core) (n:Nat) (j:List Int),c.kids=pre++post→j.length≤acc.length+1→16*Core.nodess post+1≤n→
   CF n c ((p+1+Core.nodess pre:Nat):Int) (j++Core.rpss pre (p+1)) (pre.length:Int)=some (j++Core.rpss c.kids (p+1),((p+1+Core.nodess c.kids:Nat):Int)):=by
  intro post
  induction post with
  |nil=>
   intro pre n j h h0 q
   obtain⟨n,rfl⟩:∃m,n=m+1:=⟨n - 1,by omega⟩
   have u:c.kids=pre:=by rw [h,List.append_nil]
   rw [CF,Al h,if_neg (by simp),u]
  |cons x post ihp=>
   intro pre n j h h0 q
   rw [Core.nodess] at q
   have:=x.nodes_pos
   obtain⟨n,rfl⟩:∃m,n=m+1:=⟨n - 1,by omega⟩
   have hx:x ∈ c.kids:=by rw [h]; simp
   have O:Core.nodess c.kids=Core.nodess pre+(x.nodes+Core.nodess post):=by rw [h,H3]
   have G:=Core.rpss_len pre (p+1)
   rw [CF,if_pos (Ah h),AU h,AA,I x hx (J x hx) (Bg hx C) (p+1+Core.nodess pre) n _ (by omega) (by omega) (by rw [List.length_append]; omega),AA,AN h hk,List.append_assoc,← W7]
   have:=ihp (pre++[x]) n j (AM h) h0 (by omega)
   rw [Ir,← Nat.add_assoc] at this
   exact this
 rw [C3,Zz c v,AA]
 have F:∀j:List Int,j.length≤acc.length+1→Ct (n+1) c (p:Int) j=some (j++Core.rpss c.kids (p+1),((p+(1+Core.nodess c.kids):Nat):Int)):=fun j h0=>by
  rw [Ct,Ur (by omega)]
  have:=loop c.kids [] n j (by simp) h0 (by omega)
  rw [Core.rpss,List.append_nil,Core.nodess,Nat.add_zero] at this
  rw [show p+(1+Core.nodess c.kids)=p+1+Core.nodess c.kids by omega]
  exact this
 by_cases hr:rk c=0
 ·rw [decide_eq_true hr,Bool.not_true,if_neg (by simp),if_pos hr,List.nil_append]
  exact F acc (by omega)
 ·rw [decide_eq_false hr,Bool.not_false,if_pos rfl,if_neg hr,A0 (by simp; omega),AA,← List.append_assoc]
  exact F (acc++[(p:Int)]) (by simp)
theorem Is {c:Core} (h:c.closed=true):c.valid=true∧c.above 0=false:=by
 unfold Core.closed at h
 simp at h
 exact h
theorem mO {c:Core} (h:A1 c=true):c.data.length≤4:=by
 unfold A1 at h
 simp only [Bool.and_eq_true] at h
 exact J3 h.1.1.2
theorem sT:∀ (c:Core),c.wf=true→c.sz+1≤5*c.nodes:=by
 refine Core.ind fun c q u=>?_
 obtain⟨j,p⟩:=AX u
 rw [Core.sz_eq,Core.nodes_eq]
 have hd:=mO j
 have key:∀l:List Core,(∀x ∈ l,x.sz+1≤5*x.nodes)→Core.szs l≤5*Core.nodess l:=by
  intro l
  induction l with
  |nil=>intro _; simp [Core.szs]
  |cons x xs ihl=>
   intro h
   rw [Core.szs,Core.nodess]
   have:=h x (by simp)
   have:=ihl fun y hy=>h y (by simp [hy])
   omega
 have:=key c.kids fun x hx=>q x hx (Bg hx p)
 omega
theorem mv0:∀c:Core,c.wf=true→∀n,c.mv (shF 0) n=c:=by
 refine Core.ind fun c q u n=>?_
 obtain⟨j,p⟩:=AX u
 rw [Core.mv_eq]
 by_cases h1:c.kind=1
 ·rw [if_pos h1]
  have hk:=GU j h1
  have hd:=Px j h1
  unfold shF Lz
  cases c
  simp only at h1 hk hd
  subst h1 hk hd
  congr 1
  split <;> simp
 ·rw [if_neg h1]
  have key:∀ (l:List Core) (i:Nat),(∀x ∈ l,∀n,x.mv (shF 0) n=x)→Core.mvs (shF 0) c.kind l i n=l:=by
   intro l
   induction l with
   |nil=>intro i _; rw [Core.mvs]
   |cons x xs ihl=>
    intro i h
    rw [Core.mvs,h x (by simp),ihl (i+1) fun y hy=>h y (by simp [hy])]
  rw [key c.kids 0 fun x hx=>q x hx (Bg hx p)]
  cases c; rfl
theorem X1:∀c:Core,c.Small→∀n,16*c.nodes≤n→Fr n c=some c:=by
 refine Core.ind fun c C G n p=>?_
 obtain⟨_,v,hk,F⟩:=G
 rw [Core.nodes_eq] at p
 obtain⟨n,rfl⟩:∃m,n=m+1:=⟨n - 1,by omega⟩
 have j:An c.data=some c.data:=by unfold An; rw [A0 (by simpa using v)]; rfl
 rw [Fr,j,AA]
 have loop:∀ (post pre:List Core) (n:Nat),c.kids=pre++post→16*Core.nodess post+1≤n→DE n c c.data pre (pre.length:Int)=some c:=by
  intro post
  induction post with
  |nil=>
   intro pre n h p
   obtain⟨n,rfl⟩:∃m,n=m+1:=⟨n - 1,by omega⟩
   rw [DE,Al h,if_neg (by simp)]
   have q:c.kids=pre:=by rw [h,List.append_nil]
   rw [← q,Jj]
  |cons x post ihp=>
   intro pre n h p
   rw [Core.nodess] at p
   have:=x.nodes_pos
   obtain⟨n,rfl⟩:∃m,n=m+1:=⟨n - 1,by omega⟩
   have hx:x ∈ c.kids:=by rw [h]; simp
   have u:pre.length+ [x].length ≤Big:=by rw [h] at hk; simp at hk ⊢; omega
   rw [DE,if_pos (Ah h),AU h,AA,C x hx (F x hx) n (by omega),AA,A0 u,AA,AN h hk]
   exact ihp (pre++[x]) n (AM h) (by omega)
 exact loop c.kids [] n (by simp) (by omega)
def stB (b:Book) (c:Core):Bool:=b.valid&&(c.closed&& !c.anyC Eg&& !c.anyC (F0 b.defs.length))&&b.defs.all fun d=> !d.anyC Eg
theorem W8 {b:Book} (hv:b.valid=true) {d:Core} (hd:d ∈ b.defs):d.closed=true:=by
 unfold Book.valid at hv
 rw [Bool.and_eq_true,List.all_eq_true] at hv
 have:=hv.2 d hd
 unfold Us at this
 rw [Bool.and_eq_true] at this
 exact this.1
theorem gB (b:Book) (c:Core) (hl:b.defs.length≤Big) (hs:∀d ∈ b.defs,d.Small∧d.nodes≤Big) (hc:c.Small) (hN:c.nodes≤Big):JV b c=some (stB b c):=by
 unfold JV stB
 have j:CT b true=some false:=by unfold CT; rw [if_pos rfl]
 rw [cM b hl hs,AA]
 cases hv:b.valid with
 |false=>rw [Bool.not_false,if_pos rfl,j]; rfl
 | true =>
  rw [Bool.not_true,if_neg (by simp),Py c hc hN,AA]
  cases hcl:c.closed with
  |false=>rw [Bool.not_false,if_pos rfl,j]; rfl
  | true=>
   have q:=W9 hcl
   rw [Bool.not_true,if_neg (by simp),Pz c hc fuel (Ag hN),AA]
   cases c.anyC Eg with
   |true=>rw [Bool.not_true,Bool.not_false,if_pos rfl,j]; rfl
   | false=>
    rw [Bool.not_false,Bool.not_true,if_neg (by simp),Ut b.defs.length c hc q fuel (Ag hN),AA]
    cases c.anyC (F0 b.defs.length) with
    |true=>rw [Bool.not_true,Bool.not_false,j]; rfl
    | false=>
     rw [Bool.not_false,Bool.not_true]
     unfold CT
     rw [if_neg (by simp)]
     have loop:∀ (post pre:List Core) (n:Nat),b.defs=pre++post→post.length<n→DF n b (pre.length:Int)=some (post.all fun d=> !d.anyC Eg):=by
      intro post
      induction post with
      |nil=>
       intro pre n h p
       obtain⟨n,rfl⟩:∃m,n=m+1:=⟨n - 1,by omega⟩
       rw [DF,Al h,if_neg (by simp)]; rfl
      | cons x post ih=>
       intro pre n h p
       rw [List.length_cons] at p
       obtain⟨n,rfl⟩:∃m,n=m+1:=⟨n - 1,by omega⟩
       have hx:x ∈ b.defs:=by rw [h]; simp
       rw [DF,if_pos (Ah h),AU h,AA,Pz x (hs x hx).1 fuel (Ag (hs x hx).2),AA,List.all_cons]
       cases x.anyC Eg with
       |true=>rfl
       |false=>
        rw [Bool.not_false,Bool.not_true,if_neg (by simp),AN h hl]
        exact ih (pre++[x]) n (AM h) (by omega)
     exact loop b.defs [] fuel rfl (by rw [Af]; unfold Big at hl; omega)
theorem gC (b:Book) (c:Core) (hl:b.defs.length≤Big) (hs:∀d ∈ b.defs,d.Small∧d.nodes≤Big) (hc:c.Small) (hN:c.nodes≤Big):EZ b c=some (stB b c):=by
 unfold EZ G3 G4 stB
 rw [X2 b hl hs,AA]
 cases hv:b.valid with
 |false=>rfl
 | true=>
  have p:Ac b.defs (fun q=>EY q)=some (b.defs.any fun d=> !(d.valid&& !d.anyC Eg)):=by
   refine LY b.defs _ _ hl fun d hd=>?_
   unfold EY
   rw [SQ d (hs d hd).1 (hs d hd).2,AA]
  have j:(b.defs.any fun d=> !(d.valid&& !d.anyC Eg))= !(b.defs.all fun d=> !d.anyC Eg):=by
   rw [← List.not_any_eq_all_not,Bool.not_not]
   have:∀l:List Core,(∀d ∈ l,d.valid=true)→(l.any fun d=> !(d.valid&& !d.anyC Eg))=l.any fun d=>d.anyC Eg:=by
    intro l
    induction l with
    |nil=>intro _; rfl
    |cons x xs ih=>
     intro h
     rw [List.any_cons,List.any_cons,ih fun y hy=>h y (by simp [hy]),h x (by simp),Bool.true_and,Bool.not_not]
   exact this b.defs fun d hd=>(Is (W8 hv hd)).1
  rw [if_pos rfl,p,AA,j,Bool.not_not,AA]
  cases (b.defs.all fun d=> !d.anyC Eg) with
  |false=>simp
  | true=>
   rw [if_pos rfl,SR c hc hN,AA]
   cases hcl:c.closed with
   |false=>rfl
   | true=>
    rw [if_pos rfl,SQ c hc hN,AA,(Is hcl).1,Bool.true_and]
    cases c.anyC Eg with
    |true=>rfl
    |false=>
     rw [Bool.not_false,if_pos rfl,P0 c _ hc hN,AA,AA]
     simp
theorem o4 {b:Book} (hv:b.valid=true):EnvOk ⟨b.defs,opF⟩:=by
 refine⟨fun d hd=>?_,fun o x y=>gD o x y⟩
 obtain⟨h1,h2⟩:=Is (W8 hv hd)
 obtain⟨w,dp,j⟩:=SS h1
 exact⟨w,h2,j,dp⟩
theorem mP:AT=AT:=rfl
section
variable {defs:List Core} {b:Book} (hb:b.defs=defs) {marks:List Int}
theorem gE (hE:EnvOk ⟨defs,opF⟩) {P:Nat→Bool} (c:Core) (hw:c.wf=true) (hnm:c.anyC (F0 defs.length)=false) (hN:c.nodes≤400) (A p:Nat) (hA:A+c.depth≤81) (ha:c.above A=false) {acc:List Core} (hacc:Core.dms ⟨defs,opF⟩ P c.kids (p+1)=some acc) (q:Int):
  AT q c.kind c.value c.data acc 0=some (dvN ⟨defs,opF⟩ c false acc,(if (dvN ⟨defs,opF⟩ c false acc).fit =true then 0 else 4),q):=by
 have F:=hN
 rw [Core.nodes_eq] at F
 have C:c.kids.length≤400:=by grind [Ge]
 have v:∀x ∈ c.kids,x.kind=11→x.value<(defs.length:Int):=fun x hx hk=>NU (Fb hnm hx) hk
 obtain⟨k1,k2,k3,k4,k5,k6⟩:=Tb hE c hw hnm A p hA ha (fun x hx G=>Tc hE x G (Fb hnm hx)) hacc false
 have j:=RF hE c hw v false acc k1 C k2 k3
 have u:=D8 _ k5 j
 have e:dvN ⟨defs,opF⟩ c false acc=⟨c.kind,c.value,c.data,acc⟩:=Zx (by simp)
 rw [e] at u j ⊢
 unfold AT DL DK
 rw [decide_eq_true rfl,if_pos rfl,Un _ u j,AA]
 cases (⟨c.kind,c.value,c.data,acc⟩:Core).fit <;> rfl
include hb
theorem jb (hE:EnvOk ⟨defs,opF⟩) (hml:marks.length≤Big):∀ (c:Core),c.Small→c.wf=true→c.nodes≤400→c.anyC (F0 defs.length)=false→∀ (A p n:Nat),A+c.depth≤81→c.above A=false→16*c.nodes≤n→p+c.nodes≤Big→
  ∃x j u,Bj n b c (p:Int) marks=some (x,j,u)∧(match c.dm ⟨defs,opF⟩ (inP marks) p with|some e=>x=e∧j=0∧u=((p+c.nodes:Nat):Int)|none=>j=4):=by
 refine Core.ind fun c ih hs J W C A p n hA ha I hq=>?_
 have U:=hs
 obtain⟨_,hdl,hk,hf⟩:=U
 obtain⟨hno,Y⟩:=AX J
 have hN':=W
 rw [Core.nodes_eq] at I hN' hq
 have hA':=hA
 rw [Core.depth_eq] at hA'
 have hkl:c.kids.length≤400:=by grind [Ge]
 obtain⟨n,rfl⟩:∃m,n=m+1:=⟨n - 1,by omega⟩
 obtain⟨n,rfl⟩:∃m,n=m+1:=⟨n - 1,by omega⟩
 have loop:∀ (post pre acc:List Core) (n i:Nat),c.kids=pre++post→pre.length=i→Core.dms ⟨defs,opF⟩ (inP marks) pre (p+1)=some acc→acc.length=pre.length→16*Core.nodess post+1≤n→(post=[] ∨Core.aboves c.kind post i A=false)→
   ∃x j u,B0 n b c marks (if inP marks p=true then rk c else 0) ((p+1+Core.nodess pre:Nat):Int) acc (pre.length:Int)=some (x,j,u)∧(match c.dm ⟨defs,opF⟩ (inP marks) p with|some e=>x=e∧j=0∧u=((p+c.nodes:Nat):Int)|none=>j=4):=by
  intro post
  induction post with
  | nil=>
   intro pre acc n i h hi q G I _
   obtain⟨n,rfl⟩:∃m,n=m+1:=⟨n - 1,by omega⟩
   have O:c.kids=pre:=by rw [h,List.append_nil]
   rw [B0,Al h,if_neg (by simp)]
   rw [← O] at q G ⊢
   have fin:∀x,((dvN ⟨defs,opF⟩ c (inP marks p) acc).fit =true→x=dvN ⟨defs,opF⟩ c (inP marks p) acc)→(match c.dm ⟨defs,opF⟩ (inP marks) p with|some e=>x=e∧(if (dvN ⟨defs,opF⟩ c (inP marks p) acc).fit =true then (0:Int) else 4)=0∧((p+1+Core.nodess c.kids:Nat):Int)=((p+c.nodes:Nat):Int)|none=>(if (dvN ⟨defs,opF⟩ c (inP marks p) acc).fit =true then (0:Int) else 4)=4):=fun x t2=>by
    rw [Core.dm_eq,q]
    show (match fitO (dvN ⟨defs,opF⟩ c (inP marks p) acc) with|some e=>_|none=>_)
    unfold fitO
    cases hfit:(dvN ⟨defs,opF⟩ c (inP marks p) acc).fit with
    |true=>
     rw [if_pos rfl]
     refine⟨t2 hfit,rfl,?_⟩
     rw [c.nodes_eq]
     omega
    |false=>rw [if_neg (by simp)]; rfl
   cases hm:inP marks p with
   |true=>
    rw [hm] at fin
    obtain⟨x,t1,t2⟩:=ja hb hE c J C W A p hA ha q ((p+1+Core.nodess c.kids:Nat):Int)
    rw [if_pos rfl,mP]
    exact⟨_,_,_,t1,fin x t2⟩
   |false=>
    rw [hm] at fin
    rw [show (if (false:Bool)=true then rk c else 0)=(0:Int) from if_neg (by simp),decide_eq_false (by omega),if_neg (by simp),decide_eq_false (by omega),if_neg (by simp),decide_eq_false (by omega),if_neg (by simp),gE hE c J C W A p hA ha q]
    exact⟨_,_,_,rfl,fin _ fun _=>rfl⟩
  | cons x post ihp=>
   intro pre acc n i h hi q G I v
   replace v:=v.resolve_left (by simp)
   rw [Core.aboves,Bool.or_eq_false_iff] at v
   rw [Core.nodess] at I
   have:=x.nodes_pos
   obtain⟨n,rfl⟩:∃m,n=m+1:=⟨n - 1,by omega⟩
   have hx:x ∈ c.kids:=by rw [h]; simp
   have hxd:=K2 hx
   have hxn:=Gd hx
   have hbd:=Jk c.kind i
   have hpl:pre.length+1≤c.kids.length:=by rw [h]; simp
   have hnn:Core.nodess c.kids=Core.nodess pre+(x.nodes+Core.nodess post):=by rw [h,H3]
   obtain⟨y,j,u,h1,h2⟩:=ih x hx (hf x hx) (Bg hx Y) (by omega) (Fb C hx) (A+bnd c.kind i) (p+1+Core.nodess pre) n (by omega) v.1 (by omega) (by omega)
   rw [B0,if_pos (Ah h),AU h,AA,h1,AA]
   cases hxe:x.dm ⟨defs,opF⟩ (inP marks) (p+1+Core.nodess pre) with
   |none=>
    rw [hxe] at h2
    subst h2
    grind [Core.dm_eq,LZ]
   |some e=>
    rw [hxe] at h2
    obtain⟨rfl,rfl,rfl⟩:=h2
    rw [if_neg (by simp),A0 (by grind),AA,AN h hk]
    have:=ihp (pre++[x]) (acc++[y]) n (i+1) (AM h) (by grind) (Z0 q hxe) (by grind) (by omega) (.inr v.2)
    rw [Ir,← Nat.add_assoc] at this
    omega
 have F:=loop c.kids [] [] n 0 (by simp) rfl (by rw [Core.dms]) rfl (by omega) (by
  grind [GU,Core.above_eq])
 rw [Core.nodess,Nat.add_zero] at F
 rw [Bj,dx marks (p:Int) hml,AA]
 grind [DM,Ur,inP,Zz]
theorem jc (hE:EnvOk ⟨defs,opF⟩) (hml:marks.length≤Big):∀ (c:Core),c.Small→c.wf=true→c.nodes≤400→c.anyC (F0 defs.length)=false→∀ (A p n:Nat),A+c.depth≤81→c.above A=false→16*c.nodes≤n→p+c.nodes≤Big→(∀q ∈ marks,(p:Int)≤q→q<((p+c.nodes:Nat):Int)→q ∈ c.rps p)→
  ∃x ok m,BP n ⟨b,marks,(p:Int)⟩ c=some (x,ok,m)∧(match c.dm ⟨defs,opF⟩ (inP marks) p with|some e=>x=e∧ok=true∧m=⟨b,marks,((p+c.nodes:Nat):Int)⟩|none=>ok=false):=by
 refine Core.ind fun c ih hs O hN C A p n hA ha U Y H=>?_
 have hs':=hs
 obtain⟨_,hdl,hk,hf⟩:=hs'
 obtain⟨hno,hwk⟩:=AX O
 have hN':=hN
 rw [Core.nodes_eq] at U hN' Y H
 have hA':=hA
 rw [Core.depth_eq] at hA'
 have W:c.kids.length≤400:=by grind [Ge]
 have I:∀x ∈ c.kids,x.kind=11→x.value<(defs.length:Int):=fun x hx hk=>NU (Fb C hx) hk
 obtain⟨n,rfl⟩:∃m,n=m+1:=⟨n - 1,by omega⟩
 have v:An c.data=some c.data:=by grind [An,A0]
 rw [BP]
 dsimp only
 rw [Pw marks (p:Int) hml,AA,v,AA,Ur (by omega)]
 show ∃x ok m,Av n ⟨b,marks,(p:Int)⟩ c (inP marks p) c.data _ _ _=_∧_
 have loop:∀ (post pre acc:List Core) (n i:Nat),c.kids=pre++post→pre.length=i→Core.dms ⟨defs,opF⟩ (inP marks) pre (p+1)=some acc→acc.length=pre.length→16*Core.nodess post+1≤n→(post=[] ∨Core.aboves c.kind post i A=false)→
   ∃x ok m,Av n ⟨b,marks,(p:Int)⟩ c (inP marks p) c.data ((p+1+Core.nodess pre:Nat):Int) acc (pre.length:Int)=some (x,ok,m)∧(match c.dm ⟨defs,opF⟩ (inP marks) p with|some e=>x=e∧ok=true∧m=⟨b,marks,((p+c.nodes:Nat):Int)⟩|none=>ok=false):=by
  intro post
  induction post with
  | nil=>
   intro pre acc n i h hi j F U _
   obtain⟨n,rfl⟩:∃m,n=m+1:=⟨n - 1,by omega⟩
   have hk0:c.kids=pre:=by rw [h,List.append_nil]
   rw [Av,Al h,if_neg (by simp)]
   rw [← hk0] at j F ⊢
   obtain⟨k1,k2,k3,k4,k5,k6⟩:=Tb hE c O C A p hA ha (fun x hx hwx=>Tc hE x hwx (Fb C hx)) j (inP marks p)
   have J:=RF hE c O I (inP marks p) acc k1 W k2 k3
   have hsm:=D8 _ k5 J
   have fin:∃x ok m,Bz ⟨b,marks,(p:Int)⟩ ((p+1+Core.nodess c.kids:Nat):Int) (dvN ⟨defs,opF⟩ c (inP marks p) acc).kind (dvN ⟨defs,opF⟩ c (inP marks p) acc).value (dvN ⟨defs,opF⟩ c (inP marks p) acc).data (dvN ⟨defs,opF⟩ c (inP marks p) acc).kids =some (x,ok,m)∧(match c.dm ⟨defs,opF⟩ (inP marks) p with|some e=>x=e∧ok=true∧m=⟨b,marks,((p+c.nodes:Nat):Int)⟩|none=>ok=false):=by
    unfold Bz
    rw [Jj,X0 _ hsm J]
    refine⟨_,_,_,rfl,?_⟩
    rw [Core.dm_eq,j]
    show (match fitO (dvN ⟨defs,opF⟩ c (inP marks p) acc) with|some e=>_|none=>_)
    unfold fitO
    cases hfit:(dvN ⟨defs,opF⟩ c (inP marks p) acc).fit with
    |true=>
     rw [if_pos rfl]
     refine⟨rfl,rfl,?_⟩
     rw [c.nodes_eq,Nat.add_assoc]
    |false=>rw [if_neg (by simp)]
   cases hm:inP marks p with
   | true=>
    have G:(p:Int) ∈ marks:=by grind [inP]
    have hr:rk c≠0:=fun hr0=>by
     have:=H (p:Int) G (by omega) (by omega)
     rw [Core.rps_eq,if_pos hr0,List.nil_append] at this
     have:=Core.rpss_mem _ _ _ this
     omega
    rw [hm] at fin
    rw [if_pos rfl,Nt c hno,AA,X3 hb hE c O I acc k1 k3 k4 hr,AA]
    omega
   |false=>
    grind [Zx]
  | cons x post ihp=>
   intro pre acc n i h hi j F U u
   replace u:=u.resolve_left (by simp)
   rw [Core.aboves,Bool.or_eq_false_iff] at u
   rw [Core.nodess] at U
   have:=x.nodes_pos
   obtain⟨n,rfl⟩:∃m,n=m+1:=⟨n - 1,by omega⟩
   have hx:x ∈ c.kids:=by rw [h]; simp
   have hxd:=K2 hx
   have hxn:=Gd hx
   have hbd:=Jk c.kind i
   have hpl:pre.length+1≤c.kids.length:=by rw [h]; simp
   have hnn:Core.nodess c.kids=Core.nodess pre+(x.nodes+Core.nodess post):=by rw [h,H3]
   have Hx:∀q ∈ marks,((p+1+Core.nodess pre:Nat):Int)≤q→q<((p+1+Core.nodess pre+x.nodes:Nat):Int)→q ∈ x.rps (p+1+Core.nodess pre):=fun q Y h1 h2=>by
    have:=H q Y (by omega) (by omega)
    rw [Core.rps_eq,h,Uq,List.mem_append,List.mem_append,List.mem_append] at this
    rcases this with t|t|t|t
    ·grind
    ·have:=Core.rpss_mem _ _ _ t; omega
    ·exact t
    ·have:=Core.rpss_mem _ _ _ t; omega
   obtain⟨y,ok,m,h1,h2⟩:=ih x hx (hf x hx) (Bg hx hwk) (by omega) (Fb C hx) (A+bnd c.kind i) (p+1+Core.nodess pre) n (by omega) u.1 (by omega) (by omega) Hx
   rw [Av,if_pos (Ah h),AU h,AA]
   dsimp only
   rw [h1,AA]
   cases hxe:x.dm ⟨defs,opF⟩ (inP marks) (p+1+Core.nodess pre) with
   |none=>
    rw [hxe] at h2
    grind [Core.dm_eq,LZ]
   |some e=>
    rw [hxe] at h2
    obtain⟨rfl,rfl,rfl⟩:=h2
    rw [if_neg (by simp),A0 (by grind),AA,AN h hk]
    have:=ihp (pre++[x]) (acc++[y]) n (i+1) (AM h) (by grind) (Z0 j hxe) (by grind) (by omega) (.inr u.2)
    rw [Ir,← Nat.add_assoc] at this
    omega
 refine loop c.kids [] [] n 0 (by simp) rfl (by rw [Core.dms]) rfl (by omega) ?_
 grind [GU,Core.above_eq]
end
def incM:Option Int→List Int→Bool
 |_,[] =>true
 |none,x::xs=>incM (some x) xs
 |some y,x::xs=>decide (y<x)&&incM (some x) xs
def okM (R:List Int) (o:Option Int) (l:List Int):Bool:=incM o l&& !(l.any fun y=> !decide (y ∈ R))
theorem mQ (l:List Int) (hl:l.length≤Big):Fq l=some (incM none l):=by
 unfold Fq
 have loop:∀ (post pre:List Int) (y:Int) (n:Nat),l=pre++y::post→post.length<n→BO n l ((pre.length:Int)+1)=some (incM (some y) post):=by
  intro post
  induction post with
  |nil=>
   intro pre y n h p
   obtain⟨n,rfl⟩:∃m,n=m+1:=⟨n - 1,by omega⟩
   rw [BO,decide_eq_false (by rw [h]; simp),if_neg (by simp),incM]
  |cons x post ih=>
   intro pre y n h p
   rw [List.length_cons] at p
   obtain⟨n,rfl⟩:∃m,n=m+1:=⟨n - 1,by omega⟩
   have q:l=(pre++[y])++x::post:=by rw [h]; simp
   have j:((pre.length:Int)+1)=((List.length (pre++[y]):Nat):Int):=by simp
   have u:pre.length+1≤Big:=by rw [h] at hl; grind
   rw [BO,show (pre.length:Int)+1 - 1=(pre.length:Int) by omega,w64 (by omega) (by grind),AU h,AA]
   rw [j,if_pos (Ah q),AU q,AA,incM]
   grind [AN]
 cases l with
 |nil=>
  obtain⟨n,p⟩:∃m,fuel=m+1:=⟨fuel - 1,by rw [Af]⟩
  rw [p,BO,decide_eq_false (by simp),if_neg (by simp),incM]
 |cons y post=>
  have:=loop post [] y fuel rfl (by rw [Af]; grind)
  rw [incM]
  grind
theorem mR (b:Book) (c:Core) (l:List Int) (v:List Int × Int) (hl:l.length≤Big) (hv:v.1.length ≤Big):∀ (post pre:List Int) (n:Nat),l=pre++post→2*post.length+2≤n→
  BU n b c l v (pre.length:Int)=if okM v.1 pre.getLast? post=true then ((Bj fuel b c 0 l).bind fun j=>(if (!decide (j.2.1 =0))=true then (some ((⟨0,0,[],[]⟩:Core),j.2.1)) else ((Kn j.1).bind fun p=>(some (p,0))))) else some ((⟨0,0,[],[]⟩:Core),2):=by
 intro post
 induction post with
 |nil=>
  intro pre n h F
  obtain⟨n,rfl⟩:∃m,n=m+1:=⟨n - 1,by omega⟩
  rw [BU,Al h,if_neg (by simp),if_pos (by rfl)]
 | cons x post ih=>
  intro pre n h F
  rw [List.length_cons] at F
  obtain⟨n,rfl⟩:∃m,n=m+1:=⟨n - 1,by omega⟩
  obtain⟨n,rfl⟩:∃m,n=m+1:=⟨n - 1,by omega⟩
  have G:=ih (pre++[x]) n (AM h) (by omega)
  rw [List.getLast?_concat] at G
  have U:∀q:Int,BV (n+1) b c l q v true=some ((⟨0,0,[],[]⟩:Core),2):=fun q=>by rw [BV,if_pos rfl]
  have u:BV (n+1) b c l (pre.length:Int) v false=BU n b c l v ((List.length (pre++[x]):Nat):Int):=by
   rw [BV,if_neg (by simp),AN h hl]
  have mem:∀o,(match o with|none=>true|some y=>decide (y<x))=true→BV (n+1) b c l (pre.length:Int) v (!decide (x ∈ v.1))=if okM v.1 o (x::post)=true then ((Bj fuel b c 0 l).bind fun j=>(if (!decide (j.2.1 =0))=true then (some ((⟨0,0,[],[]⟩:Core),j.2.1)) else ((Kn j.1).bind fun p=>(some (p,0))))) else some ((⟨0,0,[],[]⟩:Core),2):=fun o ho=>by
   have e:okM v.1 o (x::post)=(decide (x ∈ v.1)&&okM v.1 (some x) post):=by
    unfold okM
    have I:incM o (x::post)=incM (some x) post:=by
     grind [incM]
    rw [I,List.any_cons]
    cases incM (some x) post <;> cases decide (x ∈ v.1) <;> simp
   rw [e]
   by_cases hx:x ∈ v.1
   ·rw [decide_eq_true hx,Bool.not_true,Bool.true_and,u,G]
   grind
  rw [BU,if_pos (Ah h),AU h]
  simp only [AA]
  rw [dx v.1 x hv]
  simp only [AA]
  rcases pre.eq_nil_or_concat with h0|⟨pre',y,h0⟩
  ·rw [if_neg (by rw [h0]; simp),mem none rfl,h0]; rfl
  ·have J:pre'.length+1≤Big:=by rw [h,h0] at hl; grind
   have O:at? l (IntKind.i64.wrap ((pre.length:Int) - 1))=some y:=by
    rw [show (pre.length:Int) - 1=(pre'.length:Int) by rw [h0]; simp,w64 (by omega) (by grind)]
    grind [AU]
   rw [if_pos (by rw [h0]; simp),O,AA]
   have C:pre.getLast?=some y:=by rw [h0,List.concat_eq_append,List.getLast?_concat]
   rw [C]
   grind [okM,incM]
theorem Zn (b:Book) (c:Core) (l:List Int) (hb:b.sz≤1048576) (hc:c.sz≤1048576) (hll:l.length≤1048576):∃r,IL b c l=some r∧Ec b c l=some r∧r.1.sz ≤Big:=by
 obtain⟨hl,hs,-⟩:=gF (l:=b.defs) hb
 have u:l.length≤Big:=by grind
 have p:=Core.small_of c (by grind)
 have F:c.nodes≤Big:=by grind [Core.nodes_le]
 have hz:IZ.sz≤Big:=by rw [gG]; omega
 unfold IL Ec
 rw [gB b c hl hs p F,gC b c hl hs p F,AA,AA]
 cases hst:stB b c with
 |false=>exact⟨(IZ,1),rfl,rfl,hz⟩
 | true=>
  unfold stB at hst
  simp only [Bool.and_eq_true,Bool.not_eq_true'] at hst
  obtain⟨⟨hv,⟨Y,-⟩,v⟩,-⟩:=hst
  obtain⟨hcv,C⟩:=Is Y
  obtain⟨J,hd,hn⟩:=SS hcv
  have hE:=o4 hv
  have hR:(c.rps 0).length ≤Big:=by have:=c.rps_len 0; omega
  have q1:=mN c p J 0 fuel [] (Ag F) (by omega) (by grind)
  have q2:=mM c p J 0 fuel [] (Ag F) (by omega) (by grind)
  rw [List.nil_append] at q1 q2
  have W:C3 fuel c 0 [] =some (c.rps 0,((0+c.nodes:Nat):Int)):=q1
  have q2':BZ fuel c 0 [] =some (c.rps 0,((0+c.nodes:Nat):Int)):=q2
  have hch:=mR b c l (c.rps 0,((0+c.nodes:Nat):Int)) u hR l [] fuel rfl (by rw [Af]; omega)
  have O:BU fuel b c l (c.rps 0,((0+c.nodes:Nat):Int)) 0=_:=hch
  have hcf:AW l (fun y0=>DX y0 (c.rps 0))=some (l.any fun y=> !decide (y ∈ c.rps 0)):=by
   refine J4 l _ _ u fun y hy=>?_
   unfold DX
   rw [Pw _ _ hR,AA]
  rw [Bool.not_true,if_neg (by simp),if_neg (by simp),W,AA,q2',AA,O,mQ l u,AA]
  dsimp only
  have I:CB b c l true=some (IZ,2):=by rfl
  rw [hcf]
  show ∃r,(if okM (c.rps 0) none l=true then _ else _)=_∧_
  have j:okM (c.rps 0) none l=(incM none l&& !(l.any fun y=> !decide (y ∈ c.rps 0))):=rfl
  cases hinc:incM none l with
  |false=>
   rw [hinc,Bool.false_and] at j
   rw [j,if_neg (by simp),Bool.not_false,if_pos rfl,I]
   grind [IZ]
  | true=>
   rw [hinc,Bool.true_and] at j
   rw [Bool.not_true,if_neg (show ¬ ((false:Bool)=true) by simp),AA]
   cases hany:l.any fun y=> !decide (y ∈ c.rps 0) with
   |true=>
    rw [hany] at j
    rw [j,if_neg (by simp),I]
    grind [IZ]
   | false=>
    rw [hany] at j
    rw [j,if_pos (by rfl)]
    have H:∀q ∈ l,((0:Nat):Int)≤q→q<((0+c.nodes:Nat):Int)→q ∈ c.rps 0:=fun q hq _ _=>by
     rw [List.any_eq_false] at hany
     grind
    obtain⟨x,ok,m,h1,h2⟩:=jc (b:=b) rfl hE u c p J hn v 0 0 fuel (by omega) C (Ag F) (by omega) H
    obtain⟨y,U,at',h3,h4⟩:=jb (b:=b) rfl hE u c p J hn v 0 0 fuel (by omega) C (Ag F) (by omega)
    have h1':BP fuel ⟨b,l,0⟩ c=some (x,ok,m):=h1
    have h3':Bj fuel b c 0 l=some (y,U,at'):=h3
    unfold CB
    rw [if_neg (by simp),h1',h3',AA,AA]
    cases hdm:c.dm ⟨b.defs,opF⟩ (inP l) 0 with
    |none=>
     rw [hdm] at h2 h4
     grind [IZ]
    | some e=>
     rw [hdm] at h2 h4
     obtain⟨e1,rfl,-⟩:=h2
     obtain⟨e2,rfl,-⟩:=h4
     have e3:e=x:=e1.symm
     have e4:e=y:=e2.symm
     clear e1 e2
     subst e3 e4
     have g:=Tc hE c J v 0 0 (by omega) C _ hdm
     have gp:=g.parts
     have gN:e.nodes≤Big:=by grind
     have G:=SU 0 (by omega) e g.small g.wf 0 fuel (by grind) (Ag gN)
     rw [mv0 e g.wf] at G
     have hsh':EG fuel e 0 0=some e:=G
     unfold Kn
     refine⟨(e,0),?_,?_,?_⟩
     ·grind
     ·simp only [Bool.not_true,Bool.false_eq_true,reduceIte,X1 e g.small fuel (Ag gN),AA]
      try rfl
     ·have:=sT e g.wf
      grind
end Go.Proofs.YtjnifengdhcojaaGreatDoor.Ab
