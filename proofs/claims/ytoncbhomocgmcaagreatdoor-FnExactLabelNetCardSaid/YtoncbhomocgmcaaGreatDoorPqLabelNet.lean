/-
  Core terms, marked and found marked again. No program is in sight.
-/
import Derived.Test.YtoncbhomocgmcaaGreatDoorPlTU
import Derived.Test.YtoncbhomocgmcaaGreatDoorPlGc
import Derived.Test.YtoncbhomocgmcaaGreatDoorAbZ
import Derived.Test.YtoncbhomocgmcaaGreatDoorPlKf
import Derived.Test.YtoncbhomocgmcaaGreatDoorModL
namespace Go.Proofs.YtoncbhomocgmcaaGreatDoor.Ab
set_option linter.unusedVariables false
set_option linter.unusedSimpArgs false
open Go.RowKit
mutual
def Core.cnt:Core→Nat
 |⟨_,_,d,ks⟩=>1+1+Ab.cnts one d+Core.cnts ks
def Core.cnts:List Core→Nat
 | [] =>0
 |c::cs=>Core.cnt c+Core.cnts cs
end
theorem Core.cnt_eq (c:Core):c.cnt=1+1+Ab.cnts one c.data+Core.cnts c.kids:=by cases c; rw [Core.cnt]
mutual
def Core.mk1:Nat→Core→Core
 |k,⟨_,_,d,ks⟩=>⟨(k:Int),((k+1:Nat):Int),Ab.mks mkI one (k+1+1) d,Core.mks (k+1+1+Ab.cnts one d) ks⟩
def Core.mks:Nat→List Core→List Core
 |_,[] =>[]
 |k,c::cs=>Core.mk1 k c::Core.mks (k+Core.cnt c) cs
end
theorem Core.mk1_eq (k:Nat) (c:Core):Core.mk1 k c=⟨(k:Int),((k+1:Nat):Int),Ab.mks mkI one (k+1+1) c.data,Core.mks (k+1+1+Ab.cnts one c.data) c.kids⟩:=by cases c; rw [Core.mk1]
mutual
theorem Core.cnt_le:∀c:Core,c.cnt≤2+2*c.sz
 |⟨k,v,d,ks⟩=>by
  rw [Core.cnt,Core.sz]
  have:=ER (c:=one) (b:=1) (l:=d) (fun x=>OK)
  have:=Core.cnts_le ks
  omega
theorem Core.cnts_le:∀l:List Core,Core.cnts l≤2*Core.szs l
 | [] =>by simp [Core.cnts,Core.szs]
 |c::cs=>by
  rw [Core.cnts,Core.szs]
  have:=Core.cnt_le c
  have:=Core.cnts_le cs
  omega
end
theorem Qn:∀n:Nat,(∀ (l:List Core) (k:Nat),2*Core.szs l+2≤n→Core.szs l≤Big→k+Core.cnts l≤KB→Cp n l (k:Int)=some (((k+Core.cnts l:Nat):Int),Core.mks k l))∧
  (∀ (pre post:List Core) (k:Nat),2*Core.szs post+1≤n→pre.length+post.length≤Big→Core.szs post≤Big→k+Core.cnts post≤KB→
   Bx n (pre++post) (k:Int) (pre.length:Int)=some (((k+Core.cnts post:Nat):Int),pre++Core.mks k post)):=by
 intro n
 induction n with
 |zero=>exact⟨fun l k h=>by omega,fun pre post k h=>by omega⟩
 | succ n ih=>
  refine⟨fun l k h hs hk=>?_,fun pre post k h hl hs hk=>?_⟩
  ·rw [Cp]
   exact ih.2 [] l k (by omega) (by have:=Core.len_szs l; simp; omega) hs hk
  ·cases post with
   |nil=>rw [List.append_nil,Bx,if_neg (by rw [It]; decide),Core.cnts,Core.mks,List.append_nil]; rfl
   |cons x post=>
    rw [Core.szs] at h hs
    rw [Core.cnts] at hk ⊢
    rw [List.length_cons] at hl
    have e:k+(Core.cnt x+Core.cnts post)=k+1+1+Ab.cnts one x.data+Core.cnts x.kids+Core.cnts post:=by rw [Core.cnt_eq]; omega
    rw [e] at hk ⊢
    rw [Core.sz_eq] at h hs
    rw [Bx,if_pos Is]
    simp (disch:=omega) only [Ir,K9,AA,wk,FH,EB,ih.1]
    have hx:Core.mk1 k x=⟨(k:Int),((k+1:Nat):Int),Ab.mks mkI one (k+1+1) x.data,Core.mks (k+1+1+Ab.cnts one x.data) x.kids⟩:=Core.mk1_eq k x
    rw [← hx]
    have:=ih.2 (pre++[Core.mk1 k x]) post (k+1+1+Ab.cnts one x.data+Core.cnts x.kids) (by omega) (by simp; omega) (by omega) (by omega)
    rw [List.append_assoc,List.append_assoc,List.length_append] at this
    simp only [List.cons_append,List.nil_append,List.length_cons,List.length_nil,Nat.zero_add] at this
    rw [this,Core.mks,show k+Core.cnt x=k+1+1+Ab.cnts one x.data+Core.cnts x.kids from by rw [Core.cnt_eq]; omega]
theorem Qo:∀n:Nat,(∀ (l:List Core) (k:Nat),2*Core.szs l+2≤n→Core.szs l≤Big→k+Core.cnts l≤KB→Cq n (Core.mks k l) (k:Int)=some ((k+Core.cnts l:Nat):Int))∧
  (∀ (pre post:List Core) (k:Nat),2*Core.szs post+1≤n→pre.length+post.length≤Big→Core.szs post≤Big→k+Core.cnts post≤KB→
   By n (pre++Core.mks k post) (k:Int) (pre.length:Int)=some ((k+Core.cnts post:Nat):Int)):=by
 intro n
 induction n with
 |zero=>exact⟨fun l k h=>by omega,fun pre post k h=>by omega⟩
 | succ n ih=>
  refine⟨fun l k h hs hk=>?_,fun pre post k h hl hs hk=>?_⟩
  ·rw [Cq]
   exact ih.2 [] l k (by omega) (by have:=Core.len_szs l; simp; omega) hs hk
  ·cases post with
   |nil=>rw [Core.mks,List.append_nil,By,if_neg (by rw [It]; decide),Core.cnts]; rfl
   |cons x post=>
    rw [Core.szs] at h hs
    rw [Core.cnts] at hk ⊢
    rw [List.length_cons] at hl
    have e:k+(Core.cnt x+Core.cnts post)=k+1+1+Ab.cnts one x.data+Core.cnts x.kids+Core.cnts post:=by rw [Core.cnt_eq]; omega
    rw [e] at hk ⊢
    rw [Core.sz_eq] at h hs
    rw [Core.mks,By,if_pos Is]
    have hx:Core.mk1 k x=⟨(k:Int),((k+1:Nat):Int),Ab.mks mkI one (k+1+1) x.data,Core.mks (k+1+1+Ab.cnts one x.data) x.kids⟩:=Core.mk1_eq k x
    have h1:(Core.mk1 k x).kind =(k:Int):=by rw [hx]
    have h2:(Core.mk1 k x).value =((k+1:Nat):Int):=by rw [hx]
    have h3:(Core.mk1 k x).data =Ab.mks mkI one (k+1+1) x.data:=by rw [hx]
    have h4:(Core.mk1 k x).kids =Core.mks (k+1+1+Ab.cnts one x.data) x.kids:=by rw [hx]
    simp (disch:=omega) only [Ir,AA,h1,h2,h3,h4,wk,FH,Ty,eq_self,decide_true,Bool.not_true,Bool.false_eq_true,reduceIte,JS,ih.1]
    have:=ih.2 (pre++[Core.mk1 k x]) post (k+1+1+Ab.cnts one x.data+Core.cnts x.kids) (by omega) (by simp; omega) (by omega) (by omega)
    rw [List.append_assoc,List.length_append] at this
    simp only [List.cons_append,List.nil_append,List.length_cons,List.length_nil,Nat.zero_add] at this
    rw [show k+Core.cnt x=k+1+1+Ab.cnts one x.data+Core.cnts x.kids from by rw [Core.cnt_eq]; omega]
    exact this
theorem Qp (l:List Core) (k:Nat) (h:Core.szs l≤Big) (hk:k+Core.cnts l≤KB):Cp fuel l (k:Int)=some (((k+Core.cnts l:Nat):Int),Core.mks k l):=
 (Qn fuel).1 l k (by rw [BF]; unfold Big at h; omega) h hk
theorem Qq (l:List Core) (k:Nat) (h:Core.szs l≤Big) (hk:k+Core.cnts l≤KB):Cq fuel (Core.mks k l) (k:Int)=some ((k+Core.cnts l:Nat):Int):=
 (Qo fuel).1 l k (by rw [BF]; unfold Big at h; omega) h hk
def Core.mkV (k:Nat) (c:Core):Core:=⟨c.kind,c.value,Ab.mks mkI one k c.data,Core.mks (k+Ab.cnts one c.data) c.kids⟩
def Core.cntV (c:Core):Nat:=Ab.cnts one c.data+Core.cnts c.kids
theorem Core.cntV_le (c:Core):c.cntV≤2*c.sz:=by
 rw [Core.cntV,Core.sz_eq]
 have:=ER (c:=one) (b:=1) (l:=c.data) (fun x=>OK)
 have:=Core.cnts_le c.kids
 omega
theorem Si (c:Core) (k:Nat) (h:c.sz≤Big) (hk:k+c.cntV≤KB):F7 c (k:Int)=some (((k+c.cntV:Nat):Int),(Core.mkV k c).data,(Core.mkV k c).kids):=by
 have h1:=Core.cntV_le c
 rw [Core.cntV] at h1
 have h2:=Core.sz_eq c
 rw [Core.cntV] at hk
 unfold F7
 rw [EB _ _ (by omega) (by omega),AA,Qp _ _ (by omega) (by omega),AA]
 simp only [Core.mkV,Core.cntV,Nat.add_assoc]
theorem Sj (c:Core) (k:Nat) (h:c.sz≤Big) (hk:k+c.cntV≤KB):F8 (Core.mkV k c) (k:Int)=some ((k+c.cntV:Nat):Int):=by
 have h1:=Core.cntV_le c
 rw [Core.cntV] at h1
 have h2:=Core.sz_eq c
 rw [Core.cntV] at hk
 unfold F8 Core.mkV
 rw [JS _ _ (by omega) (by omega),AA,if_neg (by rw [Ty]; decide),Qq _ _ (by omega) (by omega),AA,if_neg (by rw [Ty]; decide)]
 simp only [Core.cntV,Nat.add_assoc]
set_option maxHeartbeats 1000000
theorem Net.small_of (n:Net) (h:n.sz≤1048576):n.Small:=by
 unfold Net.sz at h
 refine⟨?_,fun a ha=>?_⟩
 ·have:∀l:List Agent,szl (fun a=>a.ports.length) l≤szl Agent.sz l:=by
   intro l
   induction l with
   |nil=>exact Nat.le_refl _
   |cons x l ih=>simp only [szl,Agent.sz]; omega
  have:=this n.agents
  unfold Big; omega
 ·have h1:a.sz<szl Agent.sz n.agents:=JF ha
  have h2:a.data.length≤a.sz:=by unfold Agent.sz; omega
  unfold Big; omega
def FN:Stacks:=⟨none,none,none,none,none,none,none,none,none⟩
theorem T5:FN.lst=List.replicate 9 [] :=rfl
theorem OM (n:Net):∀ (j i:Nat) (m:Nat),i+j=9→j<m→Bs m n (List.replicate i []) (i:Int)=Bs (m - j) n (List.replicate 9 []) 9
 |0,i,m,h,hm=>by
  obtain rfl:i=9:=by omega
  rfl
 |j+1,i,m,h,hm=>by
  obtain⟨m,rfl⟩:∃k,m=k+1:=⟨m - 1,by omega⟩
  rw [Bs,if_pos (by simp; omega),CC (by simp [Big]; omega),AA,w64 (by omega) (by omega)]
  have e:List.replicate i ([] :List Int)++[[]] =List.replicate (i+1) [] :=by rw [List.replicate_succ']
  have e2:(i:Int)+1=((i+1:Nat):Int):=by omega
  rw [e,e2,OM n j (i+1) m (by omega) (by omega),show m+1 - (j+1)=m - j from by omega]
theorem WN {n:Net} (hv:n.valid=true) (hs:n.Small):∃ri rs,Dv n=some (ri.2.2,ri.1,ri.2.1)∧G7 n=some rs∧SS n.agents 0 0 ri rs:=by
 have hg:=Net.valid_vg hv
 obtain⟨A⟩:=n
 dsimp only at hg ⊢
 obtain⟨a,ha⟩:=Ip (l:=A) (i:=0) (by omega) (by have:=hg.len; omega)
 have hp:=agP (hg.ag _ _ ha)
 obtain⟨q,hq⟩:=Ip (l:=a.ports) (i:=0) (by omega) (by omega)
 obtain⟨F,hF⟩:∃F,fuel=F+1:=⟨fuel - 1,by rw [BF]⟩
 have hF2:20*4000+20≤F:=by rw [BF] at hF; omega
 obtain⟨ri,rs,h1,h2,h3⟩:=X6 hg 4000 ⟨⟨A⟩,0,0,[],List.replicate A.length 0,[]⟩ ⟨⟨A⟩,0,0,[],[],[],0⟩ 0 0 1 [] [] (List.replicate A.length 0) [] q FN none (ByteArray.mk #[]) F F rfl rfl rfl rfl rfl rfl (by omega) ⟨by omega,by omega,by simp,rfl,rfl,by simp⟩ (by omega) (by omega) (hg.pr _ _ _ _ ha hq) (by
  intro x hx
  simp only [Stacks.l,FN,List.mem_cons,List.not_mem_nil,or_false,or_self] at hx
  subst hx
  simp [stl]) (by simp [rbl]) (by simp [rbl]) (by show ((0:Nat):Int)≤_; omega) hF2 hF2
 have hn:ri.2.2.net =⟨A⟩∨True:=.inr trivial
 refine⟨⟨ri.1,ri.2.1,⟨⟨A⟩,ri.2.2.entered,ri.2.2.nodes,ri.2.2.origins,ri.2.2.times,ri.2.2.labels⟩⟩,rs,?_,?_,?_⟩
 ·unfold Dv
  rw [Uy _ hs,hv,AA,if_neg (by decide),Tq (by have:=hg.len; unfold Big; show A.length≤_; omega),AA,M9 ha hq,AA,hF,B0]
  change Option.bind (BJ F ⟨⟨A⟩,0,0,[],List.replicate A.length 0,[]⟩ none 1 0 0 [] (List.replicate A.length 0) [] q.agent q.slot FN.e0 FN.e1 FN.e2 FN.e3 FN.e4 FN.e5 FN.e6 FN.e7 FN.e8 (ByteArray.mk #[])) _=_
  rw [h1,AA]
 ·unfold G7
  have hb:=OM ⟨A⟩ 9 0 fuel rfl (by rw [BF]; omega)
  have e0:List.replicate 0 ([] :List Int)=[] :=rfl
  rw [e0,show ((0:Nat):Int)=0 from rfl] at hb
  obtain⟨G,hG⟩:∃G,fuel - 9=G+1:=⟨fuel - 10,by rw [BF]⟩
  rw [hb,hG,Bs,if_neg (by decide)]
  dsimp only
  rw [ha,AA,hq,AA,hF,Ba]
  rw [T5] at h2
  have e1:((rbl none).map (sbOf A)).reverse =[] :=rfl
  rw [e1] at h2
  dsimp only
  rw [h2,AA]
 ·rcases h3 with ⟨c1,c2,c3⟩|⟨c,e,k,E,O,T,L,rfl,rfl,hz,he,hk,hsz⟩
  ·exact .inl ⟨c1,c2,c3⟩
  ·exact .inr ⟨c,e,k,E,O,T,L,rfl,rfl,hz,he,hk,hsz⟩
def fitB (l:List ByteArray):Bool:=l.all fun s=> !decide (3000<(s.size:Int))
theorem YG (l:List ByteArray) (hl:l.length≤100000):GC l=some (fitB l):=by
 have loop:∀ (post pre:List ByteArray) (n:Nat),l=pre++post→post.length<n→CN n l (pre.length:Int)=some (fitB post):=by
  intro post
  induction post with
  |nil=>
   intro pre n h hn
   obtain⟨n,rfl⟩:∃m,n=m+1:=⟨n - 1,by omega⟩
   rw [CN,Dd h,if_neg (by simp)]; rfl
  |cons x post ih=>
   intro pre n h hn
   simp only [List.length_cons] at hn
   obtain⟨n,rfl⟩:∃m,n=m+1:=⟨n - 1,by omega⟩
   rw [CN,if_pos (DS h),Ce h,AA,B5 h (by unfold Big; omega),ih (pre++[x]) n (Bd h) (by omega)]
   unfold fitB
   rw [List.all_cons]
   cases decide (3000<(x.size:Int)) <;> rfl
 unfold GC
 exact loop l [] fuel rfl (by rw [BF]; omega)
theorem Z7 (l:List ByteArray) (hl:l.length≤100000):E9 l=some (fitB l):=by
 obtain⟨i,h1,h2,-⟩:=Hm Aw (fun n l i f=>by rw [Aw]) l (fun y0=>E2 y0) (fun s=>decide (3000<(s.size:Int))) (by unfold Big; omega) (fun x _=>rfl)
 unfold E9 CG C2
 rw [h1,AA,AA]
 congr 1
 unfold fitB
 have:decide (0≤i)=l.any fun s=>decide (3000<(s.size:Int)):=by rw [Bool.eq_iff_iff,decide_eq_true_eq]; exact h2
 rw [this,List.not_any_eq_all_not]
theorem Oq (x:Net) (h:x.sz≤1048576):∃r,F9 x=some r∧Ex x=some r∧r.1.term.sz ≤Big∧r.1.labels.length ≤Big:=by
 have hs:=Net.small_of x h
 unfold F9 Ex
 rw [Z4 x hs,AA]
 by_cases hv:x.valid=true
 ·obtain⟨ri,rs,h1,h2,h3⟩:=WN hv hs
  rw [hv,if_neg (by decide),h1,AA]
  unfold K1
  rw [h2,AA]
  dsimp only
  rcases h3 with ⟨c1,c2,c3⟩|⟨c,e,k,E,O,T,L,rfl,rfl,hz,he,hk,hsz⟩
  ·have hc:(!decide (ri.2.1 =0))=true:=by simpa using c1
   rw [c2,if_pos hc,if_pos hc,AA]
   exact⟨_,rfl,rfl,by simp [Core.sz,Core.szs],by simp⟩
  ·have c0:¬ (!decide ((0:Int)=0))=true:=by decide
   have hL:=hz.hL
   have hk2:=hz.hk
   dsimp only
   rw [if_neg c0,if_neg c0,YG L (by omega),AA,Z7 L (by omega),AA]
   cases fitB L with
   |false=>exact⟨_,rfl,rfl,by simp [Core.sz,Core.szs],by simp⟩
   |true=>
    rw [if_neg (by decide),if_neg (by decide),CC (by simp [Big]; omega),AA,AA,List.nil_append]
    exact⟨_,rfl,rfl,by unfold Big; dsimp only; omega,by unfold Big; dsimp only; omega⟩
 ·have hvf:x.valid=false:=by simpa using hv
  have hi:Dv x=some (⟨⟨[]⟩,0,0,[],[],[]⟩,⟨0,0,[],[]⟩,1):=by
   unfold Dv
   rw [Uy x hs,hvf,AA,if_pos (by decide)]
  rw [hvf,if_pos (show (!false)=true by decide),hi,AA,if_pos (by decide)]
  exact⟨_,rfl,rfl,by simp [Core.sz,Core.szs],by simp⟩
theorem Ln:∀ (j n k:Nat) (acc:ByteArray),k<10 ^ j→j<n→k≤9223372036854775807→acc.size+j≤1000→∃s,Bo n (k:Int) acc=some s:=by
 have k1:(ByteArray.mk #[109]).size =1:=rfl
 have zero:∀ (n:Nat) (acc:ByteArray),0<n→acc.size≤1000→∃s,Bo n ((0:Nat):Int) acc=some s:=fun n acc hn ha=>by
  obtain⟨n,rfl⟩:∃m,n=m+1:=⟨n - 1,by omega⟩
  rw [Bo,if_neg (by simp),Hk (by omega),AA]
  exact⟨_,rfl⟩
 intro j
 induction j with
 |zero=>
  intro n k acc h1 h2 h3 h4
  obtain rfl:k=0:=by simpa using h1
  exact zero n acc (by omega) (by omega)
 | succ j ih=>
  intro n k acc h1 h2 h3 h4
  by_cases h0:k=0
  ·subst h0; exact zero n acc (by omega) (by omega)
  ·obtain⟨n,rfl⟩:∃m,n=m+1:=⟨n - 1,by omega⟩
   have hd:Int.tdiv (k:Int) 10=((k / 10:Nat):Int):=rfl
   rw [Nat.pow_succ] at h1
   unfold Bo
   rw [if_pos (by simp; omega)]
   unfold MS
   rw [if_pos (by simp),AA]
   have hs:∀z:Int,(strOfNums [z]).size =1:=fun z=>rfl
   rw [Hk (by rw [hs]; omega),AA,hd,w64 (by omega) (by omega)]
   exact ih n (k / 10) _ (by omega) (by omega) (by omega) (by rw [ByteArray.size_append,hs]; omega)
def mkSt:Nat→ByteArray→ByteArray:=fun k _=>(Dn (k:Int)).getD (ByteArray.mk #[])
theorem MX (k:Nat) (x:ByteArray) (hk:k≤KB):Dn (k:Int)=some (mkSt k x):=by
 have:∃s,Dn (k:Int)=some s:=by
  unfold Dn
  split
  ·exact⟨_,rfl⟩
  ·exact Ln 19 fuel k _ (by unfold KB at hk; omega) (Nat.lt_of_lt_of_le (by omega) (Qf (n:=20) (by omega))) (by unfold KB at hk; omega) (by show 0+19≤1000; omega)
 obtain⟨s,hs⟩:=this
 unfold mkSt
 rw [hs]
 rfl
theorem ON (l:List ByteArray) (k:Nat) (h:l.length≤Big) (hk:k+cnts one l≤KB):D8 l (k:Int)=some (((k+cnts one l:Nat):Int),mks mkSt one k l):=by
 unfold D8
 refine Uz (fun n l k i=>BW n l k i) mkSt one (fun _=>True) ?_ ?_ l k (fun _ _=>trivial) h hk
 ·intro n pre post x k hx hk hp
  have e:k+one x=k+1:=by rfl
  rw [e] at hk ⊢
  rw [BW,if_pos Is,MX k x (by omega)]
  simp (disch:=omega) only [Ir,K9,AA,wk,FH]
 ·intro n l k; rw [BW,if_neg (by rw [It]; decide)]
theorem OO (l:List ByteArray) (k:Nat) (h:l.length≤Big) (hk:k+cnts one l≤KB):D9 (mks mkSt one k l) (k:Int)=some ((k+cnts one l:Nat):Int):=by
 unfold D9
 refine aY (fun n l k i=>BX n l k i) mkSt one (fun _=>True) ?_ ?_ l k (fun _ _=>trivial) h hk
 ·intro n pre post x k hx hk hp
  have e:k+one x=k+1:=by rfl
  rw [e] at hk ⊢
  rw [BX,if_pos Is,MX k x (by omega)]
  simp (disch:=omega) only [Ir,AA,wk,FH,K6,Bool.not_true,Bool.false_eq_true,reduceIte]
 ·intro n l k; rw [BX,if_neg (by rw [It]; decide)]
theorem Mg (l m:List ByteArray) (hl:l.length≤Big):Bm (E7 l m) (l=m):=by
 unfold E7
 exact WD (fun n i=>CR n l m i) (fun x y=>some (Df x y)) l m (fun n i=>by rw [CR]; rfl) hl fun x _ y _=>.mk SX
theorem OF (a0:Net) (h0:H1 (Net.ds a0)):Dh a0=some true:=by
 unfold Dh
 refine cg (YE a0 (Net.ok_of a0 h0) (1048576) (by omega)) fun z0=>?_
 have b0:a0.sz≤Big:=by unfold Big; omega
 obtain⟨r,hs,hi,hr1,hr2⟩:=Oq a0 (by omega)
 have ft0:FZ a0=some a0:=YF a0 b0
 have fe0:JC a0 a0=some true:=(Sh a0 a0 b0).true rfl
 have fm0:Fi a0 1=some (((1+a0.cntV:Nat):Int),mks Agent.mk1 Agent.cnt 1 a0.agents):=T4 a0 1 b0 (by have:=Net.cntV_le a0; have:=b0; unfold Big KB at*; omega)
 have ge0:DH r.1 r.1 =some true:=by
  unfold DH
  rw [Xv _ hr1,AA,if_neg (by simp),(Mg r.1.labels r.1.labels hr2).true rfl,AA]
  rfl
 have hc:=r.1.term.cntV_le
 have c1:cnts one r.1.labels ≤1*r.1.labels.length :=ER (fun x=>OK)
 have m1:=Si r.1.term 1 hr1 (by unfold Big KB at*; omega)
 have m2:=ON r.1.labels (1+r.1.term.cntV) hr2 (by unfold Big KB at*; omega)
 have n1:=Sj r.1.term 1 hr1 (by unfold Big KB at*; omega)
 have n2:=OO r.1.labels (1+r.1.term.cntV) hr2 (by unfold Big KB at*; omega)
 have gm0:Do r.1 1=some (((1+r.1.term.cntV +cnts one r.1.labels :Nat):Int),(Core.mkV 1 r.1.term).data,(Core.mkV 1 r.1.term).kids,mks mkSt one (1+r.1.term.cntV) r.1.labels):=by
  unfold Do
  rw [show (1:Int)=((1:Nat):Int) from rfl,m1,AA,m2,AA]
 have gh0:C7 (⟨(⟨r.1.term.kind,r.1.term.value,(Core.mkV 1 r.1.term).data,(Core.mkV 1 r.1.term).kids⟩:Core),mks mkSt one (1+r.1.term.cntV) r.1.labels⟩:Labelled) 1=some (((1+r.1.term.cntV +cnts one r.1.labels :Nat):Int)):=by
  have e:(⟨r.1.term.kind,r.1.term.value,(Core.mkV 1 r.1.term).data,(Core.mkV 1 r.1.term).kids⟩:Core)=Core.mkV 1 r.1.term :=rfl
  unfold C7
  rw [e,show (1:Int)=((1:Nat):Int) from rfl,n1,AA,if_neg (by rw [Ty]; decide),n2,AA,if_neg (by rw [Ty]; decide)]
 simp only [AA,hs,hi,ft0,fe0,fm0,ge0,gm0,gh0,B2,BY,B1,K6,beq_self_eq_true,Ty,eq_self,decide_true,decide_false,Bool.not_true,Bool.not_false,Bool.false_eq_true,reduceIte]
end Go.Proofs.YtoncbhomocgmcaaGreatDoor.Ab
