/-
  The law on NameAt, from what both sides give. No program is in sight.
-/
import Derived.Test.YtgigfdghecdlgaaAbZ
import Derived.Test.YtgigfdghecdlgaaPlMC
import Derived.Test.YtgigfdghecdlgaaPlNameAt
import Derived.Test.YtgigfdghecdlgaaModO
namespace Go.Proofs.Ytgigfdghecdlgaa.Ab
set_option linter.unusedVariables false
set_option linter.unusedSimpArgs false
open Go.RowKit
theorem PW {l:List ByteArray} (h:Kl (List.map A2 l)):∀s ∈ l,s.size≤9223372036854775807:=by
 intro s hs
 have:=Km h hs
 simp only [A2,Gq,D.ok] at this
 exact this.1
theorem Labelled.parts (x:Labelled) (h:Gq (Labelled.ds x)):x.term.Fits∧x.labels.length≤9223372036854775807∧∀s ∈ x.labels,s.size≤9223372036854775807:=by
 rw [Labelled.ds_eq] at h
 simp only [Gq,D.ok,List.length_map] at h
 obtain⟨h1,h2,h3,h4,⟨h5,h6⟩,-⟩:=h
 refine⟨x.term.fits_ok ?_,h5,PW h6⟩
 rw [Core.ds_eq]
 simp only [Gq,D.ok,List.length_map]
 exact⟨h1,h2,h3,h4,trivial⟩
theorem Ms (x:Labelled) (h1:x.term.sz≤Big) (h3:x.labels.length≤Big):CA x=some x:=by
 unfold CA
 rw [Sy _ h1,AA,Mg _ h3,AA]
theorem Mt (x:Labelled) (h1:x.term.sz≤Big) (h3:x.labels.length≤Big):Dn x x=some true:=by
 unfold Dn
 rw [Sz _ h1,AA,if_neg (by simp),IW _ h3,AA]
 rfl
end Go.Proofs.Ytgigfdghecdlgaa.Ab
namespace Go.Proofs.Ytgigfdghecdlgaa.Ab
set_option linter.unusedVariables false
set_option linter.unusedSimpArgs false
open Go.RowKit
def posP (q:Core × Nat):Int:=((q.2 :Nat):Int)
theorem S8:∀ (c:Core),c.wf=true→∀ (n p:Nat) (out:List Int),4*c.nodes≤n→out.length+c.nodes≤Big→p+c.nodes≤Big→
  CC n c (p:Int) out=some (out++(redl c.all p).map posP,((p+c.nodes:Nat):Int)):=by
 refine Core.ind fun c ih hw n p out hn ho hp=>?_
 rw [Core.wf_eq,Bool.and_eq_true] at hw
 have hnd:=c.nodes_eq
 have hkl:=D6 c.kids
 have loop:∀ (post pre:List Core) (n:Nat) (out:List Int),c.kids=pre++post→4*Core.nodess post+1≤n→out.length+Core.nodess post≤Big→
   BI n c ((p+1+Core.nodess pre:Nat):Int) out ((List.length pre:Nat):Int)=some (out++(redl (Core.alls post) (p+1+Core.nodess pre)).map posP,((p+c.nodes:Nat):Int)):=by
  intro post
  induction post with
  |nil=>
   intro pre n out h hn ho
   obtain⟨n,rfl⟩:∃m,n=m+1:=⟨n - 1,by omega⟩
   have h':c.kids=pre:=by rw [h,List.append_nil]
   rw [BI,Bz h,if_neg (by simp),hnd,h']
   simp [Core.alls,redl,Dx]
   omega
  |cons y post ihp=>
   intro pre n out h hn ho
   rw [Core.nodess] at hn ho
   have hy:=y.nodes_pos
   obtain⟨n,rfl⟩:∃m,n=m+1:=⟨n - 1,by omega⟩
   have hm:y ∈ c.kids:=by rw [h]; simp
   have hsum:Core.nodess c.kids=Core.nodess pre+(y.nodes+Core.nodess post):=by rw [h,FB,Core.nodess]
   have hR:=OR y.all (p+1+Core.nodess pre)
   rw [DJ] at hR
   rw [BI,if_pos (BW h),BX h,AA,ih y hm (Ji hm hw.2) n _ out (by omega) (by omega) (by omega),AA,Al h (by omega)]
   have:=ihp (pre++[y]) n (out++(redl y.all (p+1+Core.nodess pre)).map posP) (Am h) (by omega) (by rw [List.length_append,List.length_map]; omega)
   rw [Db] at this
   simp only
   rw [show p+1+Core.nodess pre+y.nodes=p+1+(Core.nodess pre+y.nodes) from by omega,this,Core.alls,OP,DJ,List.map_append,List.append_assoc,Nat.add_assoc (p+1)]
 obtain⟨n,rfl⟩:∃m,n=m+1:=⟨n - 1,by omega⟩
 obtain⟨n,rfl⟩:∃m,n=m+1:=⟨n - 1,by omega⟩
 rw [CC,S7 c hw.1,AA,Core.all_eq,I0]
 have l0:=fun o ho'=>loop c.kids [] n o rfl (by omega) ho'
 simp only [Core.nodess,Nat.add_zero,List.length_nil,Int.natCast_zero] at l0
 have hwr:IntKind.i64.wrap ((p:Int)+1)=((p+1:Nat):Int):=by rw [w64 (by omega) (by unfold Big at hp; omega)]; omega
 by_cases h:rk c=0
 ·rw [if_neg (by simp [h]),Bb,hwr,l0 out (by omega),if_pos h,List.nil_append]
 ·rw [if_pos (by simp [h]),Iy (by simp; omega),AA,Bb,hwr,l0 _ (by simp; omega),if_neg h,List.map_append,List.append_assoc]
  rfl
theorem QG:∀ (l:List Core) (p:Nat),∀q ∈ redl l p,p≤q.2 ∧l[q.2 - p]? =some q.1 ∧rk q.1 ≠0
 | [],p,q,h=>by simp [redl,Dx] at h
 | c::l,p,q,h=>by
  rw [I0] at h
  rcases List.mem_append.1 h with h|h
  ·by_cases hr:rk c=0
   ·simp [hr] at h
   ·rw [if_neg hr,List.mem_singleton] at h
    rw [h]
    exact⟨Nat.le_refl _,by simp,hr⟩
  ·obtain⟨h1,h2,h3⟩:=QG l (p+1) q h
   refine⟨by omega,?_,h3⟩
   rw [show q.2 - p=(q.2 - (p+1))+1 from by omega,List.getElem?_cons_succ]
   exact h2
def nmP (L:List ByteArray) (q:Core × Nat):ByteArray:=nm L q.1 q.2
theorem Mu (x:Labelled) (hz:x.term.sz≤1048576) (hl:x.labels.length≤1048576):∃r,Fk x=some r∧Eh x=some r∧r.1.length ≤1048577∧∀t ∈ r.1,t.size≤6001:=by
 have hs:x.term.Small:=x.term.small_of (by unfold Big; omega)
 have hnd:=x.term.nodes_le
 have hN:x.term.nodes≤Big:=by unfold Big; omega
 have hL:x.labels.length≤Big:=by unfold Big; omega
 unfold Fk Eh
 rw [WG x hs hN hL,IX x hs hN hL,AA,AA]
 cases hv:x.valid with
 |false=>exact⟨_,rfl,rfl,by simp,by simp⟩
 | true=>
  unfold Labelled.valid at hv
  simp only [Bool.and_eq_true,decide_eq_true_eq] at hv
  obtain⟨⟨⟨hcl,-⟩,hnl⟩,hfit⟩:=hv
  have hwf:=RK hcl
  have hf4:4*x.term.nodes≤fuel:=by rw [B5]; omega
  have htree:=S1 x hL x.term fuel 0 (by omega) hf4
  have hreds:=S3 x.labels x.term hwf fuel 0 [] hf4 (by simpa using hN)
  have hsr:=S8 x.term hwf fuel 0 [] hf4 (by simpa using hN) (by omega)
  have hlen:=OR x.term.all 0
  rw [DJ] at hlen
  simp only [Int.natCast_zero] at htree hsr
  rw [if_neg (by simp),if_neg (by simp)]
  unfold DI
  rw [htree,AA,AA,hreds,AA,hsr,AA,List.nil_append,List.nil_append]
  have hal:=DJ x.term
  have hat:=QG x.term.all 0
  generalize redl x.term.all 0=R at hat hlen ⊢
  have iloop:∀ (post pre:List (Core × Nat)) (n:Nat),R=pre++post→post.length+1≤n→CE n (R.map (lnP x.labels)) (pre.map (nmP x.labels)) ((List.length pre:Nat):Int)=some (R.map (nmP x.labels),0):=by
   intro post
   induction post with
   |nil=>
    intro pre n h hn
    obtain⟨n,rfl⟩:∃m,n=m+1:=⟨n - 1,by omega⟩
    have h':R=pre:=by rw [h,List.append_nil]
    rw [CE,List.length_map,Bz h,if_neg (by simp),h']
   |cons q post ih=>
    intro pre n h hn
    rw [List.length_cons] at hn
    obtain⟨n,rfl⟩:∃m,n=m+1:=⟨n - 1,by omega⟩
    have hm:q ∈ R:=by rw [h]; simp
    have hpl:pre.length<R.length:=by rw [h]; simp
    obtain⟨-,h2,h3⟩:=hat q hm
    have hno:=QE (PS x.term hwf q.1 (List.mem_of_getElem? h2))
    have h4:R.map (lnP x.labels)=pre.map (lnP x.labels)++lnP x.labels q::post.map (lnP x.labels):=by rw [h]; simp
    have hl4:((List.length pre:Nat):Int)=((List.length (pre.map (lnP x.labels)):Nat):Int):=by rw [List.length_map]
    rw [CE,hl4,if_pos (BW h4),BX h4,AA,show Az (lnP x.labels q)=some (nmP x.labels q) from S5 x.labels hfit q.1 q.2 hno h3,AA,Iy (by simp; unfold Big at*; omega),AA,Al h4 (by rw [List.length_map]; omega)]
    have:=ih (pre++[q]) n (Am h) (by omega)
    simpa using this
  have sloop:∀ (post pre:List (Core × Nat)) (n:Nat),R=pre++post→post.length+1≤n→CD n x (R.map posP,((0+x.term.nodes:Nat):Int)) (pre.map (nmP x.labels)) ((List.length pre:Nat):Int)=some (R.map (nmP x.labels),0):=by
   intro post
   induction post with
   |nil=>
    intro pre n h hn
    obtain⟨n,rfl⟩:∃m,n=m+1:=⟨n - 1,by omega⟩
    have h':R=pre:=by rw [h,List.append_nil]
    rw [CD]
    simp only
    rw [List.length_map,Bz h,if_neg (by simp),h']
   | cons q post ih=>
    intro pre n h hn
    rw [List.length_cons] at hn
    obtain⟨n,rfl⟩:∃m,n=m+1:=⟨n - 1,by omega⟩
    have hm:q ∈ R:=by rw [h]; simp
    have hpl:pre.length<R.length:=by rw [h]; simp
    obtain⟨-,h2,h3⟩:=hat q hm
    rw [Nat.sub_zero] at h2
    have hno:=QE (PS x.term hwf q.1 (List.mem_of_getElem? h2))
    have hq:q.2 <x.term.nodes:=by
     obtain⟨hlt,-⟩:=List.getElem?_eq_some_iff.1 h2
     omega
    have h4:R.map posP=pre.map posP++posP q::post.map posP:=by rw [h]; simp
    have hl4:((List.length pre:Nat):Int)=((List.length (pre.map posP):Nat):Int):=by rw [List.length_map]
    have hst:=S2 x.labels hL x.term fuel 0 (by omega) hf4
    have hsf:=S4 x.labels x.term fuel 0 q.2 hf4 hN (by omega)
    rw [h2] at hsf
    simp only [Int.natCast_zero] at hst
    have hAt:IU x (posP q)=some (q.1.lt x.labels q.2,true):=by
     unfold IU posP
     rw [Gr,AA,w64 (by omega) (by omega),decide_eq_true (by omega),if_neg (by simp),hst,AA]
     unfold F7
     simp only
     rw [hsf,AA]
     simp only [Ks,Nat.zero_add]
    rw [CD]
    simp only
    rw [hl4,if_pos (BW h4),BX h4,AA,hAt,AA,show Eg (q.1.lt x.labels q.2)=some (nmP x.labels q) from S6 x.labels hfit q.1 q.2 hno h3,AA,Iy (by simp; unfold Big at*; omega),AA,Al h4 (by rw [List.length_map]; omega)]
    have:=ih (pre++[q]) n (Am h) (by omega)
    simpa using this
  have hfu:R.length+1≤fuel:=by rw [B5]; omega
  refine⟨_,sloop R [] fuel rfl hfu,iloop R [] fuel rfl hfu,by simp only [List.length_map]; omega,?_⟩
  intro t ht
  obtain⟨q,-,rfl⟩:=List.mem_map.1 ht
  unfold nmP nm
  have s1:=Fm hfit (q.2 +1)
  have s2:=Fm hfit (q.2 +1+(kidC q.1.kids 0).nodes)
  have s3:amp.size=1:=rfl
  split
  ·rw [ByteArray.size_append,ByteArray.size_append]; omega
  ·omega
end Go.Proofs.Ytgigfdghecdlgaa.Ab
namespace Go.Proofs.Ytgigfdghecdlgaa.Ab
set_option linter.unusedVariables false
set_option linter.unusedSimpArgs false
open Go.RowKit
theorem I1:∀ (j n k:Nat) (acc:ByteArray),k<10 ^ j→j<n→k≤9223372036854775807→acc.size+j≤1000→∃s,BO n (k:Int) acc=some s:=by
 have k1:(ByteArray.mk #[109]).size =1:=rfl
 have zero:∀ (n:Nat) (acc:ByteArray),0<n→acc.size≤1000→∃s,BO n ((0:Nat):Int) acc=some s:=fun n acc hn ha=>by
  obtain⟨n,rfl⟩:∃m,n=m+1:=⟨n - 1,by omega⟩
  rw [BO,if_neg (by simp),HH (by omega),AA]
  exact⟨_,rfl⟩
 intro j
 induction j with
 |zero=>
  intro n k acc h1 h2 h3 h4
  obtain rfl:k=0:=by simpa using h1
  exact zero n acc (by omega) (by omega)
 | succ j ih=>
  intro n k acc h1 h2 h3 h4
  by_cases h0:k=0
  ·subst h0; exact zero n acc (by omega) (by omega)
  ·obtain⟨n,rfl⟩:∃m,n=m+1:=⟨n - 1,by omega⟩
   have hd:Int.tdiv (k:Int) 10=((k / 10:Nat):Int):=rfl
   rw [Nat.pow_succ] at h1
   unfold BO
   rw [if_pos (by simp; omega)]
   unfold P3
   rw [if_pos (by simp),AA]
   have hs:∀z:Int,(strOfNums [z]).size =1:=fun z=>rfl
   rw [HH (by rw [hs]; omega),AA,hd,w64 (by omega) (by omega)]
   exact ih n (k / 10) _ (by omega) (by omega) (by omega) (by rw [ByteArray.size_append,hs]; omega)
def mkSt:Nat→ByteArray→ByteArray:=fun k _=>(Cv (k:Int)).getD (ByteArray.mk #[])
theorem JO (k:Nat) (x:ByteArray) (hk:k≤KB):Cv (k:Int)=some (mkSt k x):=by
 have:∃s,Cv (k:Int)=some s:=by
  unfold Cv
  split
  ·exact⟨_,rfl⟩
  ·exact I1 19 fuel k _ (by unfold KB at hk; omega) (Nat.lt_of_lt_of_le (by omega) (Uk (n:=20) (by omega))) (by unfold KB at hk; omega) (by show 0+19≤1000; omega)
 obtain⟨s,hs⟩:=this
 unfold mkSt
 rw [hs]
 rfl
theorem Gu (l:List ByteArray) (k:Nat) (h:l.length≤Big) (hk:k+cnts one l≤KB):Cj l (k:Int)=some (((k+cnts one l:Nat):Int),mks mkSt one k l):=by
 unfold Cj
 refine U8 (fun n l k i=>A8 n l k i) mkSt one (fun _=>True) ?_ ?_ l k (fun _ _=>trivial) h hk
 ·intro n pre post x k hx hk hp
  have e:k+one x=k+1:=by rfl
  rw [e] at hk ⊢
  rw [A8,if_pos Ml,JO k x (by omega)]
  simp (disch:=omega) only [Mk,Mm,AA,wk,IY]
 ·intro n l k; rw [A8,if_neg (by rw [Mn]; decide)]
theorem Kt (l:List ByteArray) (k:Nat) (h:l.length≤Big) (hk:k+cnts one l≤KB):Ck (mks mkSt one k l) (k:Int)=some ((k+cnts one l:Nat):Int):=by
 unfold Ck
 refine Yl (fun n l k i=>A9 n l k i) mkSt one (fun _=>True) ?_ ?_ l k (fun _ _=>trivial) h hk
 ·intro n pre post x k hx hk hp
  have e:k+one x=k+1:=by rfl
  rw [e] at hk ⊢
  rw [A9,if_pos Ml,JO k x (by omega)]
  simp (disch:=omega) only [Mk,AA,wk,IY,IV,Bool.not_true,Bool.false_eq_true,reduceIte]
 ·intro n l k; rw [A9,if_neg (by rw [Mn]; decide)]
theorem K9 (a0:Labelled) (h0:Gq (Labelled.ds a0)):C5 a0=some true:=by
 obtain⟨hf,hl,hs⟩:=a0.parts h0
 unfold C5
 rw [LD a0 hf hl hs,AA,HE]
 by_cases h:1048576<a0.term.sz+(a0.labels.length+HX a0.labels)
 ·rw [if_pos (by simpa using h)]
 rw [if_neg (by simpa using h)]
 have hz:a0.term.sz≤1048576:=by omega
 have hll:a0.labels.length≤1048576:=by omega
 obtain⟨r,hr1,hr2,hr3,-⟩:=Mu a0 hz hll
 have ft0:=Ms a0 (by unfold Big; omega) (by unfold Big; omega)
 have fe0:=Mt a0 (by unfold Big; omega) (by unfold Big; omega)
 have br:r.1.length ≤Big:=by unfold Big; omega
 have ge0:=IW r.1 br
 have hc:=a0.term.cntV_le
 have c1:cnts one a0.labels≤1*a0.labels.length:=Fl (fun x=>Mo)
 have c2:cnts one r.1 ≤1*r.1.length :=Fl (fun x=>Mo)
 have m1:=OQ a0.term 1 (by unfold Big; omega) (by unfold KB; omega)
 have m2:=Gu a0.labels (1+a0.term.cntV) (by unfold Big; omega) (by unfold KB; omega)
 have fm0:Cw a0 1=some (((1+a0.term.cntV+cnts one a0.labels:Nat):Int),(Core.mkV 1 a0.term).data,(Core.mkV 1 a0.term).kids,mks mkSt one (1+a0.term.cntV) a0.labels):=by
  unfold Cw
  rw [show (1:Int)=((1:Nat):Int) from rfl,m1,AA,m2,AA]
 have gm0:=Gu r.1 1 br (by unfold KB; omega)
 have gh0:=Kt r.1 1 br (by unfold KB; omega)
 rw [show ((1:Nat):Int)=1 from rfl] at gm0 gh0
 simp only [AA,hr1,hr2,ft0,fe0,ge0,fm0,gm0,gh0,Bd,BG,Be,a8,eq_self,decide_true,decide_false,Bool.not_true,Bool.not_false,Bool.false_eq_true,reduceIte]
end Go.Proofs.Ytgigfdghecdlgaa.Ab
