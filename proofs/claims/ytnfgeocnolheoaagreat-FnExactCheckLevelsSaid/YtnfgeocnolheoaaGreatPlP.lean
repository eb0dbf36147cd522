/-
  Programs that are in order; free names: both sides. No program is in sight.
-/
import Derived.Test.YtnfgeocnolheoaaGreatPlR
namespace Go.Proofs.YtnfgeocnolheoaaGreat.Ab
set_option linter.unusedVariables false
set_option maxHeartbeats 1000000
set_option linter.unusedSimpArgs false
open Go.RowKit
noncomputable def Qt (pre:List Def) (d:Def):Bool:=lowB d.name&& !(pre.any fun x=>sameStr x.name d.name)&&vtB d.typ&&tmB d.body
noncomputable def K2 (p:TProgram):Bool:=Il p.datas&&decide (1≤p.defs.length)&&decide (p.defs.length≤8)&&allp Qt [] p.defs
theorem jc {α:Type} {p:α→Bool} {x:α} {l pre post:List α} (h:l=pre++x::post) (hx:p x=true):decide (idx p l<(pre.length:Int))=pre.any p:=by
 rw [h,VB p x post hx]
 have hg:=Mh p pre
 grind
theorem VC (p:TProgram) (hz:p.sz≤Big):HU p=some (K2 p):=by
 unfold TProgram.sz at hz
 have hB:Big=4294967296:=rfl
 have hlen:=AZ Def.sz p.defs
 unfold HU FU K2
 rw [gN p.datas (by omega),AA,ai,AA]
 have e1:decide ((1:Int)≤(p.defs.length:Int))=decide (1≤p.defs.length):=decide_eq_decide.2 ⟨fun h=>by omega,fun h=>by omega⟩
 have e2:decide ((p.defs.length:Int)≤8)=decide (p.defs.length≤8):=decide_eq_decide.2 ⟨fun h=>by omega,fun h=>by omega⟩
 rw [e1,e2]
 have:=Dc (L:=fun n (_:Unit) i=>Bm n p i) p.defs 2 1 (fun _=>()) Qt (some false) (some true) (fun N R pre d post hh hp hN hR m hm=>by
   obtain⟨m,rfl⟩:∃k,m=k+2:=⟨m - 2,by omega⟩
   have hds:=Ac (s:=Def.sz) (BE hh)
   have hd:d.sz=d.name.size+(d.typ.sz+(d.body.sz+0)):=rfl
   show Bm (m+2) p _=_
   have hfi:decide (fIdx p.defs d.name=(pre.length:Int))= !(pre.any fun x=>sameStr x.name d.name):=UZ hh (Bj _)
   rw [Bm,if_pos (Ah hh),AY hh,AA,LY,AA,KM p.defs _ (by omega),AA,Je d.typ (by omega),AA,Wp d.body (by omega),AA,hfi]
   grind [C0,AP,Qt]) (fun _ m hm=>by
   obtain⟨m,rfl⟩:∃k,m=k+1:=⟨m - 1,by omega⟩
   grind [Bm]) fuel (A3 (by omega))
 have h0:Bm fuel p 0=_:=this
 rw [h0]
 rcases Bool.eq_false_or_eq_true (Il p.datas) with a1|a1 <;> rcases Bool.eq_false_or_eq_true (decide (1≤p.defs.length)) with a2|a2 <;> rcases Bool.eq_false_or_eq_true (decide (p.defs.length≤8)) with a3|a3 <;> rcases Bool.eq_false_or_eq_true (allp Qt [] p.defs) with a4|a4 <;> simp only [a1,a2,a3,a4,Bool.not_true,Bool.not_false,Bool.true_and,Bool.and_true,Bool.false_and,Bool.and_false,Bool.false_eq_true,if_true,if_false]
theorem VD (p:TProgram) (hz:p.sz≤Big):F1 p=some (K2 p):=by
 unfold TProgram.sz at hz
 have hB:Big=4294967296:=rfl
 have hlen:=AZ Def.sz p.defs
 unfold F1 DY K2
 rw [gO p.datas (by omega),AA]
 have e1:decide ((p.defs.length:Int)<1)= !decide (1≤p.defs.length):=by rw [← decide_not]; grind
 have e2:decide ((8:Int)<(p.defs.length:Int))= !decide (p.defs.length≤8):=by rw [← decide_not]; grind
 rw [e1,e2]
 have:=Dc (L:=fun n (_:Unit) i=>BM n p i) p.defs 2 1 (fun _=>()) Qt (some false) (some true) (fun N R pre d post hh hp hN hR m hm=>by
   obtain⟨m,rfl⟩:∃k,m=k+2:=⟨m - 2,by omega⟩
   have hds:=Ac (s:=Def.sz) (BE hh)
   have hd:d.sz=d.name.size+(d.typ.sz+(d.body.sz+0)):=rfl
   show BM (m+2) p _=_
   have hfi:decide (fIdx p.defs d.name<(pre.length:Int))=pre.any fun x=>sameStr x.name d.name:=jc hh (Bj _)
   rw [BM,if_pos (Ah hh),AY hh,AA,LZ,AA,LW p _ (by omega),AA,Jf d.typ (by omega),AA,Wq d.body (by omega),AA,hfi]
   grind [CI,AP,Qt]) (fun _ m hm=>by
   obtain⟨m,rfl⟩:∃k,m=k+1:=⟨m - 1,by omega⟩
   grind [BM]) fuel (A3 (by omega))
 have h0:BM fuel p 0=_:=this
 rw [h0]
 rcases Bool.eq_false_or_eq_true (Il p.datas) with a1|a1 <;> rcases Bool.eq_false_or_eq_true (decide (1≤p.defs.length)) with a2|a2 <;> rcases Bool.eq_false_or_eq_true (decide (p.defs.length≤8)) with a3|a3 <;> rcases Bool.eq_false_or_eq_true (allp Qt [] p.defs) with a4|a4 <;> simp only [a1,a2,a3,a4,Bool.not_true,Bool.not_false,Bool.true_and,Bool.and_true,Bool.false_and,Bool.and_false,Bool.false_eq_true,if_true,if_false]
def Bk (t:Term) (i:Nat):List ByteArray:=if t.kind=4 then [t.name] else if t.kind=7 then (if i=1 then [t.name] else []) else if t.kind=10 then t.names else []
def Id (l:List ByteArray) (s:ByteArray):Bool:=l.any fun k=>sameStr k s
def addV (t:Term) (b a:List ByteArray):List ByteArray:=if (decide (t.kind=1)&& !Id b t.name&& !Id a t.name)=true then a++[t.name] else a
mutual
def Term.fr:Term→List ByteArray→List ByteArray→List ByteArray
 |⟨k,num,nm,ty,nms,ks⟩,b,a=>Term.frs ⟨k,num,nm,ty,nms,[]⟩ 0 ks b (addV ⟨k,num,nm,ty,nms,[]⟩ b a)
def Term.frs:Term→Nat→List Term→List ByteArray→List ByteArray→List ByteArray
 |_,_,[],_,a=>a
 |t,i,x::l,b,a=>Term.frs t (i+1) l b (Term.fr x (b++Bk t i) a)
end
theorem Term.frs_same {t u:Term} (h:∀i,Bk t i=Bk u i):∀ (l:List Term) (i:Nat) (b a:List ByteArray),Term.frs t i l b a=Term.frs u i l b a
 | [],_,_,_=>by rw [Term.frs,Term.frs]
 |x::l,i,b,a=>by rw [Term.frs,Term.frs,h i,Term.frs_same h l]
theorem Term.fr_eq (t:Term) (b a:List ByteArray):t.fr b a=Term.frs t 0 t.kids b (addV t b a):=by
 obtain⟨k,num,nm,ty,nms,ks⟩:=t
 rw [Term.fr]
 exact Term.frs_same (t:=⟨k,num,nm,ty,nms,[]⟩) (u:=⟨k,num,nm,ty,nms,ks⟩) (fun i=>rfl) ks 0 b (addV ⟨k,num,nm,ty,nms,ks⟩ b a)
theorem Term.frs_app (t:Term) (x:Term) (b:List ByteArray):∀ (l:List Term) (i:Nat) (a:List ByteArray),Term.frs t i (l++[x]) b a=x.fr (b++Bk t (i+l.length)) (Term.frs t i l b a)
 | [],i,a=>by rfl
 |y::l,i,a=>by
  simp only [List.cons_append,Term.frs,List.length_cons]
  rw [Term.frs_app t x b l]
  congr 3; omega
theorem Wr (t:Term) (b a:List ByteArray):(addV t b a).length ≤a.length+1:=by
 unfold addV; split <;> simp
theorem Term.frs_len (t:Term) (b:List ByteArray):∀ (l:List Term) (i:Nat) (a:List ByteArray),(∀x ∈ l,∀b a,(x.fr b a).length ≤a.length+x.cnt)→(Term.frs t i l b a).length +1≤a.length+Term.cnts l
 | [],i,a,_=>by simp [Term.frs,Term.cnts]
 |x::l,i,a,h=>by
  have h1:=h x (by simp) (b++Bk t i) a
  have h2:=Term.frs_len t b l (i+1) (x.fr (b++Bk t i) a) fun y hy=>h y (by grind)
  grind [Term.frs,Term.cnts]
theorem Term.fr_len:∀t:Term,∀b a,(t.fr b a).length ≤a.length+t.cnt:=by
 refine Term.ind fun t ih b a=>?_
 rw [Term.fr_eq,Term.cnt_eq]
 have h1:=Term.frs_len t b t.kids 0 (addV t b a) ih
 grind [Wr]
theorem Ss {t x:Term} (hx:x ∈ t.kids) (i:Nat):(Bk t i).length +x.sz≤t.sz:=by
 have hsz:=t.sz_eq
 grind [Gv,Bk]
theorem Su (t:Term) (i:Nat):JY t (i:Int)=some (Bk t i):=by
 grind [JY,Fd,Bk]
theorem YM (t:Term) (i:Nat):HY t (i:Int)=some (Bk t i):=Su t i
theorem g7 (l:List ByteArray) (s:ByteArray) (hl:l.length≤Big):∃v,IG l s=some v∧decide (v<0)= !Id l s∧decide (0≤v)=Id l s:=by
 refine⟨_,Ra l s hl,?_,Jc _ l⟩
 have:=Jc (fun k=>sameStr k s) l
 rw [Id,← this,← decide_not]; grind
theorem g8 (l:List ByteArray) (s:ByteArray) (hl:l.length≤Big):Bh l s=some (Id l s):=by
 rw [Jg l s hl,Id]; grind [I3]
theorem aj:∀t:Term,t.sz≤Big→∀ (n:Nat) (b a:List ByteArray),b.length+t.sz≤Big→a.length+t.cnt≤Big→16*t.sz+16≤n→HE n t b a=some (t.fr b a):=by
 refine Term.ind fun t ih hz n b a hb ha hn=>?_
 obtain⟨n,rfl⟩:∃m,n=m+3:=⟨n - 3,by omega⟩
 have hsz:=t.sz_eq
 have hlen:=AZ Term.sz t.kids
 have hB:Big=4294967296:=rfl
 have hl:t.kids.length≤Big:=by omega
 have h1c:1≤t.cnt:=by rw [Term.cnt_eq]; simp [Term.one_le]
 obtain⟨v1,hv1,hv2,_⟩:=g7 b t.name (by omega)
 obtain⟨u1,hu1,hu2,_⟩:=g7 a t.name (by omega)
 have hloop:CT n t b (addV t b a) 0=some (t.fr b a):=by
  have hal:=Wr t b a
  have:=Dc (L:=fun n (s:List ByteArray) i=>CT n t b s i) t.kids 1 (16*szl Term.sz t.kids+8 - 6*t.kids.length) (fun pre=>Term.frs t 0 pre b (addV t b a)) (fun _ _=>true) none (some (Term.frs t 0 t.kids b (addV t b a))) (fun N R pre x post hh hp hN hR m hm=>by
    obtain⟨m,rfl⟩:∃k,m=k+1:=⟨m - 1,by omega⟩
    have hx:=BE hh
    have hm2:=Ac (s:=Term.sz) hx
    have hp1:1≤t.kids.length:=List.length_pos_of_mem hx
    have hbl:=Ss hx pre.length
    have hfl:=Term.frs_len t b pre 0 (addV t b a) fun y _=>y.fr_len
    have hcp:=Term.cnts_pre' post x pre
    rw [← hh,← Term.cnt_eq] at hcp
    show CT (m+1) t b _ _=_
    rw [CT,if_pos (Ah hh),AY hh,AA,Su,AA,NB,DC (by grind),AA,DC (by grind),AA,AA,List.nil_append,ih x hx (by omega) m _ _ (by grind) (by omega) (by omega),AA,AP hh hl,if_pos rfl]
    grind [Term.frs_app]) (fun _ m hm=>by
    obtain⟨m,rfl⟩:∃k,m=k+1:=⟨m - 1,by omega⟩
    show CT (m+1) t b _ _=_
    rw [CT,if_neg (by simp)]) n (by omega)
  have h0:CT n t b (addV t b a) 0=_:=this
  rw [h0,Hh (fun _=>true),if_pos (by simp),Term.fr_eq]
 rw [HE,hv1,AA,hu1,AA,hv2,hu2]
 grind [FG,GN,DC,addV]
theorem Ei {t x:Term} (h:t.okS=true) (hx:x ∈ t.kids):x.okS=true:=by
 rw [Term.okS_eq,Bool.and_eq_true] at h
 grind
theorem LV {t:Term} (h:t.okS=true):La t=true∧fldB t=true∧allp (GC t.kind) [] t.kids=true:=by
 rw [Term.okS_eq,dq,Bool.and_eq_true,Bool.and_eq_true,Bool.and_eq_true] at h
 grind
theorem Hf {t:Term} (h:t.okS=true):kLo t.kind≤(t.kids.length:Int)∧(t.kids.length:Int)≤kHi t.kind:=by
 have:=(LV h).1
 grind [La]
theorem Wn {t:Term} (h:t.okS=true):1≤t.kind∧t.kind≤11:=by
 have h1:=Hf h
 grind [kHi]
theorem Ws (b v:List ByteArray) (h:b.length+v.length≤Big):Et [b,v] =some (b++v):=by
 have hB:Big=4294967296:=rfl
 unfold Et
 obtain⟨m,hm⟩:∃m,fuel=m+3:=⟨fuel - 3,by rw [Bg]⟩
 have h3:BT fuel [b,v] [] 0=some (b++v):=by
  rw [hm,BT,if_pos (by simp),show at? [b,v] 0=some b from rfl,AA,DC (by grind),AA,List.nil_append,w64 (by decide) (by decide),BT,if_pos (by simp),show at? [b,v] (0+1)=some v from rfl,AA,DC (by omega),AA,w64 (by decide) (by decide),BT,if_neg (by simp)]
 rw [hm] at h3 ⊢
 rw [Bt,if_pos (by simp),show at? [b,v] 0=some b from rfl,AA,w64 (by omega) (by omega),if_neg (by grind),w64 (by decide) (by decide),Bt,if_pos (by simp),show at? [b,v] (0+1)=some v from rfl,AA,w64 (by omega) (by omega),if_neg (by grind),w64 (by decide) (by decide),Bt,if_neg (by simp)]
 have hg:Fr [] (0+(b.length:Int)+(v.length:Int))=some [] :=by
  unfold Fr; rw [if_pos ⟨rfl,by omega,by omega⟩]
 rw [hg,AA,hm,h3]
theorem ak:∀t:Term,t.sz≤Big→t.okS=true→∀ (n:Nat) (b a:List ByteArray),b.length+t.sz≤Big→a.length+t.cnt≤Big→16*t.sz+16≤n→HH n t b a=some (t.fr b a):=by
 refine Term.ind fun t ih hz ho n b a hb ha hn=>?_
 obtain⟨n,rfl⟩:∃m,n=m+2:=⟨n - 2,by omega⟩
 have hsz:=t.sz_eq
 have hlen:=AZ Term.sz t.kids
 have hB:Big=4294967296:=rfl
 have hl:t.kids.length≤Big:=by omega
 have h1c:1≤t.cnt:=by rw [Term.cnt_eq]; simp [Term.one_le]
 have hloop:addV t b a=a→CU n t b a 0=some (t.fr b a):=fun hadd=>by
  have:=Dc (L:=fun n (s:List ByteArray) i=>CU n t b s i) t.kids 1 (16*szl Term.sz t.kids+8 - 6*t.kids.length) (fun pre=>Term.frs t 0 pre b a) (fun _ _=>true) none (some (Term.frs t 0 t.kids b a)) (fun N R pre x post hh hp hN hR m hm=>by
    obtain⟨m,rfl⟩:∃k,m=k+1:=⟨m - 1,by omega⟩
    have hx:=BE hh
    have hm2:=Ac (s:=Term.sz) hx
    have hp1:1≤t.kids.length:=List.length_pos_of_mem hx
    have hbl:=Ss hx pre.length
    have hfl:=Term.frs_len t b pre 0 a fun y _=>y.fr_len
    have hcp:=Term.cnts_pre' post x pre
    rw [← hh,← Term.cnt_eq] at hcp
    show CU (m+1) t b _ _=_
    rw [CU,if_pos (Ah hh),AY hh,AA,YM,AA,Ws _ _ (by omega),AA,ih x hx (by omega) (Ei ho hx) m _ _ (by grind) (by omega) (by omega),AA,AP hh hl,if_pos rfl]
    grind [Term.frs_app]) (fun _ m hm=>by
    obtain⟨m,rfl⟩:∃k,m=k+1:=⟨m - 1,by omega⟩
    show CU (m+1) t b _ _=_
    rw [CU,if_neg (by simp)]) n (by omega)
  have h0:CU n t b a 0=_:=this
  rw [h0,Hh (fun _=>true),if_pos (by simp),Term.fr_eq,hadd]
 rw [HH,g8 b t.name (by omega),AA,g8 a t.name (by omega),AA]
 simp only [FH]
 rw [DC (by grind),AA]
 by_cases h1:t.kind=1
 ·have hk:t.kids=[] :=by
   have:=Hf ho
   rw [h1] at this
   exact List.eq_nil_of_length_eq_zero (by have h2:(t.kids.length:Int)≤0:=this.2; omega)
  have hfr:t.fr b a=addV t b a:=by rw [Term.fr_eq,hk,Term.frs]
  grind [addV]
 grind [addV]
def Hd (s:ByteArray):Nat→List Data→Option (Nat × Nat)
 |_,[] =>none
 |i,d::l=>if (d.cons.any fun c=>sameStr c.name s)=true then some (i,(idx (fun c=>sameStr c.name s) d.cons).toNat) else Hd s (i+1) l
def cRes (bad:Int × Int):Option (Nat × Nat)→Int × Int
 |some (i,j)=>((i:Int),(j:Int))
 |none=>bad
theorem Wt (l:List Data) (hl:szl Data.sz l≤Big) (s:ByteArray) (bad:Int × Int) (L3:Nat→Int→Option (Int × Int)) (L4:Nat→Int→Data→Int→Option (Int × Int))
  (h3:∀n pre d post,l=pre++d::post→L3 (n+1) (pre.length:Int)=L4 n (pre.length:Int) d 0) (h3e:∀n,L3 (n+1) (l.length:Int)=some bad)
  (h4:∀n pre d post pc c qc,l=pre++d::post→d.cons=pc++c::qc→L4 (n+1) (pre.length:Int) d (pc.length:Int)=if sameStr c.name s=true then some ((pre.length:Int),(pc.length:Int)) else L4 n (pre.length:Int) d ((List.length (pc++[c]):Nat):Int))
  (h4e:∀n pre d post,l=pre++d::post→L4 (n+1) (pre.length:Int) d (d.cons.length:Int)=L3 n ((List.length (pre++[d]):Nat):Int)):
  L3 fuel 0=some (cRes bad (Hd s 0 l)):=by
 have hB:Big=4294967296:=rfl
 have inner:∀ (pre:List Data) (d:Data) (post:List Data),l=pre++d::post→∀ (R:Option (Int × Int)) (N:Nat),(∀m,N≤m→L3 m ((List.length (pre++[d]):Nat):Int)=R)→
   ∀ (qc pc:List Constructor) (m:Nat),d.cons=pc++qc→N+qc.length+1≤m→L4 m (pre.length:Int) d (pc.length:Int)=if (qc.any fun c=>sameStr c.name s)=true then some ((pre.length:Int),(pc.length:Int)+idx (fun c=>sameStr c.name s) qc) else R:=by
  intro pre d post hh R N hR qc
  induction qc with
  |nil=>
   intro pc m h hm
   obtain⟨m,rfl⟩:∃k,m=k+1:=⟨m - 1,by omega⟩
   rw [List.append_nil] at h
   rw [← h,h4e m pre d post hh,hR m (by omega)]; simp
  | cons c qc ih=>
   intro pc m h hm
   obtain⟨m,rfl⟩:∃k,m=k+1:=⟨m - 1,by omega⟩
   rw [h4 m pre d post pc c qc hh h,List.any_cons,idx]
   by_cases hc:sameStr c.name s=true
   ·grind
   ·rw [if_neg hc,if_neg hc,ih (pc++[c]) m (by rw [h]; simp) (by grind)]
    simp only [Bool.not_eq_true] at hc
    rw [hc,Bool.false_or]
    by_cases ha:(qc.any fun c=>sameStr c.name s)=true
    ·have hg:=Mh (fun c:Constructor=>sameStr c.name s) qc
     grind
    grind
 have outer:∀ (post pre:List Data) (m:Nat),l=pre++post→3*szl Data.sz post+1≤m→L3 m (pre.length:Int)=some (cRes bad (Hd s pre.length post)):=by
  intro post
  induction post with
  |nil=>
   intro pre m h hm
   obtain⟨m,rfl⟩:∃k,m=k+1:=⟨m - 1,by omega⟩
   rw [List.append_nil] at h
   rw [← h,h3e]; rfl
  | cons d post ih=>
   intro pre m h hm
   obtain⟨m,rfl⟩:∃k,m=k+1:=⟨m - 1,by omega⟩
   have hd:d.cons.length≤d.sz:=by grind [AZ,Data.sz]
   simp only [szl] at hm
   rw [h3 m pre d post h]
   have:=inner pre d post h _ (3*szl Data.sz post+1) (fun m hm=>ih (pre++[d]) m (by rw [h]; simp) hm) d.cons [] m rfl (by omega)
   simp only [List.length_nil] at this
   refine Eq.trans this ?_
   rw [Hd]
   by_cases ha:(d.cons.any fun c=>sameStr c.name s)=true
   ·have hg:=Mh (fun c:Constructor=>sameStr c.name s) d.cons
    grind [cRes]
   grind
 exact outer l [] fuel rfl (A3 (by omega))
theorem Jd (l:List Data) (hl:szl Data.sz l≤Big) (s:ByteArray):Bn l s=some (cRes (-1,-1) (Hd s 0 l)):=by
 unfold Bn
 have hlen:=AZ Data.sz l
 have hB:Big=4294967296:=rfl
 refine Wt l hl s (-1,-1) (fun n i=>BA n l s i) (fun n i _ j=>BH n l s i j) (fun n pre d post hh=>?_) (fun n=>?_) (fun n pre d post pc c qc hh hc=>?_) (fun n pre d post hh=>?_)
 ·show BA (n+1) l s _=_
  rw [BA,if_pos (Ah hh)]
 ·show BA (n+1) l s _=_
  rw [BA,if_neg (by simp)]
 ·have hds:=Ac (s:=Data.sz) (BE hh)
  have hd:d.cons.length≤d.sz:=by grind [AZ,Data.sz]
  show BH (n+1) l s _ _=_
  rw [BH,AY hh,AA,if_pos (Ah hc),AA,AY hc,AA,AP hc (by omega)]
 ·show BH (n+1) l s _ _=_
  rw [BH,AY hh,AA,if_neg (by simp),AP hh (by omega)]
theorem K1 (l:List Data) (hl:szl Data.sz l≤Big) (s:ByteArray):BZ l s=some (cRes (-1,0) (Hd s 0 l)):=by
 unfold BZ
 have hlen:=AZ Data.sz l
 have hB:Big=4294967296:=rfl
 refine Wt l hl s (-1,0) (fun n i=>Aw n l s i) (fun n i d j=>BO n l s i d j) (fun n pre d post hh=>?_) (fun n=>?_) (fun n pre d post pc c qc hh hc=>?_) (fun n pre d post hh=>?_)
 ·show Aw (n+1) l s _=_
  rw [Aw,if_pos (Ah hh),AY hh,AA]
 ·show Aw (n+1) l s _=_
  rw [Aw,if_neg (by simp)]
 ·have hds:=Ac (s:=Data.sz) (BE hh)
  have hd:d.cons.length≤d.sz:=by grind [AZ,Data.sz]
  show BO (n+1) l s _ _ _=_
  rw [BO,if_pos (Ah hc),AY hc,AA,AP hc (by omega)]
 grind [BO,AP]
def cHas (l:List Data) (s:ByteArray):Bool:=(Hd s 0 l).isSome
theorem Ua (s:ByteArray):∀ (l:List Data) (i0 i j:Nat),Hd s i0 l=some (i,j)→∃k d c,i=i0+k∧l[k]? =some d∧d.cons[j]? =some c∧sameStr c.name s=true
 | [],_,_,_,h=>by grind [Hd]
 | d::l,i0,i,j,h=>by
  rw [Hd] at h
  split at h
  ·rename_i ha
   simp only [Option.some.injEq,Prod.mk.injEq] at h
   obtain⟨rfl,rfl⟩:=h
   grind [ZM,at?]
  ·obtain⟨k,d',c,h1,h2,h3,h4⟩:=Ua s l (i0+1) i j h
   exact⟨k+1,d',c,by omega,by grind,h3,h4⟩
theorem dX {l:List Data} {s:ByteArray} (h:cHas l s=true):∃ (i j:Nat) (d:Data) (c:Constructor),Hd s 0 l=some (i,j)∧at? l (i:Int)=some d∧at? d.cons (j:Int)=some c∧d ∈ l∧c ∈ d.cons∧sameStr c.name s=true:=by
 unfold cHas at h
 cases hf:Hd s 0 l with
 |none=>rw [hf] at h; cases h
 |some ij=>
  obtain⟨i,j⟩:=ij
  obtain⟨k,d,c,h1,h2,h3,h4⟩:=Ua s l 0 i j hf
  rw [Nat.zero_add] at h1
  subst h1
  exact⟨i,j,d,c,rfl,by simp [at?,h2],by simp [at?,h3],List.mem_of_getElem? h2,List.mem_of_getElem? h3,h4⟩
theorem Wu (l:List Data) (s:ByteArray) (b:Int):decide ((cRes (-1,b) (Hd s 0 l)).1 <0)= !cHas l s:=by
 unfold cHas
 cases hf:Hd s 0 l with
 |none=>rfl
 |some ij=>
  rfl
mutual
def Term.allT (f:Term→Bool):Term→Bool
 |⟨k,num,nm,ty,nms,ks⟩=>f ⟨k,num,nm,ty,nms,ks⟩&&Term.allTs f ks
def Term.allTs (f:Term→Bool):List Term→Bool
 | [] =>true
 |x::l=>Term.allT f x&&Term.allTs f l
end
theorem Term.allTs_eq (f:Term→Bool):∀l:List Term,Term.allTs f l=l.all (Term.allT f)
 | [] =>by rw [Term.allTs]; rfl
 |x::l=>by rw [Term.allTs,List.all_cons,Term.allTs_eq f l]
theorem Term.allT_eq (f:Term→Bool) (t:Term):t.allT f=(f t&&t.kids.all (Term.allT f)):=by cases t; rw [Term.allT,Term.allTs_eq]
theorem BR {f:Term→Bool} {t x:Term} (h:t.allT f=true) (hx:x ∈ t.kids):x.allT f=true:=by
 rw [Term.allT_eq,Bool.and_eq_true] at h
 grind
theorem I2 {f:Term→Bool} {t:Term} (h:t.allT f=true):f t=true:=by
 rw [Term.allT_eq,Bool.and_eq_true] at h; grind
def nfL (l:List Data) (t:Term):Bool:= !(decide (t.kind=4)&& !t.typ.knB (dHas l))&& !((decide (t.kind=8)||decide (t.kind=10))&& !cHas l t.name)
theorem U8 {t:Term} (h:t.okS=true) (h4:t.kind=4):vtB t.typ=true:=by
 have:=(LV h).2.1
 grind [fldB]
theorem TX (l:List Data) (hl:szl Data.sz l≤Big):∀t:Term,t.sz≤Big→∀n,16*t.sz+16≤n→Dp n l t=some (t.allT (nfL l)):=by
 refine Term.ind fun t ih hz n hn=>?_
 obtain⟨n,rfl⟩:∃m,n=m+4:=⟨n - 4,by omega⟩
 have hsz:=t.sz_eq
 have hlen:=AZ Term.sz t.kids
 have hdl:=AZ Data.sz l
 have hB:Big=4294967296:=rfl
 have hl':t.kids.length≤Big:=by omega
 have hloop:Bo n l t 0=some (t.kids.all (Term.allT (nfL l))):=by
  refine If (L:=fun n i=>Bo n l t i) t.kids 1 (16*szl Term.sz t.kids+8 - 6*t.kids.length) _ n (fun m pre x post hh hm=>?_) (fun m hm=>?_) (by omega)
  ·have hx:=BE hh
   have hm2:=Ac (s:=Term.sz) hx
   have hp1:1≤t.kids.length:=List.length_pos_of_mem hx
   show Bo (m+1) l t _=_
   rw [Bo,if_pos (Ah hh),AY hh,AA,ih x hx (by omega) m (by omega),AA,AP hh hl']
   rcases Bool.eq_false_or_eq_true (x.allT (nfL l)) with h|h <;> simp [h]
  grind [Bo]
 rw [Dp,OO l (by omega) t.typ (by omega) fuel (EC (by omega)),AA]
 simp only [Dw,Dx,Dy]
 rw [Jd l hl,AA,Wu,hloop,Term.allT_eq,nfL]
 rcases Bool.eq_false_or_eq_true (t.typ.knB (dHas l)) with e1|e1 <;> rcases Bool.eq_false_or_eq_true (cHas l t.name) with e2|e2 <;> rcases (by omega:t.kind=4∨t.kind=8∨t.kind=10∨(t.kind≠4∧t.kind≠8∧t.kind≠10)) with h|h|h|⟨h1,h2,h3⟩ <;> simp [*]
theorem Wv (f:Term→Option Bool) (p:Term→Bool) (Q:Term→Prop) (hQ:∀t,Q t→∀x ∈ t.kids,Q x) (hf:∀t,Q t→t.sz≤Big→f t=some (p t)):
  ∀t:Term,t.sz≤Big→Q t→∀n,16*t.sz+16≤n→GP n t f=some (!t.allT fun x=> !p x):=by
 refine Term.ind fun t ih hz hq n hn=>?_
 obtain⟨n,rfl⟩:∃m,n=m+2:=⟨n - 2,by omega⟩
 have hsz:=t.sz_eq
 have hlen:=AZ Term.sz t.kids
 have hB:Big=4294967296:=rfl
 rw [GP,hf t hq hz,AA,am t.kids _ (fun x=> !x.allT fun x=> !p x) (by omega) (fun x hx=>by
  have hm2:=Ac (s:=Term.sz) hx
  have hp1:1≤t.kids.length:=List.length_pos_of_mem hx
  rw [IX,ih x hx (by omega) (hQ t hq x hx) n (by omega),AA]),AA,Term.allT_eq,List.all_eq_not_any_not]
 rcases Bool.eq_false_or_eq_true (p t) with e1|e1 <;> simp [e1]
def fHas (l:List Def) (s:ByteArray):Bool:=l.any fun d=>sameStr d.name s
def unkB (p:TProgram) (d:Def):Bool:= !(d.typ.knB (dHas p.datas))||((d.body.fr [] []).any fun s=> !fHas p.defs s)|| !d.body.allT (nfL p.datas)
theorem VE (p:TProgram) (hz:p.sz≤Big) (d:Def) (hd:d ∈ p.defs) (ht:vtB d.typ=true) (ho:d.body.okS=true) (hc:d.body.cnt≤160):C6 p d=some (unkB p d):=by
 unfold TProgram.sz at hz
 have hB:Big=4294967296:=rfl
 have hdl:=AZ Data.sz p.datas
 have hfl:=AZ Def.sz p.defs
 have hds:=Ac (s:=Def.sz) hd
 have hdz:d.sz=d.name.size+(d.typ.sz+(d.body.sz+0)):=rfl
 unfold C6 CN J3 unkB
 rw [KN p.datas (by omega) d.typ (by omega) (Mf ht) fuel (EC (by omega)),AA,ak d.body (by omega) ho fuel [] [] (by grind) (by grind) (J8 (by omega)),AA,AA]
 have hfr:=d.body.fr_len [] []
 rw [dr (d.body.fr [] []) _ (fun s=> !fHas p.defs s) (by grind) (fun s _=>by
  unfold DZ
  rw [LW p s (by omega),AA]
  congr 1
  exact VF _ _),AA,Wv _ (fun x=> !nfL p.datas x) (fun x=>x.okS=true) (fun t h x hx=>Ei h hx) (fun t hq htz=>by
   have htsz:=t.sz_eq
   unfold Da B4 nfL
   rw [K1 p.datas (by omega),AA,Wu]
   by_cases h4:t.kind=4
   ·rw [if_pos (by grind),KN p.datas (by omega) t.typ (by omega) (Mf (U8 hq h4)) fuel (EC (by omega)),AA]
    simp [h4]
   grind [cHas]) d.body (by omega) ho fuel (J8 (by omega)),AA]
 simp only [Bool.not_not]
 rcases Bool.eq_false_or_eq_true (d.typ.knB (dHas p.datas)) with e1|e1 <;> rcases Bool.eq_false_or_eq_true ((d.body.fr [] []).any fun s=> !fHas p.defs s) with e2|e2 <;> simp [e1,e2]
def cDat (l:List Data) (s:ByteArray):Data:=match Hd s 0 l with|some (i,_)=>(l[i]?).getD ⟨ByteArray.empty,[]⟩|none=>⟨ByteArray.empty,[]⟩
def cCon (l:List Data) (s:ByteArray):Constructor:=match Hd s 0 l with|some (_,j)=>((cDat l s).cons[j]?).getD ⟨ByteArray.empty,[]⟩|none=>⟨ByteArray.empty,[]⟩
theorem KL {l:List Data} {s:ByteArray} (h:cHas l s=true):∃i j:Nat,Hd s 0 l=some (i,j)∧at? l (i:Int)=some (cDat l s)∧at? (cDat l s).cons (j:Int)=some (cCon l s)∧cDat l s ∈ l∧cCon l s ∈ (cDat l s).cons :=by
 grind [dX,cDat,at?,Int.toNat_natCast,cCon]
def FY (q:Term × Constructor):Bool:=sameStr q.1.name q.2.name &&decide (q.1.names.length =q.2.fields.length)
def Mg (l:List Data):List Term→Bool
 |_::k1::rest=>decide ((k1::rest).length =(cDat l k1.name).cons.length)&&((k1::rest).zip (cDat l k1.name).cons).all FY
 |_=>true
def ccL (l:List Data) (t:Term):Bool:=
 if t.kind=8 then decide ((cCon l t.name).fields.length =t.kids.length) else if t.kind=9 then Mg l t.kids else true
theorem Ww {α β:Type} {L:Nat→Int→Option Bool} (l:List α) (m:List β) (h:l.length=m.length) (c K:Nat) (p:α × β→Bool) (n:Nat)
  (hs:∀n pre x post pre' y post',l=pre++x::post→m=pre'++y::post'→pre.length=pre'.length→K≤n→L (n+c) (pre.length:Int)=if p (x,y)=true then L n ((List.length (pre++[x]):Nat):Int) else some false)
  (he:∀n,K≤n→L (n+1) (l.length:Int)=some true) (hn:K+c*l.length+1≤n):L n 0=some ((l.zip m).all p):=by
 have key:∀ (post pre:List α) (post' pre':List β) (n:Nat),l=pre++post→m=pre'++post'→pre.length=pre'.length→K+c*post.length+1≤n→L n (pre.length:Int)=some ((post.zip post').all p):=by
  intro post
  induction post with
  |nil=>
   intro pre post' pre' n h1 h2 h3 hn
   obtain⟨n,rfl⟩:∃m,n=m+1:=⟨n - 1,by omega⟩
   rw [List.append_nil] at h1
   rw [← h1,he n (by omega)]; simp
  | cons x post ih=>
   intro pre post' pre' n h1 h2 h3 hn
   rw [List.length_cons,Nat.mul_add,Nat.mul_one] at hn
   obtain⟨n,rfl⟩:∃m,n=m+c:=⟨n - c,by omega⟩
   cases post' with
   |nil=>rw [h1,h2] at h; grind
   | cons y post'=>
    rw [hs n pre x post pre' y post' h1 h2 h3 (by omega),List.zip_cons_cons,List.all_cons]
    by_cases hp:p (x,y)=true
    ·rw [if_pos hp,hp,Bool.true_and]
     exact ih (pre++[x]) post' (pre'++[y]) n (by rw [h1]; simp) (by rw [h2]; simp) (by grind) (by omega)
    grind
 exact key l [] m [] n rfl rfl rfl hn
theorem PE {t:Term} (h:t.okS=true) (h9:t.kind=9):∃k0 k1 rest,t.kids=k0::k1::rest∧k1.kind=10∧(∀x ∈ k1::rest,x.kind=10)∧rest.length≤3:=by
 have hl:=Hf h
 have hc:=(LV h).2.2
 rw [h9] at hl hc
 have h1:(2:Int)≤(t.kids.length:Int):=hl.1
 have h2:(t.kids.length:Int)≤5:=hl.2
 cases hk:t.kids with
 |nil=>rw [hk] at h1; grind
 | cons k0 l=>
  cases l with
  |nil=>rw [hk] at h1; grind
  | cons k1 rest=>
   rw [hk] at hc h2
   have hall:∀ (l pre:List Term),0<pre.length→allp (GC 9) pre l=true→∀x ∈ l,x.kind=10:=by
    intro l
    induction l with
    |nil=>grind
    |cons y l ih=>
     grind [allp,GC]
   rw [allp,Bool.and_eq_true] at hc
   have:=hall (k1::rest) ([] ++[k0]) (by simp) hc.2
   grind
theorem OM {l:List Data} {t:Term} (h:nfL l t=true) (hk:t.kind=8∨t.kind=10):cHas l t.name=true:=by
 unfold nfL at h
 rw [Bool.and_eq_true] at h
 have:=h.2
 rcases hk with hk|hk <;> simp [hk] at this <;> exact this
theorem YN (l:List Data) (hl:szl Data.sz l≤Big) (t:Term) (hz:t.sz≤Big) (ho:t.okS=true) (h9:t.kind=9) (hn:t.allT (nfL l)=true):Gc l t=some (Mg l t.kids):=by
 obtain⟨k0,k1,rest,hk,hk1,hk2,hk3⟩:=PE ho h9
 have hB:Big=4294967296:=rfl
 have hc:=OM (I2 (BR hn (by rw [hk]; simp:k1 ∈ t.kids))) (Or.inr hk1)
 obtain⟨i,j,e1,e2,e3,e4,e5⟩:=KL hc
 have hds:=Ac (s:=Data.sz) e4
 have hdc:(cDat l k1.name).cons.length ≤(cDat l k1.name).sz :=by grind [AZ,Data.sz]
 unfold Gc
 rw [hk,show at? (k0::k1::rest) 1=some k1 from rfl,AA,Jd l hl,AA,e1]
 simp only [cRes]
 rw [e2,AA,w64 (by omega) (by omega),Mg]
 by_cases hlen:(k1::rest).length =(cDat l k1.name).cons.length
 ·rw [if_neg (by grind),show decide ((k1::rest).length =(cDat l k1.name).cons.length)=true from by grind,Bool.true_and]
  refine Ww (L:=fun n i=>Bp n t (cDat l k1.name) i) (k1::rest) (cDat l k1.name).cons hlen 2 0 FY fuel (fun m pre x post pre' y post' h1 h2 h3 hm=>?_) (fun m hm=>?_) (A3 (by omega))
  ·show Bp (m+2) t (cDat l k1.name) _=_
   have hkk:t.kids=(k0::pre)++x::post:=by rw [hk,h1]; rfl
   have hpl0:(k1::rest).length =(pre++x::post).length :=by rw [h1]
   have hpl:pre.length<4:=by grind
   have hw:IntKind.i64.wrap ((pre.length:Int)+1)=((List.length (k0::pre):Nat):Int):=by rw [w64 (by omega) (by omega)]; simp
   have hw2:((List.length (k0::pre):Nat):Int)=((List.length (pre++[x]):Nat):Int):=by simp
   rw [Bp,h3,if_pos (Ah h2),← h3,hw,AY hkk,AA,h3,AY h2,AA,← h3,AA,AA]
   simp only [Dz]
   rw [hw,hw2,FY]
   have hfl:decide ((x.names.length:Int)=(y.fields.length:Int))=decide (x.names.length=y.fields.length):=decide_eq_decide.2 ⟨fun h=>by omega,fun h=>by omega⟩
   simp only [hfl]
   rcases Bool.eq_false_or_eq_true (sameStr x.name y.name) with a1|a1 <;> rcases Bool.eq_false_or_eq_true (decide (x.names.length=y.fields.length)) with a2|a2 <;> simp only [a1,a2,Bool.not_true,Bool.not_false,Bool.true_and,Bool.and_true,Bool.false_and,Bool.and_false,Bool.false_eq_true,if_true,if_false]
  grind [Bp]
 grind
theorem Wx (l:List Data) (hl:szl Data.sz l≤Big):∀t:Term,t.sz≤Big→t.okS=true→t.allT (nfL l)=true→∀n,16*t.sz+16≤n→DM n l t=some (t.allT (ccL l)):=by
 refine Term.ind fun t ih hz ho hn n hf=>?_
 obtain⟨n,rfl⟩:∃m,n=m+2:=⟨n - 2,by omega⟩
 have hsz:=t.sz_eq
 have hlen:=AZ Term.sz t.kids
 have hB:Big=4294967296:=rfl
 have hl':t.kids.length≤Big:=by omega
 have hloop:BY n l t 0=some (t.kids.all (Term.allT (ccL l))):=by
  refine If (L:=fun n i=>BY n l t i) t.kids 1 (16*szl Term.sz t.kids+8 - 6*t.kids.length) _ n (fun m pre x post hh hm=>?_) (fun m hm=>?_) (by omega)
  ·have hx:=BE hh
   have hm2:=Ac (s:=Term.sz) hx
   have hp1:1≤t.kids.length:=List.length_pos_of_mem hx
   show BY (m+1) l t _=_
   rw [BY,if_pos (Ah hh),AY hh,AA,ih x hx (by omega) (Ei ho hx) (BR hn hx) m (by omega),AA,AP hh hl']
   rcases Bool.eq_false_or_eq_true (x.allT (ccL l)) with h|h <;> simp [h]
  grind [BY]
 rw [DM,Cn,Term.allT_eq,ccL,hloop]
 by_cases h8:t.kind=8
 ·have hc:=OM (I2 hn) (Or.inl h8)
  obtain⟨i,j,e1,e2,e3,e4,e5⟩:=KL hc
  rw [if_pos (by grind),if_pos h8,Jd l hl,AA,e1]
  simp only [cRes]
  rw [e2,AA,e3,AA]
  have hfl:decide (((List.length (cCon l t.name).fields :Nat):Int)=(t.kids.length:Int))=decide ((cCon l t.name).fields.length =t.kids.length):=decide_eq_decide.2 ⟨fun h=>by omega,fun h=>by omega⟩
  rw [hfl]
  rcases Bool.eq_false_or_eq_true (decide ((cCon l t.name).fields.length =t.kids.length)) with a1|a1 <;> simp only [a1,Bool.not_true,Bool.not_false,Bool.true_and,Bool.false_and,Bool.false_eq_true,if_true,if_false]
 grind [YN]
theorem YO (p:TProgram) (hl:szl Data.sz p.datas≤Big) (t:Term) (hz:t.sz≤Big) (ho:t.okS=true) (hn:t.allT (nfL p.datas)=true):DO p t=some (!ccL p.datas t):=by
 have hB:Big=4294967296:=rfl
 unfold DO ccL
 by_cases h8:t.kind=8
 ·have hc:=OM (I2 hn) (Or.inl h8)
  obtain⟨i,j,e1,e2,e3,e4,e5⟩:=KL hc
  rw [if_pos (by grind),if_pos h8,K1 p.datas hl,AA,e1]
  simp only [cRes]
  rw [e2,AA,e3,AA]
  congr 2
  grind
 ·rw [if_neg (by grind),if_neg h8]
  by_cases h9:t.kind=9
  ·obtain⟨k0,k1,rest,hk,hk1,hk2,hk3⟩:=PE ho h9
   have hc:=OM (I2 (BR hn (by rw [hk]; simp:k1 ∈ t.kids))) (Or.inr hk1)
   obtain⟨i,j,e1,e2,e3,e4,e5⟩:=KL hc
   have hcut:cutL (k0::k1::rest) 1 ((List.length (k0::k1::rest):Nat):Int)=some (k1::rest):=by
    rw [cutL,if_pos ⟨by decide,by grind,by simp⟩]; simp
   rw [if_pos (by grind),if_pos h9,hk,hcut,AA,ER,show at? (k1::rest) 0=some k1 from rfl,AA,K1 p.datas hl,AA,e1]
   simp only [cRes]
   rw [e2,AA,Mg]
   unfold Dj
   by_cases hlen:(k1::rest).length =(cDat p.datas k1.name).cons.length
   ·rw [if_neg (by grind),show decide ((k1::rest).length =(cDat p.datas k1.name).cons.length)=true from by grind,Bool.true_and]
    have:=Ww (L:=fun n i=>Ag n (k1::rest) (cDat p.datas k1.name).cons i (fun y0 y1=>CB y0 y1)) (k1::rest) (cDat p.datas k1.name).cons hlen 1 0 FY fuel (fun m pre x post pre' y post' h1 h2 h3 hm=>by
      show Ag (m+1) _ _ _ _=_
      rw [Ag,if_pos (Ah h1),AY h1,AA,h3,AY h2,AA,← h3,AP h1 (by grind),CB,FY]
      have hfl:decide ((x.names.length:Int)=(y.fields.length:Int))=decide (x.names.length=y.fields.length):=decide_eq_decide.2 ⟨fun h=>by omega,fun h=>by omega⟩
      rw [hfl]
      rcases Bool.eq_false_or_eq_true (sameStr x.name y.name) with a1|a1 <;> rcases Bool.eq_false_or_eq_true (decide (x.names.length=y.fields.length)) with a2|a2 <;> simp only [a1,a2,Bool.not_true,Bool.not_false,Bool.true_and,Bool.and_true,Bool.false_and,Bool.and_false,Bool.false_eq_true,if_true,if_false,AA])
     (fun m hm=>by
      show Ag (m+1) _ _ _ _=_
      rw [Ag,if_neg (by simp)]) (A3 (by grind))
    have h0:Ag fuel (k1::rest) (cDat p.datas k1.name).cons 0 (fun y0 y1=>CB y0 y1)=_:=this
    rw [h0,AA,AA]
   grind
  grind
noncomputable def H9 (p:TProgram):Int:=if K2 p=true then if (p.defs.any fun d=>unkB p d)=true then 7 else if (p.defs.any fun d=> !d.body.allT (ccL p.datas))=true then 2 else 0 else 1
theorem Gl {p:TProgram} (h:K2 p=true) {d:Def} (hd:d ∈ p.defs):vtB d.typ=true∧d.body.okS=true∧d.body.cnt≤160∧d.body.kind≠10:=by
 unfold K2 at h
 rw [Bool.and_eq_true] at h
 obtain⟨pre,hp⟩:=Ky h.2 hd
 grind [Qt,tmB]
theorem VA {p:TProgram} {d:Def} (h:unkB p d=false):d.body.allT (nfL p.datas)=true∧d.typ.knB (dHas p.datas)=true∧(∀s ∈ d.body.fr [] [],fHas p.defs s=true):=by
 grind [unkB]
theorem Sp (p:TProgram) (hz:p.sz≤Big):H2 p=some (H9 p):=by
 have hz':=hz
 unfold TProgram.sz at hz'
 have hB:Big=4294967296:=rfl
 have hdl:=AZ Data.sz p.datas
 have hfl:=AZ Def.sz p.defs
 unfold H2 H9
 rw [VC p hz,AA]
 rcases Bool.eq_false_or_eq_true (K2 p) with hp|hp
 rotate_left
 ·rw [hp]; simp
 rw [hp,if_neg (by simp),if_pos rfl]
 have hsizes:∀d ∈ p.defs,d.typ.sz≤Big∧d.body.sz≤Big:=fun d hd=>by
  grind [Ac,Def.sz]
 have h21:(p.defs.all fun d=> !unkB p d)=true→By fuel p 0=if (p.defs.all fun d=>d.body.allT (ccL p.datas))=true then some 0 else some 2:=fun hu=>by
  refine K3 (L:=fun n (_:Unit) i=>By n p i) p.defs 1 0 (fun _=>()) (fun d=>d.body.allT (ccL p.datas)) (some 2) (some 0) fuel (fun m pre d post hh hq hm=>?_) (fun m hq hm=>?_) (A3 (by omega))
  ·have hd:=BE hh
   have hs:=hsizes d hd
   have hun:=List.all_eq_true.1 hu d hd
   rw [Bool.not_eq_true'] at hun
   show By (m+1) p _=_
   rw [By,if_pos (Ah hh),AY hh,AA,Wx p.datas (by omega) d.body hs.2 (Gl hp hd).2.1 (VA hun).1 fuel (J8 hs.2),AA,AP hh (by omega)]
   rcases Bool.eq_false_or_eq_true (d.body.allT (ccL p.datas)) with a1|a1 <;> simp [a1]
  grind [By]
 have main:=Dc (L:=fun n (_:Unit) i=>Bz n p i) p.defs 200 1 (fun _=>()) (fun _ d=> !unkB p d) (some 7) (By fuel p 0) (fun N R pre d post hh hq hN hR m hm=>by
   obtain⟨m,rfl⟩:∃k,m=k+1:=⟨m - 1,by omega⟩
   have hd:=BE hh
   have hs:=hsizes d hd
   have hpd:=Gl hp hd
   have hfr:=d.body.fr_len [] []
   have hlen:(d.body.fr [] []).length ≤160:=by grind
   show Bz (m+1) p _=_
   rw [Bz,if_pos (Ah hh),AY hh,AA,aj d.body hs.2 fuel [] [] (by grind) (by grind) (J8 hs.2),AA]
   have:=Dc (L:=fun n (_:Unit) k=>B0 n p (pre.length:Int) d (d.body.fr [] []) k) (d.body.fr [] []) 1 (N+2) (fun _=>()) (fun _ s=>fHas p.defs s) (some 7) (if (!unkB p d)=true then R else some 7) (fun N' R' pre' s post' hh' hq' hN' hR' m hm=>by
     obtain⟨m,rfl⟩:∃k,m=k+1:=⟨m - 1,by omega⟩
     show B0 (m+1) p _ d _ _=_
     have hneg:decide (fIdx p.defs s<0)= !fHas p.defs s:=VF _ _
     rw [B0,if_pos (Ah hh'),AY hh',AA,KM p.defs s (by omega),AA,hneg,AP hh' (by omega)]
     grind) (fun hall m hm=>by
     obtain⟨m,rfl⟩:∃k,m=k+2:=⟨m - 2,by omega⟩
     show B0 (m+2) p _ d _ _=_
     rw [Hh (fun s=>fHas p.defs s)] at hall
     have hany:((d.body.fr [] []).any fun s=> !fHas p.defs s)=false:=by
      rw [List.any_eq_false]; grind
     rw [B0,if_neg (by simp),OO p.datas (by omega) d.typ hs.1 fuel (EC hs.1),AA,TX p.datas (by omega) d.body hs.2 fuel (J8 hs.2),AA]
     grind [Er,AP,unkB]) m (by omega)
   have h0:B0 m p (pre.length:Int) d (d.body.fr [] []) 0=_:=this
   rw [h0,Hh (fun s=>fHas p.defs s)]
   grind [unkB]) (fun hq m hm=>by
   obtain⟨m,rfl⟩:∃k,m=k+1:=⟨m - 1,by omega⟩
   show Bz (m+1) p _=_
   rw [Bz,if_neg (by simp)]) fuel (A3 (by omega))
 grind [Hh]
theorem Sq (p:TProgram) (hz:p.sz≤Big):GQ p=some (H9 p):=by
 have hz':=hz
 unfold TProgram.sz at hz'
 have hB:Big=4294967296:=rfl
 have hdl:=AZ Data.sz p.datas
 have hfl:=AZ Def.sz p.defs
 unfold GQ H9
 rw [VD p hz,AA]
 rcases Bool.eq_false_or_eq_true (K2 p) with hp|hp
 rotate_left
 ·rw [hp]; simp
 have hsizes:∀d ∈ p.defs,d.typ.sz≤Big∧d.body.sz≤Big:=fun d hd=>by
  grind [Ac,Def.sz]
 rw [hp,if_neg (by simp),if_pos rfl,Wy p.defs _ (fun d=>unkB p d) (by omega) (fun d hd=>VE p hz d hd (Gl hp hd).1 (Gl hp hd).2.1 (Gl hp hd).2.2.1),AA]
 rcases Bool.eq_false_or_eq_true (p.defs.any fun d=>unkB p d) with a1|a1
 ·rw [a1]; simp
 ·rw [a1,if_neg (by simp),if_neg (by simp),Wy p.defs _ (fun d=> !d.body.allT (ccL p.datas)) (by omega) (fun d hd=>by
   have hun:unkB p d=false:=by
    grind
   unfold HZ
   rw [Wv _ (fun x=> !ccL p.datas x) (fun x=>x.okS=true∧x.allT (nfL p.datas)=true) (fun t h x hx=>⟨Ei h.1 hx,BR h.2 hx⟩) (fun t hq htz=>YO p (by omega) t htz hq.1 hq.2) d.body (hsizes d hd).2 ⟨(Gl hp hd).2.1,(VA hun).1⟩ fuel (J8 (hsizes d hd).2),AA]
   grind),AA]
  rcases Bool.eq_false_or_eq_true (p.defs.any fun d=> !d.body.allT (ccL p.datas)) with a2|a2 <;> simp [a2]
end Go.Proofs.YtnfgeocnolheoaaGreat.Ab
