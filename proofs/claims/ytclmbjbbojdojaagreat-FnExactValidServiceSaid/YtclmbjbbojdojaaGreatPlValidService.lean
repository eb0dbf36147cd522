/-
  Services: markers, and what both sides ask of a cluster without markers. No program is in sight.
-/
import Derived.Test.YtclmbjbbojdojaaGreatPlVo
import Derived.Test.YtclmbjbbojdojaaGreatModV
import Derived.Test.YtclmbjbbojdojaaGreatPlTV
namespace Go.Proofs.YtclmbjbbojdojaaGreat.Ab
set_option linter.unusedVariables false
set_option maxHeartbeats 1000000
set_option linter.unusedSimpArgs false
open Go.RowKit
def mkN:List Parcel→Nat
 | [] =>0
 |p::l=>(if p.kind=4 then 1 else 0)+mkN l
theorem X8:∀l:List Parcel,mkN l≤l.length
 | [] =>Nat.le_refl _
 |p::l=>by have:=X8 l; rw [mkN,List.length_cons]; split <;> omega
theorem gJ (l:List Parcel) (hl:l.length≤4194304):∀ (post pre:List Parcel) (n acc:Nat),l=pre++post→acc≤pre.length→post.length<n→Cf n l (acc:Int) (pre.length:Int)=some ((acc+mkN post:Nat):Int)
 | [],pre,n,acc,h,ha,hn=>by
  obtain⟨n,rfl⟩:∃k,n=k+1:=⟨n - 1,by omega⟩
  have hl':l.length=pre.length:=by rw [h,List.append_nil]
  rw [Cf,decide_eq_false (by omega),if_neg Bool.false_ne_true]; rfl
 | p::post,pre,n,acc,h,ha,hn=>by
  rw [List.length_cons] at hn
  have hlt:pre.length<l.length:=by rw [h]; simp
  obtain⟨n,rfl⟩:∃k,n=k+1:=⟨n - 1,by omega⟩
  have e:EC (decide (p.kind=4))=some (((if p.kind=4 then 1 else 0:Nat):Nat):Int):=by
   grind [EC]
  have hw:IntKind.i64.wrap ((acc:Int)+(((if p.kind=4 then 1 else 0:Nat):Nat):Int))=((acc+(if p.kind=4 then 1 else 0):Nat):Int):=by
   split <;> rw [w64 (by omega) (by omega)] <;> omega
  rw [Cf,decide_eq_true (by omega),if_pos rfl,A1 h,AA,e,AA,hw,AX h (by grind),gJ l hl post (pre++[p]) n _ (DA h) (by rw [List.length_append,List.length_singleton]; split <;> omega) (by omega),mkN,Nat.add_assoc]
theorem sMk (l:List Parcel) (hl:l.length≤4194304):E8 l=some ((mkN l:Nat):Int):=by
 have:=gJ l hl l [] fuel 0 rfl (by omega) (by rw [Ar]; omega)
 rw [Nat.zero_add] at this
 exact this
theorem gK (l:List Parcel) (hl:l.length≤4194304):∀ (post pre:List Parcel) (n acc:Nat),l=pre++post→acc≤pre.length→post.length<n→EL n l (acc:Int) (pre.length:Int)=some ((acc+mkN post:Nat):Int)
 | [],pre,n,acc,h,ha,hn=>by
  obtain⟨n,rfl⟩:∃k,n=k+1:=⟨n - 1,by omega⟩
  have hl':l.length=pre.length:=by rw [h,List.append_nil]
  rw [EL,decide_eq_false (by omega),if_neg Bool.false_ne_true]; rfl
 | p::post,pre,n,acc,h,ha,hn=>by
  rw [List.length_cons] at hn
  have hlt:pre.length<l.length:=by rw [h]; simp
  obtain⟨n,rfl⟩:∃k,n=k+1:=⟨n - 1,by omega⟩
  have e:Il (decide (p.kind=4))=some (((if p.kind=4 then 1 else 0:Nat):Nat):Int):=by
   grind [Il]
  have hw:IntKind.i64.wrap ((acc:Int)+(((if p.kind=4 then 1 else 0:Nat):Nat):Int))=((acc+(if p.kind=4 then 1 else 0):Nat):Int):=by
   split <;> rw [w64 (by omega) (by omega)] <;> omega
  rw [EL,decide_eq_true (by omega),if_pos rfl,A1 h,AA,e,AA,hw,AX h (by grind),gK l hl post (pre++[p]) n _ (DA h) (by rw [List.length_append,List.length_singleton]; split <;> omega) (by omega),mkN,Nat.add_assoc]
theorem iMk (l:List Parcel) (hl:l.length≤4194304):I3 l=some ((mkN l:Nat):Int):=by
 have:=gK l hl l [] fuel 0 rfl (by omega) (by rw [Ar]; omega)
 rw [Nat.zero_add] at this
 exact this
def bareB (c:Cluster):Bool:=c.channels.all fun x=>decide (mkN x=0)
theorem Wm (c:Cluster) (hc:c.Fits):Iw c=some (clB c&&bareB c):=by
 have h1:=hc.s.chl
 unfold Iw
 rw [Wn c hc,AA]
 cases clB c with
 |false=>rfl
 | true=>
  rw [Bool.not_true,if_neg Bool.false_ne_true,Bool.true_and]
  have:=M6 c.channels (fun x=>decide (mkN x=0)) (fun _=>1) (fun n i=>EK n c i) (some false) (some true) 1 ?_ ?_ c.channels [] rfl fuel (by rw [A8,Ar]; omega)
  ·rw [show ((List.length ([] :List (List Parcel)):Nat):Int)=0 from rfl] at this
   rw [this]
   unfold bareB
   cases c.channels.all fun x=>decide (mkN x=0) <;> rfl
  ·intro pre x post k B R h hR hm
   obtain⟨k,rfl⟩:∃j,k=j+1:=⟨k - 1,by omega⟩
   have hlt:pre.length<c.channels.length:=by rw [h]; simp
   rw [EK,decide_eq_true (by omega),if_pos rfl,A1 h,AA,sMk x (hc.s.ch x (by rw [h]; simp)).1,AA,AX h (by grind),hR k (by omega)]
   grind
  ·intro k hk
   obtain⟨k,rfl⟩:∃j,k=j+1:=⟨k - 1,by omega⟩
   rw [EK,decide_eq_false (by omega),if_neg Bool.false_ne_true]
theorem Y2 (c:Cluster) (hc:c.Small):CL c=some (!bareB c):=by
 have h1:=hc.chl
 unfold CL
 rw [Hv Ay CF (fun n l i f=>by rw [Ay]) (fun l f=>rfl) c.channels _ (fun x=>decide (mkN x=0)) (by grind) (fun x hx=>?_),AA]
 ·rfl
 ·unfold Db
  rw [iMk x (hc.ch x hx).1,AA]
  grind [decide_eq_false]
theorem cp (a:Service) (h:a.watched.shot.taken.length≤4194304∧a.watched.shot.shards.length≤4194304∧a.watched.shot.counts.length≤4194304∧a.watched.shot.recording.length≤4194304∧a.watched.shot.saved.length≤4194304):Dh a=Hm a:=by
 grind [Dh,Hm,w64,decide_eq_false]
theorem mP (l:List Bool) (b:Bool) (hl:l.length≤4194304):∀ (post pre:List Bool) (n:Nat),l=pre++post→post.length<n→∃i,CM n l b (pre.length:Int)=some i∧(0≤i↔b ∈ post)
 | [],pre,n,h,hn=>by
  obtain⟨n,rfl⟩:∃k,n=k+1:=⟨n - 1,by omega⟩
  have hl':l.length=pre.length:=by rw [h,List.append_nil]
  simp_all [CM]
 | x::post,pre,n,h,hn=>by
  rw [List.length_cons] at hn
  have hlt:pre.length<l.length:=by rw [h]; simp
  obtain⟨n,rfl⟩:∃k,n=k+1:=⟨n - 1,by omega⟩
  rw [CM,decide_eq_true (by omega),if_pos rfl,A1 h,AA]
  by_cases hx:b=x
  ·rw [if_pos (by rw [hx]; grind)]
   grind
  ·rw [if_neg (by grind),AX h (by grind)]
   obtain⟨i,e,hi⟩:=mP l b hl post (pre++[x]) n (DA h) (by omega)
   grind
theorem ip (l:List Bool) (b:Bool) (hl:l.length≤4194304):Cq l b=some (decide (b ∈ l)):=by
 obtain⟨i,e,hi⟩:=mP l b hl l [] fuel rfl (by rw [Ar]; omega)
 rw [List.length_nil,show ((0:Nat):Int)=0 from rfl] at e
 grind [Cq,H2]
def doneB (a:Shot):Bool:=a.taken.all id&&a.recording.all (!·)
theorem cq (a:Shot) (h1:a.taken.length≤4194304) (h2:a.recording.length≤4194304):GT a=some (doneB a):=by
 have e1:decide (false ∈ a.taken)= !a.taken.all id:=by
  rw [Bool.eq_iff_iff]; simp
 have e2:decide (true ∈ a.recording)= !a.recording.all (!·):=by
  rw [Bool.eq_iff_iff]; simp
 unfold GT doneB
 rw [ip _ _ h1,AA,ip _ _ h2,AA,e1,e2]
 cases a.taken.all id <;> cases a.recording.all (!·) <;> rfl
theorem cr (w:Watched) (h1:w.shot.taken.length≤4194304) (h2:w.shot.recording.length≤4194304):KP w=some (doneB w.shot):=by
 have t2:DZ fuel w 0=if w.shot.recording.all (!·)=true then some true else some false:=by
  refine M6 w.shot.recording (!·) (fun _=>1) (fun n i=>DZ n w i) (some false) (some true) 1 ?_ ?_ w.shot.recording [] rfl fuel (by rw [A8,Ar]; omega)
  ·intro pre x post k B R h hR hm
   obtain⟨k,rfl⟩:∃j,k=j+1:=⟨k - 1,by omega⟩
   have hlt:pre.length<w.shot.recording.length:=by rw [h]; simp
   rw [DZ,decide_eq_true (by omega),if_pos rfl,A1 h,AA,AX h (by grind),hR k (by omega)]
   cases x <;> rfl
  ·intro k hk
   obtain⟨k,rfl⟩:∃j,k=j+1:=⟨k - 1,by omega⟩
   rw [DZ,decide_eq_false (by omega),if_neg Bool.false_ne_true]
 have t1:Da fuel w 0=if w.shot.taken.all id=true then (if w.shot.recording.all (!·)=true then some true else some false) else some false:=by
  refine M6 w.shot.taken id (fun _=>1) (fun n i=>Da n w i) (some false) _ 1 ?_ ?_ w.shot.taken [] rfl fuel (by rw [A8,Ar]; omega)
  ·intro pre x post k B R h hR hm
   obtain⟨k,rfl⟩:∃j,k=j+1:=⟨k - 1,by omega⟩
   have hlt:pre.length<w.shot.taken.length:=by rw [h]; simp
   rw [Da,decide_eq_true (by omega),if_pos rfl,A1 h,AA,AX h (by grind),hR k (by omega)]
   cases x <;> rfl
  ·intro k hk
   obtain⟨k,rfl⟩:∃j,k=j+1:=⟨k - 1,by omega⟩
   rw [Da,decide_eq_false (by omega),if_neg Bool.false_ne_true,t2]
 unfold KP doneB
 rw [t1]
 cases w.shot.taken.all id <;> cases w.shot.recording.all (!·) <;> rfl
theorem gL:∃F,fuel=F+1:=⟨fuel - 1,by rw [Ar]⟩
def noneB (s:Shard):Bool:=decide (s.cells.length=0)&&(decide (s.vars.length=0)&&decide (s.redexes.length=0))
theorem iq (s:Shard):IB s ⟨[],[],[]⟩=some (noneB s):=by
 grind [gL,IB,noneB,Es,Er,Ep,Eo]
theorem ir (s:Shard):IG s ⟨[],[],[]⟩=some (noneB s):=by
 obtain⟨F,hF⟩:=gL
 have c1:Bl s.cells [] (fun y0 y1=>Ce y0 y1)=some (decide (s.cells.length=0)):=by
  grind [Bl,A5,decide_eq_false]
 have c2:CX s.vars [] =some (decide (s.vars.length=0)):=by
  grind [CX,BU,decide_eq_false]
 have c3:CC s.redexes [] =some (decide (s.redexes.length=0)):=by
  grind [CC,BK,decide_eq_false]
 unfold IG noneB
 rw [c1,AA,c2,AA,c3,AA]
 cases decide (s.cells.length=0) <;> cases decide (s.vars.length=0) <;> cases decide (s.redexes.length=0) <;> rfl
def Wo (t:Bool) (s:Shard) (k:List Int):Bool:=if t=true then shB s&&(decide (k.length=7)&&k.all cntB) else noneB s&&decide (k.length=0)
theorem ct {a:Shot} {m:Int} {t:Bool} {s:Shard} {k:List Int} (h1:at? a.taken m=some t) (h2:at? a.shards m=some s) (h3:at? a.counts m=some k) (hs:s.Small) (hk:k.length≤4194304):Di a m=some (Wo t s k):=by
 have hc:CS k=some (decide (k.length=7)&&k.all cntB):=by
  grind [CS,IJ,decide_eq_false]
 unfold Di Wo
 rw [h1,AA,h2,AA,h3,ir,AA,AA,AA,UY hs,AA,AA,hc,AA]
 cases t with
 |false=>cases noneB s <;> simp
 |true=>cases shB s <;> simp
theorem cu {a:Shot} {m:Int} {t:Bool} {s:Shard} {k:List Int} (h1:at? a.taken m=some t) (h2:at? a.shards m=some s) (h3:at? a.counts m=some k) (hs:s.Small) (hk:k.length≤4194304) (hw:Oy s≤1099511627776):GA a m=some (Wo t s k):=by
 have hp:Fo (⟨[s],(⟨0,0,0⟩:Address)⟩:Grid)=some (shB s):=by
  rw [Sg (g:=⟨[s],⟨0,0,0⟩⟩) (fun x hx=>by rw [List.mem_singleton] at hx; rw [hx]; exact hs) (by simp only [szw]; omega) (by simp only [List.length_cons,List.length_nil]; unfold Big; omega)]
  unfold IK
  simp
 unfold GA Wo
 have hn:DX k 7=some (decide (k.length=7)&&k.all cntB):=Ju k 7 (by unfold Big; omega)
 rw [h1,AA,h2,h3]
 simp only [AA,hp,iq,hn]
 cases t with
 |false=>cases noneB s <;> simp
 |true=>cases shB s <;> simp
def Sh (same tf tt rec:Bool) (sv mc ms:Nat):Bool:=
 if same=true then !rec&&decide (sv=0)
 else (if tt=true then rec||tf else !rec&&decide (sv=0))&&(decide (ms=0)&&decide (mc=if tf=true∧(tt=false∨rec=true) then 1 else 0))
theorem it (b:Bool):Il b=some (((if b=true then 1 else 0:Nat):Nat):Int):=by cases b <;> rfl
theorem iu (b:Bool):EC b=some (((if b=true then 1 else 0:Nat):Nat):Int):=by cases b <;> rfl
theorem fN {w:Watched} {f t i:Int} {tf tt rc:Bool} {sv ch:List Parcel} (h1:at? w.shot.taken f=some tf) (h2:at? w.shot.taken t=some tt) (h3:at? w.shot.recording i=some rc) (h4:at? w.shot.saved i=some sv) (h5:at? w.cluster.channels i=some ch) (hs:sv.length≤4194304) (hc:ch.length≤4194304):
  Cb w f t i=some (Sh (decide (f=t)) tf tt rc sv.length (mkN ch) (mkN sv)):=by
 have hms:=X8 sv
 unfold Cb CY Ao B0 Sh
 rw [h1,h2,h3,h4,h5]
 simp only [AA,iMk _ hs,iMk _ hc,it]
 by_cases hft:f=t <;> by_cases h0:sv.length=0 <;> by_cases hm:mkN sv=0 <;> cases tf <;> cases tt <;> cases rc <;> simp [hft,h0,hm] <;> first|omega|(split <;> simp_all <;> omega)|(split <;> simp_all)
structure Watched.Fits (w:Watched):Prop where
 c:w.cluster.Fits
 tk:w.shot.taken.length≤4194304
 rc:w.shot.recording.length≤4194304
 sh:∀s ∈ w.shot.shards,s.Small∧Oy s≤1099511627776
 shl:w.shot.shards.length≤4194304
 co:∀x ∈ w.shot.counts,x.length≤4194304
 col:w.shot.counts.length≤4194304
 sv:∀x ∈ w.shot.saved,x.length≤4194304∧∀p ∈ x,p.cell.Small
 svl:w.shot.saved.length≤4194304
theorem fO {w:Watched} {f t k:Nat} {tf tt rc:Bool} {sv ch:List Parcel} (hk:k≤4) (hf:f<k) (ht:t<k) (h1:w.shot.taken[f]? =some tf) (h2:w.shot.taken[t]? =some tt) (h3:w.shot.recording[f*k+t]? =some rc) (h4:w.shot.saved[f*k+t]? =some sv) (h5:w.cluster.channels[f*k+t]? =some ch) (hs:sv.length≤4194304∧∀p ∈ sv,p.cell.Small) (hc:ch.length≤4194304):
  GB w (f:Int) (t:Int) (k:Int)=some (Sh (decide ((f:Int)=(t:Int))) tf tt rc sv.length (mkN ch) (mkN sv)&&(decide (sv.length≤200)&&sv.all fun p=>paB p (t:Int))):=by
 have hfk:f*k≤4*4:=Nat.mul_le_mul (by omega) hk
 have he:IntKind.i64.wrap (IntKind.i64.wrap ((f:Int)*(k:Int))+(t:Int))=((f*k+t:Nat):Int):=by
  rw [← Int.natCast_mul,w64 (n:=((f*k:Nat):Int)) (by omega) (by omega),w64 (by omega) (by omega)]; omega
 rw [← B3] at h1 h2 h3 h4 h5
 have hms:=X8 sv
 have t6:∀B:Bool,(if (decide ((f:Int)=(t:Int)))=true then some true else (at? w.cluster.channels ((f*k+t:Nat):Int)).bind fun v16010=>(E8 v16010).bind fun v16012=>(at? w.shot.taken (f:Int)).bind fun v16018=>if v16018=true then (at? w.shot.taken (t:Int)).bind fun v16026=>(if (!v16026)=true then ((EC true).bind fun v16039=>(some (decide (v16012=v16039)))) else ((at? w.shot.recording ((f*k+t:Nat):Int)).bind fun v16035=>((EC v16035).bind fun v16039=>(some (decide (v16012=v16039)))))) else (EC false).bind fun v16039=>some (decide (v16012=v16039)))=some B→Bd fuel w (f:Int) (t:Int) (k:Int) 0=some ((sv.all fun p=>paB p (t:Int))&&B):=by
  intro B hB
  have:=M6 sv (fun p=>paB p (t:Int)) (fun _=>1) (fun n i=>Bd n w (f:Int) (t:Int) (k:Int) i) (some false) (some B) 1 ?_ ?_ sv [] rfl fuel (by rw [A8,Ar]; omega)
  ·rw [show ((List.length ([] :List Parcel):Nat):Int)=0 from rfl] at this
   rw [this]
   cases sv.all fun p=>paB p (t:Int) <;> rfl
  ·intro pre x post m B' R h hR hm
   obtain⟨m,rfl⟩:∃j,m=j+1:=⟨m - 1,by omega⟩
   have hlt:pre.length<sv.length:=by rw [h]; simp
   show Bd (m+1) w (f:Int) (t:Int) (k:Int) _=_
   rw [Bd,he,h4,AA,decide_eq_true (by omega),if_pos rfl,AA,A1 h,AA,Si _ (hs.2 x (by rw [h]; simp)),AA,AX h (by grind),hR m (by omega)]
   cases paB x (t:Int) <;> rfl
  ·intro m hm
   obtain⟨m,rfl⟩:∃j,m=j+1:=⟨m - 1,by omega⟩
   grind [Bd]
 have e6:Bd fuel w (f:Int) (t:Int) (k:Int) 0=some ((sv.all fun p=>paB p (t:Int))&&(decide ((f:Int)=(t:Int))||decide (mkN ch=if tf=true∧(tt=false∨rc=true) then 1 else 0))):=by
  refine t6 _ ?_
  by_cases hft:f=t
  ·rw [decide_eq_true (by omega),if_pos rfl]; rfl
  ·rw [decide_eq_false (by omega),if_neg Bool.false_ne_true,h5,AA,sMk _ hc,AA,h1,AA,h2,h3]
   cases tf <;> cases tt <;> cases rc <;> simp [iu] <;> omega
 unfold GB FQ FO FP FN FM Sh
 rw [he,h1,h2,h3,h4,e6]
 simp only [AA,sMk _ hs.1]
 generalize (sv.all fun p=>paB p (t:Int))=al
 by_cases hft:f=t <;> by_cases h0:sv.length=0 <;> by_cases hm:mkN sv=0 <;> by_cases hl:sv.length≤200 <;> cases tf <;> cases tt <;> cases rc <;> simp [hft,h0,hm,hl] <;> grind
theorem Wp {β:Type} (k:Nat) (p:Nat→Bool) (c:Nat) (L:Nat→Int→Option β) (F Rest:Option β) (N:Nat)
  (hL:∀i m B R,i<k→(∀n,B≤n→L n ((i+1:Nat):Int)=R)→B+c≤m→L m (i:Int)=if p i=true then R else F)
  (hE:∀n,N≤n→L n (k:Int)=Rest):∀j i,i+j=k→∀n,N+c*j≤n→L n (i:Int)=if (List.range' i j).all p=true then Rest else F
 |0,i,h,n,hn=>by
  rw [show i=k by omega,hE n (by omega)]; rfl
 |j+1,i,h,n,hn=>by
  rw [Nat.mul_succ] at hn
  rw [hL i n (N+c*j) (if (List.range' (i+1) j).all p=true then Rest else F) (by omega) (fun m hm=>Wp k p c L F Rest N hL hE j (i+1) (by omega) m hm) (by omega),List.range'_succ,List.all_cons]
  cases p i <;> rfl
def mW (a:Shot) (i:Nat):Bool:=match a.taken[i]?,a.shards[i]?,a.counts[i]? with
 |some t,some s,some k=>Wo t s k
 |_,_,_=>false
def chW (w:Watched) (k i:Nat):Bool:=match w.shot.taken[i / k]?,w.shot.taken[i % k]?,w.shot.recording[i]?,w.shot.saved[i]?,w.cluster.channels[i]? with
 |some tf,some tt,some rc,some sv,some ch=>Sh (decide (((i / k:Nat):Int)=((i % k:Nat):Int))) tf tt rc sv.length (mkN ch) (mkN sv)
 |_,_,_,_,_=>false
def svW (w:Watched) (k i:Nat):Bool:=match w.shot.saved[i]? with
 |some sv=>chB k i sv
 |none=>false
def lenW (w:Watched):Bool:=decide (w.shot.taken.length=w.cluster.grid.shards.length∧w.shot.shards.length=w.cluster.grid.shards.length∧w.shot.counts.length=w.cluster.grid.shards.length∧w.shot.recording.length=w.cluster.grid.shards.length*w.cluster.grid.shards.length∧w.shot.saved.length=w.cluster.grid.shards.length*w.cluster.grid.shards.length)
def cw (w:Watched):Bool:=(List.range' 0 w.cluster.grid.shards.length).all (mW w.shot)
def waB (w:Watched):Bool:=clB w.cluster&&(lenW w&&(cw w&&(decide (true ∈ w.shot.taken)&&((List.range' 0 w.cluster.grid.shards.length).all fun f=>(List.range' 0 w.cluster.grid.shards.length).all fun t=>chW w w.cluster.grid.shards.length (f*w.cluster.grid.shards.length+t)&&svW w w.cluster.grid.shards.length (f*w.cluster.grid.shards.length+t)))))
structure Lens (w:Watched) (k:Nat):Prop where
 f:w.Fits
 k1:1≤k
 k4:k≤4
 e:w.cluster.grid.shards.length=k
 t:w.shot.taken.length=k
 s:w.shot.shards.length=k
 c:w.shot.counts.length=k
 r:w.shot.recording.length=k*k
 v:w.shot.saved.length=k*k
 h:w.cluster.channels.length=k*k
theorem IX {α:Type} {l:List α} {i:Nat} (h:i<l.length):∃x,l[i]? =some x∧x ∈ l:=⟨l[i],List.getElem?_eq_getElem h,List.getElem_mem h⟩
theorem Lens.iMach {w:Watched} {k:Nat} (L:Lens w k) {i:Nat} (hi:i<k):Di w.shot (i:Int)=some (mW w.shot i):=by
 obtain⟨t,h1,-⟩:=IX (l:=w.shot.taken) (i:=i) (by rw [L.t]; exact hi)
 obtain⟨s,h2,m2⟩:=IX (l:=w.shot.shards) (i:=i) (by rw [L.s]; exact hi)
 obtain⟨c,h3,m3⟩:=IX (l:=w.shot.counts) (i:=i) (by rw [L.c]; exact hi)
 rw [ct (by rw [B3]; exact h1) (by rw [B3]; exact h2) (by rw [B3]; exact h3) (L.f.sh s m2).1 (L.f.co c m3)]
 unfold mW
 rw [h1,h2,h3]
theorem Lens.sMach {w:Watched} {k:Nat} (L:Lens w k) {i:Nat} (hi:i<k):GA w.shot (i:Int)=some (mW w.shot i):=by
 obtain⟨t,h1,-⟩:=IX (l:=w.shot.taken) (i:=i) (by rw [L.t]; exact hi)
 obtain⟨s,h2,m2⟩:=IX (l:=w.shot.shards) (i:=i) (by rw [L.s]; exact hi)
 obtain⟨c,h3,m3⟩:=IX (l:=w.shot.counts) (i:=i) (by rw [L.c]; exact hi)
 rw [cu (by rw [B3]; exact h1) (by rw [B3]; exact h2) (by rw [B3]; exact h3) (L.f.sh s m2).1 (L.f.co c m3) (L.f.sh s m2).2]
 unfold mW
 rw [h1,h2,h3]
theorem cy {f t k:Nat} (hf:f<k) (ht:t<k):f*k+t<k*k:=by
 have:(f+1)*k≤k*k:=Nat.mul_le_mul (by omega) (Nat.le_refl _)
 rw [Nat.add_mul] at this; omega
theorem fP {f t k:Nat} (ht:t<k):(f*k+t) / k=f:=by
 rw [Nat.mul_comm,Nat.mul_add_div (by omega),Nat.div_eq_of_lt ht]; rfl
theorem Y3 {f t k:Nat} (ht:t<k):(f*k+t) % k=t:=by
 rw [Nat.mul_comm,Nat.mul_add_mod,Nat.mod_eq_of_lt ht]
theorem Lens.chan {w:Watched} {k:Nat} (L:Lens w k) {f t:Nat} (hf:f<k) (ht:t<k):
  Cb w (f:Int) (t:Int) ((f*k+t:Nat):Int)=some (chW w k (f*k+t))∧GB w (f:Int) (t:Int) (k:Int)=some (chW w k (f*k+t)&&svW w k (f*k+t)):=by
 have hl:=cy hf ht
 obtain⟨tf,h1,-⟩:=IX (l:=w.shot.taken) (i:=f) (by rw [L.t]; exact hf)
 obtain⟨tt,h2,-⟩:=IX (l:=w.shot.taken) (i:=t) (by rw [L.t]; exact ht)
 obtain⟨rc,h3,-⟩:=IX (l:=w.shot.recording) (i:=f*k+t) (by rw [L.r]; exact hl)
 obtain⟨sv,h4,m4⟩:=IX (l:=w.shot.saved) (i:=f*k+t) (by rw [L.v]; exact hl)
 obtain⟨ch,h5,m5⟩:=IX (l:=w.cluster.channels) (i:=f*k+t) (by rw [L.h]; exact hl)
 have hc:=L.f.sv sv m4
 have hd:=(L.f.c.s.ch ch m5).1
 have e1:chW w k (f*k+t)=Sh (decide ((f:Int)=(t:Int))) tf tt rc sv.length (mkN ch) (mkN sv):=by
  unfold chW
  rw [fP ht,Y3 ht,h1,h2,h3,h4,h5]
 have e2:svW w k (f*k+t)=(decide (sv.length≤200)&&sv.all fun p=>paB p (t:Int)):=by
  unfold svW
  rw [h4]
  show chB k (f*k+t) sv=_
  unfold chB
  rw [Y3 ht]
 rw [e1,e2]
 exact⟨fN (by rw [B3]; exact h1) (by rw [B3]; exact h2) (by rw [B3]; exact h3) (by rw [B3]; exact h4) (by rw [B3]; exact h5) hc.1 hd,fO L.k4 hf ht h1 h2 h3 h4 h5 hc hd⟩
theorem w1 {i:Nat} (h:i≤4194304):IntKind.i64.wrap ((i:Int)+1)=((i+1:Nat):Int):=by
 rw [w64 (by omega) (by omega)]; omega
theorem Lens.sChans {w:Watched} {k:Nat} (L:Lens w k) (b:Bool):CU fuel w b 0=if ((List.range' 0 k).all fun f=>(List.range' 0 k).all fun t=>chW w k (f*k+t)&&svW w k (f*k+t))=true then some b else some false:=by
 have k4:=L.k4
 have hb:(2*k+2)*k≤10*4:=Nat.mul_le_mul (by omega) k4
 have:=Wp k (fun f=>(List.range' 0 k).all fun t=>chW w k (f*k+t)&&svW w k (f*k+t)) (2*k+2) (fun n i=>CU n w b i) (some false) (some b) 1 ?_ ?_ k 0 (by omega) fuel (by rw [Ar]; omega)
 ·omega
 ·intro f m B R hf hR hm
  obtain⟨m,rfl⟩:∃j,m=j+1:=⟨m - 1,by omega⟩
  show CU (m+1) w b (f:Int)=_
  rw [CU,L.e,decide_eq_true (by omega),if_pos rfl]
  have:=Wp k (fun t=>chW w k (f*k+t)&&svW w k (f*k+t)) 1 (fun n i=>EW n w b (f:Int) i) (some false) R (B+1) ?_ ?_ k 0 (by omega) m (by omega)
  ·omega
  ·intro t m B R ht hR hm
   obtain⟨m,rfl⟩:∃j,m=j+1:=⟨m - 1,by omega⟩
   show EW (m+1) w b (f:Int) (t:Int)=_
   rw [EW,L.e,decide_eq_true (by omega),if_pos rfl,(L.chan hf ht).2,AA,w1 (by omega),hR m (by omega)]
   cases chW w k (f*k+t)&&svW w k (f*k+t) <;> rfl
  ·intro n hn
   obtain⟨n,rfl⟩:∃j,n=j+1:=⟨n - 1,by omega⟩
   show EW (n+1) w b (f:Int) (k:Int)=_
   rw [EW,L.e,decide_eq_false (by omega),if_neg Bool.false_ne_true,w1 (by omega)]
   grind
 ·intro n hn
  obtain⟨n,rfl⟩:∃j,n=j+1:=⟨n - 1,by omega⟩
  show CU (n+1) w b (k:Int)=_
  rw [CU,L.e,decide_eq_false (by omega),if_neg Bool.false_ne_true]
def tkAt (a:Shot) (i:Nat):Bool:=(a.taken[i]?).getD false
theorem Lens.sMachs {w:Watched} {k:Nat} (L:Lens w k):∀j i (b:Bool),i+j=k→∀n,2*j+1≤n→E9 n w b (i:Int)=if (List.range' i j).all (mW w.shot)=true then CU fuel w (b||(List.range' i j).any (tkAt w.shot)) 0 else some false
 |0,i,b,h,n,hn=>by
  obtain⟨n,rfl⟩:∃j,n=j+1:=⟨n - 1,by omega⟩
  rw [E9,L.e,decide_eq_false (by omega),if_neg Bool.false_ne_true,List.range'_zero,List.all_nil,List.any_nil,Bool.or_false,if_pos rfl]
 | j+1,i,b,h,n,hn=>by
  have k4:=L.k4
  obtain⟨n,rfl⟩:∃j,n=j+2:=⟨n - 2,by omega⟩
  obtain⟨t,h1,-⟩:=IX (l:=w.shot.taken) (i:=i) (by rw [L.t]; omega)
  have e:∀c:Bool,Gc (n+1) w (i:Int) c=if mW w.shot i=true then (if (List.range' (i+1) j).all (mW w.shot)=true then CU fuel w (c||(List.range' (i+1) j).any (tkAt w.shot)) 0 else some false) else some false:=by
   intro c
   rw [Gc,L.sMach (by omega),AA,w1 (by omega),Lens.sMachs L j (i+1) c (by omega) n (by omega)]
   cases mW w.shot i <;> rfl
  have et:tkAt w.shot i=t:=by grind [tkAt]
  rw [E9,L.e,decide_eq_true (by omega),if_pos rfl,B3,h1,AA,e,e,List.range'_succ,List.all_cons,List.any_cons,et]
  cases b <;> cases mW w.shot i <;> rfl
theorem iw {a:Shot} {k:Nat} (h:a.taken.length=k):(List.range' 0 k).any (tkAt a)=decide (true ∈ a.taken):=by
 rw [Bool.eq_iff_iff,List.any_eq_true,decide_eq_true_eq,List.mem_iff_getElem?]
 constructor
 ·grind [tkAt]
 ·rintro ⟨i,e⟩
  refine⟨i,?_,by grind [tkAt]⟩
  grind
theorem UZ {c:Cluster} (h:clB c=true):1≤c.grid.shards.length∧c.grid.shards.length≤4∧c.channels.length=c.grid.shards.length*c.grid.shards.length:=by
 grind [clB,Jv,IK]
theorem cz (w:Watched) (hw:w.Fits):Om w=some (waB w):=by
 have q1:=hw.tk
 have q2:=hw.rc
 have q3:=hw.shl
 have q4:=hw.col
 have q5:=hw.svl
 unfold Om waB
 rw [Wn _ hw.c,AA]
 cases hcl:clB w.cluster with
 |false=>rfl
 | true=>
  obtain⟨h1,h2,h3⟩:=UZ hcl
  rw [Bool.not_true,if_neg Bool.false_ne_true,Bool.true_and]
  generalize hk:w.cluster.grid.shards.length=k at*
  have hkk:k*k≤4*4:=Nat.mul_le_mul h2 h2
  rw [← Int.natCast_mul,w64 (by omega) (by omega)]
  have bad:FA w true=some false:=rfl
  by_cases l:lenW w=true
  ·rw [l,Bool.true_and]
   unfold lenW at l
   rw [decide_eq_true_eq,hk] at l
   obtain⟨l1,l2,l3,l4,l5⟩:=l
   have L:Lens w k:=⟨hw,h1,h2,hk,l1,l2,l3,l4,l5,h3⟩
   rw [decide_eq_true (by omega),decide_eq_true (by omega),decide_eq_true (by omega),decide_eq_true (by omega),decide_eq_true (by omega),Bool.not_true,if_neg Bool.false_ne_true,if_neg Bool.false_ne_true,if_neg Bool.false_ne_true,if_neg Bool.false_ne_true]
   unfold FA
   have e:=L.sMachs k 0 false (by omega) fuel (by rw [Ar]; omega)
   rw [show ((0:Nat):Int)=0 from rfl] at e
   rw [if_neg Bool.false_ne_true,e,iw l1,L.sChans]
   unfold cw
   rw [hk,Bool.false_or]
   generalize ((List.range' 0 k).all fun f=>(List.range' 0 k).all fun t=>chW w k (f*k+t)&&svW w k (f*k+t))=z
   cases (List.range' 0 k).all (mW w.shot) <;> cases decide (true ∈ w.shot.taken) <;> cases z <;> rfl
  ·rw [show lenW w=false by grind,Bool.false_and]
   grind [lenW,decide_eq_false]
theorem c8 {k:Nat} (p:Nat→Bool):(List.range' 0 (k*k)).all p=(List.range' 0 k).all fun f=>(List.range' 0 k).all fun t=>p (f*k+t):=by
 rw [Bool.eq_iff_iff]
 simp only [List.all_eq_true,List.mem_range'_1]
 constructor
 ·grind [cy]
 ·intro h i hi
  have k0:0<k:=by
   grind
  have:=h (i / k) ⟨Nat.zero_le _,by rw [Nat.zero_add]; simp_all [Nat.div_lt_iff_lt_mul]⟩ (i % k) ⟨Nat.zero_le _,by rw [Nat.zero_add]; exact Nat.mod_lt _ k0⟩
  rwa [show i / k*k+i % k=i by rw [Nat.mul_comm]; exact Nat.div_add_mod i k] at this
theorem ix {w:Watched} {k:Nat} (h:w.shot.saved.length=k*k):allI (chB k) 0 w.shot.saved=(List.range' 0 (k*k)).all (svW w k):=by
 rw [Bool.eq_iff_iff,DB,List.all_eq_true]
 simp only [List.mem_range'_1]
 grind [svW]
theorem Lens.dg {w:Watched} {k:Nat} (L:Lens w k) (h:(List.range' 0 (k*k)).all (chW w k)=true):allI (dgB k) 0 w.shot.saved=true:=by
 rw [DB]
 intro i x hx
 obtain⟨hl,-⟩:=List.getElem?_eq_some_iff.mp hx
 rw [L.v] at hl
 have:=List.all_eq_true.mp h i (by rw [List.mem_range'_1]; omega)
 grind [dgB,chW,Sh]
theorem Lens.iChans {w:Watched} {k:Nat} (L:Lens w k):Au fuel w (k:Int) 0=if (List.range' 0 (k*k)).all (chW w k)=true then some true else some false:=by
 have k1:=L.k1
 have k4:=L.k4
 have hkk:k*k≤4*4:=Nat.mul_le_mul k4 k4
 have hw:IntKind.i64.wrap ((k:Int)*(k:Int))=((k*k:Nat):Int):=by
  rw [← Int.natCast_mul,w64 (by omega) (by omega)]
 have:=Wp (k*k) (chW w k) 1 (fun n i=>Au n w (k:Int) i) (some false) (some true) 1 ?_ ?_ (k*k) 0 (by omega) fuel (by rw [Ar]; omega)
 ·omega
 ·intro i m B R hi hR hm
  obtain⟨m,rfl⟩:∃j,m=j+1:=⟨m - 1,by omega⟩
  have hd:i / k≤i:=Nat.div_le_self _ _
  have e1:i / k<k:=(Nat.div_lt_iff_lt_mul k1).mpr hi
  have e2:i % k<k:=Nat.mod_lt _ k1
  have e3:i / k*k+i % k=i:=by rw [Nat.mul_comm]; exact Nat.div_add_mod i k
  have hc:=(L.chan e1 e2).1
  rw [e3] at hc
  have hq:IntKind.i64.wrap ((i / k:Nat):Int)=((i / k:Nat):Int):=by
   grind [w64]
  show Au (m+1) w (k:Int) (i:Int)=_
  rw [Au,hw,decide_eq_true (by omega),if_pos rfl,X9 k1,AA,AA,Wq,Sj,hq,hc,AA,w1 (by omega),hR m (by omega)]
  cases chW w k i <;> rfl
 ·intro n hn
  obtain⟨n,rfl⟩:∃j,n=j+1:=⟨n - 1,by omega⟩
  show Au (n+1) w (k:Int) _=_
  rw [Au,hw,decide_eq_false (by omega),if_neg Bool.false_ne_true]
theorem Lens.iMachs {w:Watched} {k:Nat} (L:Lens w k):BC fuel w (k:Int) 0=if (List.range' 0 k).all (mW w.shot)=true then Au fuel w (k:Int) 0 else some false:=by
 have k1:=L.k1
 have k4:=L.k4
 have:=Wp k (mW w.shot) 1 (fun n i=>BC n w (k:Int) i) (some false) (Au fuel w (k:Int) 0) 1 ?_ ?_ k 0 (by omega) fuel (by rw [Ar]; omega)
 ·omega
 ·intro i m B R hi hR hm
  obtain⟨m,rfl⟩:∃j,m=j+1:=⟨m - 1,by omega⟩
  show BC (m+1) w (k:Int) (i:Int)=_
  rw [BC,decide_eq_true (by omega),if_pos rfl,L.iMach hi,AA,w1 (by omega),hR m (by omega)]
  cases mW w.shot i <;> rfl
 ·intro n hn
  obtain⟨n,rfl⟩:∃j,n=j+1:=⟨n - 1,by omega⟩
  show BC (n+1) w (k:Int) (k:Int)=_
  rw [BC,decide_eq_false (by omega),if_neg Bool.false_ne_true]
theorem Wr (w:Watched) (hw:w.Fits):Fu w=some (waB w):=by
 have q1:=hw.tk
 have q2:=hw.rc
 have q3:=hw.shl
 have q4:=hw.col
 have q5:=hw.svl
 unfold Fu waB BX
 rw [Ly _ hw.c,AA]
 cases hcl:clB w.cluster with
 |false=>rfl
 | true =>
  obtain⟨h1,h2,h3⟩:=UZ hcl
  rw [Bool.not_true,if_neg Bool.false_ne_true,Bool.true_and,AA]
  generalize hk:w.cluster.grid.shards.length=k at*
  have hkk:k*k≤4*4:=Nat.mul_le_mul h2 h2
  rw [← Int.natCast_mul,w64 (by omega) (by omega),Ws _ k ⟨h1,h2⟩ hw.sv q5,AA,ip _ _ q1,AA]
  have bad:BD w (k:Int) true=some false:=rfl
  rw [bad]
  by_cases l1:w.shot.taken.length=k
  ·rw [show (!decide (((w.shot.taken.length:Nat):Int)=(k:Int)))=false by rw [decide_eq_true (by omega)]; rfl,if_neg Bool.false_ne_true]
   by_cases l2:w.shot.shards.length=k
   ·rw [show (!decide (((w.shot.shards.length:Nat):Int)=(k:Int)))=false by rw [decide_eq_true (by omega)]; rfl,if_neg Bool.false_ne_true]
    by_cases l3:w.shot.counts.length=k
    ·rw [show (!decide (((w.shot.counts.length:Nat):Int)=(k:Int)))=false by rw [decide_eq_true (by omega)]; rfl,if_neg Bool.false_ne_true]
     by_cases l4:w.shot.recording.length=k*k
     ·rw [show (!decide (((w.shot.recording.length:Nat):Int)=((k*k:Nat):Int)))=false by rw [decide_eq_true (by omega)]; rfl,if_neg Bool.false_ne_true]
      by_cases l5:w.shot.saved.length=k*k
      ·have L:Lens w k:=⟨hw,h1,h2,hk,l1,l2,l3,l4,l5,h3⟩
       have hlen:lenW w=true:=by grind [lenW]
       have ej:∀b:Bool,BD w (k:Int) b=if b=true then some false else if (List.range' 0 k).all (mW w.shot)=true then (if (List.range' 0 (k*k)).all (chW w k)=true then some true else some false) else some false:=by
        intro b
        unfold BD
        rw [L.iMachs,L.iChans]
       have ea:((List.range' 0 k).all fun f=>(List.range' 0 k).all fun t=>chW w k (f*k+t)&&svW w k (f*k+t))=((List.range' 0 (k*k)).all (chW w k)&&(List.range' 0 (k*k)).all (svW w k)):=by
        rw [← c8 fun i=>chW w k i&&svW w k i,Bool.eq_iff_iff,Bool.and_eq_true,List.all_eq_true,List.all_eq_true,List.all_eq_true]
        grind
       have hdg:=L.dg
       rw [ej,ea,hlen,ix l5,decide_eq_true l5,Bool.true_and,Bool.true_and]
       unfold cw
       rw [hk]
       revert hdg
       cases (List.range' 0 (k*k)).all (chW w k) <;> cases (List.range' 0 (k*k)).all (svW w k) <;> cases (List.range' 0 k).all (mW w.shot) <;> cases decide (true ∈ w.shot.taken) <;> cases allI (dgB k) 0 w.shot.saved <;> simp
      grind [lenW]
     grind [lenW]
    grind [lenW]
   grind [lenW]
  grind [lenW]
def iy (a:Service) (idle:Bool):Bool:=
 (if idle=true then clB a.watched.cluster&&bareB a.watched.cluster else waB a.watched&& !doneB a.watched.shot)&&
  (decide (a.good.grid.shards.length=a.watched.cluster.grid.shards.length)&&((decide (a.good.grid.root.machine=a.watched.cluster.grid.root.machine)&&(decide (a.good.grid.root.kind=a.watched.cluster.grid.root.kind)&&decide (a.good.grid.root.index=a.watched.cluster.grid.root.index)))&&((clB a.good&&bareB a.good)&&(cntB a.shots&&cntB a.crashes))))
theorem aS (a:Service):∃b,Hm a=some b:=by
 unfold Hm
 repeat' split
 all_goals exact⟨_,rfl⟩
theorem VG (a:Service) (hw:a.watched.Fits) (hg:a.good.Fits):∃b,On a=some b∧Et a=some b:=by
 have q1:=hw.tk
 have q2:=hw.rc
 have q3:=hw.shl
 have q4:=hw.col
 have q5:=hw.svl
 have q6:=hg.s.gl
 have q7:=hw.c.s.gl
 obtain⟨id,hi⟩:=aS a
 have hi2:Dh a=some id:=by rw [cp a ⟨q1,q3,q4,q2,q5⟩,hi]
 refine⟨iy a id,?_,?_⟩
 ·unfold On iy
  rw [hi,AA,Wm _ hw.c,cz _ hw,cr _ q1 q2,AA,AA,AA]
  have ej:Hn a=some (decide (a.good.grid.shards.length=a.watched.cluster.grid.shards.length)&&((decide (a.good.grid.root.machine=a.watched.cluster.grid.root.machine)&&(decide (a.good.grid.root.kind=a.watched.cluster.grid.root.kind)&&decide (a.good.grid.root.index=a.watched.cluster.grid.root.index)))&&((clB a.good&&bareB a.good)&&(cntB a.shots&&cntB a.crashes)))):=by
   unfold Hn JM
   rw [Wm _ hg,AA,FV a.shots,AA,FV a.crashes,AA]
   by_cases k1:a.good.grid.shards.length=a.watched.cluster.grid.shards.length
   ·rw [decide_eq_true k1,if_pos (decide_eq_true (by omega)),Bool.true_and]
    cases (decide (a.good.grid.root.machine=a.watched.cluster.grid.root.machine)&&(decide (a.good.grid.root.kind=a.watched.cluster.grid.root.kind)&&decide (a.good.grid.root.index=a.watched.cluster.grid.root.index))) with
    |false=>rfl
    | true=>
     rw [if_pos rfl,Bool.true_and]
     show _=some ((clB a.good&&bareB a.good)&&(cntB a.shots&&cntB a.crashes))
     cases (clB a.good&&bareB a.good) with
     |false=>rfl
     |true=>
      unfold cntB
      cases decide (0≤a.shots∧a.shots≤1000000000) <;> rfl
   ·rw [decide_eq_false k1,if_neg (by rw [decide_eq_true_eq]; omega),if_neg Bool.false_ne_true,Bool.false_and]
  rw [ej]
  generalize (decide (a.good.grid.shards.length=a.watched.cluster.grid.shards.length)&&_)=z at*
  unfold JN
  rw [ej]
  cases id <;> cases clB a.watched.cluster <;> cases bareB a.watched.cluster <;> cases waB a.watched <;> cases doneB a.watched.shot <;> simp
 ·unfold Et Eg iy BX
  rw [hi2,AA,Ly _ hw.c,Y2 _ hw.c.s,Wr _ hw,cq _ q1 q2,Ly _ hg,Y2 _ hg.s,IJ [a.shots,a.crashes] (by simp [Big])]
  simp only [AA]
  have ed:decide (((a.good.grid.shards.length:Nat):Int)=((a.watched.cluster.grid.shards.length:Nat):Int))=decide (a.good.grid.shards.length=a.watched.cluster.grid.shards.length):=by
   rw [decide_eq_decide]; omega
  rw [ed]
  generalize decide (a.good.grid.shards.length=a.watched.cluster.grid.shards.length)=z1
  generalize (decide (a.good.grid.root.machine=a.watched.cluster.grid.root.machine)&&_)=z2
  simp only [List.all_cons,List.all_nil,Bool.and_true]
  generalize (cntB a.shots&&cntB a.crashes)=z3
  cases id <;> cases clB a.watched.cluster <;> cases bareB a.watched.cluster <;> cases waB a.watched <;> cases doneB a.watched.shot <;> cases clB a.good <;> cases bareB a.good <;> cases z1 <;> cases z2 <;> simp
theorem Md {α:Type} {w s:α→Nat} {C:Nat}:∀ {l:List α},(∀x,w x≤C*(1+s x))→szw w l≤C*szl s l
 | [],_=>by simp [szw,szl]
 |x::l,h=>by
  have h1:=Md (l:=l) h
  grind [szw,szl,Nat.mul_add]
theorem Shard.small_of {s:Shard} (h:s.sz≤1048576):s.Small:=by
 unfold Shard.sz at h
 have h1:=Ca ShardCell.sz s.cells
 refine⟨fun c hc=>?_,by omega,by omega,by omega⟩
 have:=D2 (s:=ShardCell.sz) hc
 unfold ShardCell.sz at this h
 exact⟨by omega,by omega⟩
theorem Sk {C:List (List Parcel)} (h:szl (szl Parcel.sz) C≤1048576):C.length≤4194304∧∀x ∈ C,x.length≤4194304∧∀p ∈ x,p.cell.Small:=by
 refine⟨by grind [Ca],fun x hx=>?_⟩
 have h1:=D2 (s:=szl Parcel.sz) hx
 refine⟨by grind [Ca],fun p hp=>?_⟩
 have h2:=D2 (s:=Parcel.sz) hp
 have h3:p.cell.sz≤1048576:=by
  have:p.sz=p.cell.sz+0:=rfl
  omega
 unfold ShardCell.sz at h3
 exact⟨by omega,by omega⟩
theorem Y4 {C:List (List Int)} (h:szl List.length C≤1048576):C.length≤4194304∧∀x ∈ C,x.length≤4194304:=by
 grind [Ca,D2]
theorem Shard.costs (s:Shard):Oy s≤4*(1+s.sz)∧Sl s≤4*(1+s.sz)∧Sm s≤4*(1+s.sz):=by
 grind [Ca,Oy,Sl,Sm,Shard.sz]
theorem Cluster.fits_of {c:Cluster} (h:c.sz≤1048576):c.Fits:=by
 unfold Cluster.sz Grid.sz at h
 have h1:=Ca Shard.sz c.grid.shards
 obtain⟨p1,p2⟩:=Sk (C:=c.channels) (by omega)
 obtain⟨q1,q2⟩:=Y4 (C:=c.counts) (by omega)
 have w1:=Md (w:=Oy) (l:=c.grid.shards) (C:=4) (fun s=>(Shard.costs s).1)
 have w2:=Md (w:=Sl) (l:=c.grid.shards) (C:=4) (fun s=>(Shard.costs s).2.1)
 have w3:=Md (w:=Sm) (l:=c.grid.shards) (C:=4) (fun s=>(Shard.costs s).2.2)
 have w4:=Md (w:=fun x:List Parcel=>2+List.length x) (s:=szl Parcel.sz) (l:=c.channels) (C:=4) (fun x=>by grind [Ca])
 have w5:=Md (w:=fun x:List Parcel=>2+2*List.length x) (s:=szl Parcel.sz) (l:=c.channels) (C:=4) (fun x=>by grind [Ca])
 exact⟨⟨fun s hs=>Shard.small_of (by grind [D2]),by omega,by omega,p2,p1,by omega,q2,q1,by omega,by omega⟩,by omega,by omega,by omega⟩
theorem Watched.fits_of {w:Watched} (h:w.sz≤1048576):w.Fits:=by
 unfold Watched.sz Shot.sz at h
 have h1:=Ca Shard.sz w.shot.shards
 obtain⟨p1,p2⟩:=Sk (C:=w.shot.saved) (by omega)
 obtain⟨q1,q2⟩:=Y4 (C:=w.shot.counts) (by omega)
 refine⟨Cluster.fits_of (by omega),by omega,by omega,fun s hs=>?_,by omega,q2,q1,p2,p1⟩
 grind [D2,Shard.costs,Shard.small_of]
theorem Oz (a0:Service) (h0:a0.sz≤1048576):∃r,Fr a0=some r∧Et a0=some r∧True:=by
 grind [Service.sz,VG,Watched.fits_of,Cluster.fits_of,Fr]
end Go.Proofs.YtclmbjbbojdojaaGreat.Ab
