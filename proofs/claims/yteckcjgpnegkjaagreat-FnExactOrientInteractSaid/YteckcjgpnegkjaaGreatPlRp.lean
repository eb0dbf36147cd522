/-
  Nets that are rewritten: copies, what a valid net is, its highest level. No program is in sight.
-/
import Derived.Test.YteckcjgpnegkjaaGreatPlRf
namespace Go.Proofs.YteckcjgpnegkjaaGreat.Ab
set_option linter.unusedVariables false
set_option maxHeartbeats 1000000
set_option linter.unusedSimpArgs false
open Go.RowKit
theorem Yl {α:Type} (L:Nat→List α→Int→Option (List α)) (f:α→Option α) (l:List α) (hl:l.length≤Big) (hf:∀x ∈ l,f x=some x)
  (hL:∀n acc i,L (n+1) acc i=(if (decide (i<(l.length:Int)))=true then ((at? l i).bind fun v=>((f v).bind fun w=>((app? acc [w]).bind fun z=>(L n z (IntKind.i64.wrap (i+1)))))) else (some acc))):L fuel [] 0=some l:=by
 have loop:∀ (post pre:List α) (n:Nat),l=pre++post→post.length<n→L n pre (pre.length:Int)=some l:=by
  intro post
  induction post with
  |nil=>
   intro pre n h hn
   obtain⟨n,rfl⟩:∃m,n=m+1:=⟨n - 1,by omega⟩
   rw [hL,DL h,if_neg (by simp),h,List.append_nil]
  |cons x post ih=>
   intro pre n h hn
   rw [List.length_cons] at hn
   obtain⟨n,rfl⟩:∃m,n=m+1:=⟨n - 1,by omega⟩
   have hx:x ∈ l:=by rw [h]; simp
   have hlen:pre.length+ [x].length ≤Big:=by rw [h] at hl; grind
   rw [hL,if_pos (CP h),BH h,AA,hf x hx,AA,CQ hlen,AA,Ay h hl]
   grind
 exact loop l [] fuel rfl (by rw [BG]; grind)
theorem eb (d:List Int) (hd:d.length≤Big):Fg d=some d:=by
 grind [Fg,CQ]
theorem TL (a:Agent) (h:a.Small):FO a=some a:=by
 unfold FO
 rw [US _ h.2,AA,UT _ h.1]; rfl
theorem VG (a:Agent) (h:a.Small):Gu a=some a:=by
 unfold Gu
 rw [eb _ h.2,AA,UT _ h.1]; rfl
theorem XG (n:Net) (hl:n.agents.length≤Big) (h:∀a ∈ n.agents,a.Small):ID n=some n:=by
 unfold ID
 rw [P9 hl,AA]
 have hc:=Yl (fun n' acc i=>(Du n' n acc i).map (·.agents)) FO n.agents hl (fun a ha=>TL a (h a ha)) fun n' acc i=>by
  rw [Du]
  split
  ·cases at? n.agents i with
   |none=>rfl
   |some v=>simp only [Option.bind]; grind
  ·rfl
 simp only [Option.map_eq_some_iff] at hc
 obtain⟨a,h1,h2⟩:=hc
 rw [h1]; congr 1
 cases a; simp_all
theorem Ym (n:Net) (hl:n.agents.length≤Big) (h:∀a ∈ n.agents,a.Small):Kf n=some n:=by
 unfold Kf
 rw [P9 hl,AA]
 have hc:=Yl (fun n' acc i=>(Ey n' n acc i).map (·.agents)) Gu n.agents hl (fun a ha=>VG a (h a ha)) fun n' acc i=>by
  rw [Ey]
  split
  ·cases at? n.agents i with
   |none=>rfl
   |some v=>simp only [Option.bind]; grind
  ·rfl
 simp only [Option.map_eq_some_iff] at hc
 obtain⟨a,h1,h2⟩:=hc
 rw [h1]; congr 1
 cases a; simp_all
theorem ed (n:Net) (hl:n.agents.length≤Big) (h:∀a ∈ n.agents,a.Small):Mc n=some n:=by
 unfold Mc
 have hc:=Yl (fun n' acc i=>(Fm n' n acc i).map (·.agents)) CY n.agents hl (fun a ha=>LZ a (h a ha).2 (h a ha).1) fun n' acc i=>by
  rw [Fm]
  split
  ·cases at? n.agents i with
   |none=>rfl
   |some v=>simp only [Option.bind]; grind
  ·rfl
 simp only [Option.map_eq_some_iff] at hc
 obtain⟨a,h1,h2⟩:=hc
 rw [h1]; congr 1
 cases a; simp_all
theorem ee (b:List Net) (n:Net) (hl:n.agents.length≤Big) (h:∀a ∈ n.agents,a.Small):FP b n=some ⟨n,b,[]⟩:=by
 grind [FP,XG]
theorem XH:∀ (l:List Agent) (i:Nat),U1 i l=true→∀ (k:Nat) (a:Agent),l[k]? =some a→agB a=true∧(a.kind=1↔i+k=0)
 | [],_,_,k,a,h=>by grind
 |x::l,i,hb,0,a,h=>by
  rw [U1] at hb
  simp only [Bool.and_eq_true,beq_iff_eq] at hb
  simp only [List.getElem?_cons_zero,Option.some.injEq] at h
  subst h
  refine⟨hb.1.1,?_⟩
  have:=hb.1.2
  by_cases h1:x.kind=1 <;> by_cases h2:i=0 <;> simp_all
 |x::l,i,hb,k+1,a,h=>by
  rw [U1] at hb
  simp only [Bool.and_eq_true] at hb
  rw [List.getElem?_cons_succ] at h
  obtain⟨h1,h2⟩:=XH l (i+1) hb.2 k a h
  grind
theorem Sa {l} {i}:∀ (ps:List Port) (k:Nat),IV l i k ps=true→∀ (j:Nat) (p:Port),ps[j]? =some p→UL l i (k+j) p=true
 | [],_,_,j,p,h=>by grind
 |x::ps,k,hb,0,p,h=>by
  rw [IV] at hb
  grind
 |x::ps,k,hb,j+1,p,h=>by
  rw [IV] at hb
  simp only [Bool.and_eq_true] at hb
  rw [List.getElem?_cons_succ] at h
  have:=Sa ps (k+1) hb.2 j p h
  rwa [show k+1+j=k+(j+1) from by omega] at this
theorem Np {l}:∀ (m:List Agent) (i:Nat),GC l i m=true→∀ (k:Nat) (a:Agent),m[k]? =some a→IV l (i+k) 0 a.ports=true
 | [],_,_,k,a,h=>by grind
 |x::m,i,hb,0,a,h=>by
  rw [GC] at hb
  grind
 |x::m,i,hb,k+1,a,h=>by
  rw [GC] at hb
  simp only [Bool.and_eq_true] at hb
  rw [List.getElem?_cons_succ] at h
  have:=Np m (i+1) hb.2 k a h
  rwa [show i+1+k=i+(k+1) from by omega] at this
structure VnN (N:Nat) (l:List Agent):Prop where
 len:1≤l.length∧l.length≤N
 ag:∀k a,at? l k=some a→agB a=true∧(a.kind=1↔k=0)
 m:M l fun _=>False
abbrev Vn:=VnN 600
theorem Net.valid_vn {n:Net} (h:n.valid=true):Vn n.agents:=by
 unfold Net.valid agentsB at h
 simp only [Bool.and_eq_true,decide_eq_true_eq] at h
 obtain⟨⟨h1,h2⟩,h3⟩:=h
 refine⟨h1,fun k a hk=>?_,fun p q hp _=>?_⟩
 ·obtain⟨k1,k2⟩:=BW hk
  grind [XH]
 ·obtain⟨a,ha,hq⟩:=AZ.1 hp
  obtain⟨k1,k2⟩:=BW ha
  obtain⟨k3,k4⟩:=BW hq
  have:=Sa _ 0 (Np _ 0 h3 _ _ k2) _ _ k4
  rw [Nat.zero_add,Nat.zero_add] at this
  grind [UL,Ce]
theorem Lb {a} (h:agB a=true):levB a.kind a.level=true:=by
 grind [agB]
theorem QC {a} (h:agB a=true):ports a.kind (if a.kind=9 then (a.ports.length:Int) - 1 else 0)=(a.ports.length:Int)∧0<a.ports.length:=by
 grind [agB]
theorem A9 {a} (h:agB a=true):1≤a.ports.length∧a.ports.length≤4:=by
 obtain⟨h1,h2⟩:=QC h
 grind [ports]
theorem Mi {a} (h:agB a=true):a.data.length≤4:=by
 grind [agB,HT]
theorem bK {a} (h:agB a=true):a.Small:=⟨by grind [A9],by grind [Mi]⟩
theorem PN {a} (h:agB a=true):1≤a.kind∧a.kind≤12:=by
 grind [Lb,levB]
theorem JD {a} (h:agB a=true):0≤a.level∧a.level≤8:=by
 have:=Lb h; unfold levB at this; simp only [Bool.and_eq_true,decide_eq_true_eq] at this
 have:=this.2
 split at this <;> simp only [decide_eq_true_eq] at this <;> omega
theorem Lc {a} (h:agB a=true):(a.kind=1∨a.kind=5∨a.kind=6∨a.kind=12→a.ports.length=1)∧(a.kind=8∨a.kind=10∨a.kind=11→a.ports.length=2)∧(a.kind=2∨a.kind=3∨a.kind=4∨a.kind=7→a.ports.length=3):=by
 grind [QC,ports]
theorem VnN.mem {N} {l} (h:VnN N l) {a} (ha:a ∈ l):agB a=true:=by
 obtain⟨i,hi,rfl⟩:=List.getElem_of_mem ha
 exact(h.ag i _ (Ie (by rw [List.getElem?_eq_getElem hi]))).1
theorem VnN.small {N} {l} (h:VnN N l):∀a ∈ l,a.Small:=fun a ha=>bK (h.mem ha)
def hiL:Int→List Agent→Int
 |m,[] =>m
 |m,a::l=>hiL (if a.level<m then m else a.level) l
theorem oI (n:Net) (hl:n.agents.length≤Big):Io n=some (hiL 0 n.agents):=by
 have loop:∀ (post pre:List Agent) (m:Int) (k:Nat),n.agents=pre++post→post.length<k→Cj k n m (pre.length:Int)=some (hiL m post):=by
  intro post
  induction post with
  |nil=>
   intro pre m k h hk
   obtain⟨k,rfl⟩:∃q,k=q+1:=⟨k - 1,by omega⟩
   rw [Cj,DL h,if_neg (by simp),hiL]
  | cons x post ih=>
   intro pre m k h hk
   rw [List.length_cons] at hk
   obtain⟨k,rfl⟩:∃q,k=q+1:=⟨k - 1,by omega⟩
   rw [Cj,if_pos (CP h),BH h,AA]
   have:Ma m x.level=some (if x.level<m then m else x.level):=by
    unfold Ma
    by_cases e:x.level<m <;> simp [e]
   rw [this,AA,Ay h hl,hiL]
   grind
 exact loop n.agents [] 0 fuel rfl (by rw [BG]; grind)
theorem VH:∀ (l:List Agent) (m c:Int),(hiL m l≤c↔m≤c∧∀a ∈ l,a.level≤c)
 | [],m,c=>by simp [hiL]
 |a::l,m,c=>by
  rw [hiL,VH l]
  grind
theorem Sb {α:Type} {pre post:List α} {x y:α}:Bm (pre++x::post) (pre.length:Int) y=some (pre++y::post):=by
 simp [Bm,SO]
theorem IW {α:Type} {pre post:List α} {x:α}:at? (pre++x::post) (pre.length:Int)=some x:=BH rfl
def lvA (lv:Int) (a:Agent):Agent:=if SZ a.kind=true then ⟨a.kind,a.level+lv,a.value,a.data,a.ports⟩ else a
def okL (lv:Int) (l:List Agent):Bool:=l.all fun a=> !SZ a.kind||decide (a.level+lv≤8)
theorem Sc (T:Net) (lv:Int) (hT:Vn T.agents) (hlv:0≤lv∧lv≤8):I5 T lv=some (if okL lv T.agents=true then (⟨T.agents.map (lvA lv)⟩,true) else (⟨[]⟩,false)):=by
 have hl:T.agents.length≤Big:=by have:=hT.len; grind
 unfold I5
 rw [Ym T hl hT.small,AA]
 have loop:∀ (post pre:List Agent) (k:Nat),T.agents=pre++post→post.length<k→DX k lv T (pre.map (lvA lv)++post) (pre.length:Int)=some (if okL lv post=true then (⟨(pre++post).map (lvA lv)⟩,true) else (⟨[]⟩,false)):=by
  intro post
  induction post with
  |nil=>
   intro pre k h hk
   obtain⟨k,rfl⟩:∃q,k=q+1:=⟨k - 1,by omega⟩
   rw [DX,DL h,if_neg (by simp)]
   simp [okL]
  |cons x post ih=>
   intro pre k h hk
   rw [List.length_cons] at hk
   obtain⟨k,rfl⟩:∃q,k=q+1:=⟨k - 1,by omega⟩
   have hx:=JD (hT.mem (a:=x) (by rw [h]; simp))
   have e1:(pre.length:Int)=((List.length (pre.map (lvA lv)):Nat):Int):=by rw [List.length_map]
   have ih':=ih (pre++[x]) k (CU h) (by omega)
   rw [List.map_append,List.map_singleton,List.append_assoc,List.singleton_append,List.append_assoc,List.singleton_append] at ih'
   rw [DX,if_pos (CP h),e1,IW,AA,Zd,AA]
   grind [Sb,IW,w64,lvA,okL]
 have:=loop T.agents [] fuel rfl (by rw [BG]; grind)
 simp_all
theorem kJ {l} {lv} (hl:∀a ∈ l,agB a=true) (hlv:0≤lv∧lv≤8):okL lv l=decide (hiL 0 l+lv≤8):=by
 have:(okL lv l=true)↔hiL 0 l+lv≤8:=by
  rw [show (hiL 0 l+lv≤8)↔(hiL 0 l≤8 - lv) from by omega,VH]
  grind [okL,Lb,SZ,levB]
 grind
def sp (off:Int) (p:Port):Port:=⟨p.agent+off,p.slot⟩
def expA (off lv:Int) (a:Agent):Agent:=⟨a.kind,(lvA lv a).level,a.value,a.data,a.ports.map (sp off)⟩
def Pin (a:Agent):Prop:=∀q ∈ a.ports,0≤q.agent∧q.agent<600
theorem Vn.pin {l} (h:Vn l):∀a ∈ l,Pin a:=fun a ha q hq=>by
 obtain⟨i,hi,rfl⟩:=List.getElem_of_mem ha
 obtain⟨j,hj,rfl⟩:=List.getElem_of_mem hq
 obtain⟨-,-,h3⟩:=h.m ⟨(i:Int),(j:Int)⟩ _ (AZ.2 ⟨l[i],Ie (by rw [List.getElem?_eq_getElem hi]),Ie (by rw [List.getElem?_eq_getElem hj])⟩) not_false
 have:=Dy h3
 have:=h.len
 omega
theorem XI (T Bn:Net) (y i lvl:Int) (a x:Agent) (acc:List Agent) (hB:Bn.agents.length≤8000000) (hB1:1≤Bn.agents.length):∀ (post pre:List Port) (n:Nat),(∀q ∈ post,0≤q.agent∧q.agent<600)→pre.length+post.length≤Big→
  Ck (post.length+1+n) T Bn y acc i lvl a x (pre.map (sp ((Bn.agents.length:Int) - 1))++post) (pre.length:Int)=(app? acc [⟨x.kind,lvl,x.value,x.data,(pre++post).map (sp ((Bn.agents.length:Int) - 1))⟩]).bind fun v=>BM n T Bn y a v (IntKind.i64.wrap (i+1)):=by
 intro post
 induction post with
 |nil=>
  intro pre n hq hb
  rw [show ([] :List Port).length +1+n=n+1 from by grind,Ck,if_neg (by simp),List.append_nil,List.append_nil]
 |cons q post ih=>
  intro pre n hq hb
  rw [List.length_cons] at hb
  have e1:(pre.length:Int)=((List.length (pre.map (sp ((Bn.agents.length:Int) - 1))):Nat):Int):=by rw [List.length_map]
  have hq0:=hq q List.mem_cons_self
  rw [show (q::post).length +1+n=(post.length+1+n)+1 from by grind,Ck,if_pos (by grind),e1,IW,AA,AA,Sb,AA,← e1,w64 (n:=(Bn.agents.length:Int) - 1) (by omega) (by omega),w64 (by omega) (by omega),w64 (by omega) (by grind)]
  have:=ih (pre++[q]) n (fun r hr=>hq r (List.mem_cons_of_mem _ hr)) (by grind)
  rw [List.map_append,List.map_singleton,List.append_assoc,List.singleton_append,List.append_assoc,List.singleton_append,List.length_append,List.length_singleton] at this
  rw [show (pre.length:Int)+1=((List.length pre+1:Nat):Int) from by omega]
  exact this
theorem XJ (a0:Rewriter) (y i:Int) (v3:Port) (v4:List Agent) (hs:List HAgent) (x:Agent) (acc:List Agent) (hB:a0.net.agents.length≤8000000) (hB1:1≤a0.net.agents.length):∀ (post pre:List Port) (n:Nat),x.ports=pre++post→(∀q ∈ post,0≤q.agent∧q.agent<600)→pre.length+post.length≤Big→
  BK (post.length+1+n) a0 y acc hs i v3 v4 x (pre.map (sp ((a0.net.agents.length:Int) - 1))++post) (pre.length:Int)=(app? acc [⟨x.kind,x.level,x.value,x.data,(pre++post).map (sp ((a0.net.agents.length:Int) - 1))⟩]).bind fun v=>Au n a0 y v3 v4 v (List.set hs (Int.toNat i) (HAgent.gone x)) (IntKind.i64.wrap (i+1)):=by
 intro post
 induction post with
 |nil=>
  intro pre n hx hq hb
  rw [show ([] :List Port).length +1+n=n+1 from by grind,BK,if_neg (by rw [hx]; simp),List.append_nil,List.append_nil]
 |cons q post ih=>
  intro pre n hx hq hb
  rw [List.length_cons] at hb
  have e1:(pre.length:Int)=((List.length (pre.map (sp ((a0.net.agents.length:Int) - 1))):Nat):Int):=by rw [List.length_map]
  have hq0:=hq q List.mem_cons_self
  rw [show (q::post).length +1+n=(post.length+1+n)+1 from by grind,BK,if_pos (by rw [hx]; grind),e1,IW,AA,AA,Sb,AA,← e1,w64 (n:=(a0.net.agents.length:Int) - 1) (by omega) (by omega),w64 (by omega) (by omega),w64 (by omega) (by grind)]
  have:=ih (pre++[q]) n (by rw [hx]; simp) (fun r hr=>hq r (List.mem_cons_of_mem _ hr)) (by grind)
  rw [List.map_append,List.map_singleton,List.append_assoc,List.singleton_append,List.append_assoc,List.singleton_append,List.length_append,List.length_singleton] at this
  rw [show (pre.length:Int)+1=((List.length pre+1:Nat):Int) from by omega]
  exact this
theorem bL (T Bn:Net) (y:Int) (a r:Agent) (v:Port) (hB:Bn.agents.length≤8000000) (hB1:1≤Bn.agents.length) (hT:∀x ∈ T.agents,agB x=true∧Pin x) (hl:T.agents.length≤600) (hr:at? T.agents 0=some r) (hv:at? r.ports 0=some v) (hva:0≤v.agent∧v.agent<600) (ha:0≤a.level∧a.level≤8):∀ (post pre acc:List Agent) (n:Nat),T.agents=pre++post→acc.length+post.length≤Big→10*post.length<n→
  BM n T Bn y a acc (pre.length:Int)=s_l11Link ⟨acc++post.map (expA ((Bn.agents.length:Int) - 1) a.level)⟩ (sp ((Bn.agents.length:Int) - 1) v) ⟨y,0⟩:=by
 intro post
 induction post with
 |nil=>
  intro pre acc n h hb hn
  obtain⟨n,rfl⟩:∃q,n=q+1:=⟨n - 1,by omega⟩
  rw [BM,DL h,if_neg (by simp),hr,AA,hv,AA,Cq,AA,Cq,AA,w64 (n:=(Bn.agents.length:Int) - 1) (by omega) (by omega),w64 (by omega) (by omega),List.map_nil,List.append_nil]
  unfold sp
  rw [show (Bn.agents.length:Int) - 1+v.agent=v.agent+((Bn.agents.length:Int) - 1) from by omega]
  cases s_l11Link ⟨acc⟩ ⟨v.agent+((Bn.agents.length:Int) - 1),v.slot⟩ ⟨y,0⟩ <;> rfl
 | cons x post ih=>
  intro pre acc n h hb hn
  rw [List.length_cons] at hb hn
  obtain⟨h1,h2⟩:=hT x (by rw [h]; simp)
  have hp4:=A9 h1
  have hd:=Mi h1
  have hxl:=JD h1
  have hlB:T.agents.length≤Big:=by grind
  obtain⟨n,rfl⟩:∃q,n=(x.ports.length+1+q)+1+1:=⟨n - x.ports.length - 3,by omega⟩
  have key:∀lvl,DQ ((x.ports.length+1+n)+1) T Bn y acc (pre.length:Int) a x lvl=(app? acc [⟨x.kind,lvl,x.value,x.data,x.ports.map (sp ((Bn.agents.length:Int) - 1))⟩]).bind fun v=>BM n T Bn y a v (IntKind.i64.wrap ((pre.length:Int)+1)):=fun lvl=>by
   rw [DQ]
   have:=XI T Bn y (pre.length:Int) lvl a x acc hB hB1 x.ports [] n h2 (by grind)
   grind
  have fin:((app? acc [expA ((Bn.agents.length:Int) - 1) a.level x]).bind fun v=>BM n T Bn y a v (IntKind.i64.wrap ((pre.length:Int)+1)))=s_l11Link ⟨acc++(x::post).map (expA ((Bn.agents.length:Int) - 1) a.level)⟩ (sp ((Bn.agents.length:Int) - 1) v) ⟨y,0⟩:=by
   rw [CQ (by grind),AA,Ay h hlB,ih (pre++[x]) (acc++[expA ((Bn.agents.length:Int) - 1) a.level x]) n (CU h) (by grind) (by omega),List.map_cons,List.append_assoc,List.singleton_append]
  rw [BM,if_pos (CP h),BH h,AA,LZ x (by grind) (by grind),AA,Ze,AA]
  grind [w64,expA,lvA]
theorem UV (lv:Int) (x:Agent):(lvA lv x).ports =x.ports∧(lvA lv x).kind =x.kind∧(lvA lv x).value =x.value∧(lvA lv x).data =x.data:=by
 unfold lvA; split <;> exact⟨rfl,rfl,rfl,rfl⟩
theorem bM (a0:Rewriter) (y:Int) (v:Port) (lv:Int) (tl:List Agent) (hB:a0.net.agents.length≤8000000) (hB1:1≤a0.net.agents.length) (hT:∀x ∈ tl,agB x=true∧Pin x) (hl:tl.length≤600) (hva:0≤v.agent∧v.agent<600):∀ (post pre acc:List Agent) (n:Nat),tl=pre++post→acc.length+post.length≤Big→10*post.length<n→
  Au n a0 y v (tl.map (lvA lv)) acc ((pre.map (lvA lv)).map HAgent.gone++(post.map (lvA lv)).map HAgent.full) (pre.length:Int)=(Ca ⟨acc++post.map (expA ((a0.net.agents.length:Int) - 1) lv)⟩ ⟨y,0⟩ (sp ((a0.net.agents.length:Int) - 1) v)).bind fun z=>some ⟨z,a0.book,a0.removed⟩:=by
 intro post
 induction post with
 |nil=>
  intro pre acc n h hb hn
  obtain⟨n,rfl⟩:∃q,n=q+1:=⟨n - 1,by omega⟩
  rw [Au,if_neg (by rw [h]; simp),w64 (n:=(a0.net.agents.length:Int) - 1) (by omega) (by omega),w64 (by omega) (by omega),List.map_nil,List.append_nil]
  rfl
 | cons x post ih=>
  intro pre acc n h hb hn
  rw [List.length_cons] at hb hn
  obtain⟨h1,h2⟩:=hT x (by rw [h]; simp)
  have hp4:=A9 h1
  obtain⟨q1,q2,q3,q4⟩:=UV lv x
  obtain⟨n,rfl⟩:∃q,n=(x.ports.length+1+q)+1:=⟨n - x.ports.length - 2,by omega⟩
  have e1:(pre.length:Int)=((List.length ((pre.map (lvA lv)).map HAgent.gone):Nat):Int):=by simp
  have hlen:pre.length<tl.length:=by rw [h]; simp
  rw [Au,if_pos (by rw [h]; grind),List.map_cons,List.map_cons,e1,IW,AA]
  have hf:HAgent.full? (HAgent.full (lvA lv x))=some (lvA lv x):=rfl
  rw [hf,AA,← e1]
  have:=XJ a0 y (pre.length:Int) v (tl.map (lvA lv)) (((pre.map (lvA lv)).map HAgent.gone)++HAgent.full (lvA lv x)::(post.map (lvA lv)).map HAgent.full) (lvA lv x) acc hB hB1 x.ports [] n (by rw [q1]; rfl) h2 (by grind)
  simp only [List.map_nil,List.nil_append,List.length_nil,Int.natCast_zero] at this
  rw [q1,this,CQ (by grind),AA,w64 (by omega) (by omega)]
  have e2:(((pre.map (lvA lv)).map HAgent.gone)++HAgent.full (lvA lv x)::(post.map (lvA lv)).map HAgent.full).set (Int.toNat (pre.length:Int)) (HAgent.gone (lvA lv x))=((pre++[x]).map (lvA lv)).map HAgent.gone++(post.map (lvA lv)).map HAgent.full:=by
   rw [Int.toNat_natCast,List.set_append_right _ _ (by simp)]
   simp
  have e3:(⟨(lvA lv x).kind,(lvA lv x).level,(lvA lv x).value,(lvA lv x).data,x.ports.map (sp ((a0.net.agents.length:Int) - 1))⟩:Agent)=expA ((a0.net.agents.length:Int) - 1) lv x:=by
   unfold expA; rw [q2,q3,q4]
  rw [e2,e3,show (pre.length:Int)+1=((List.length (pre++[x]):Nat):Int) from by simp,ih (pre++[x]) (acc++[expA ((a0.net.agents.length:Int) - 1) lv x]) n (CU h) (by grind) (by omega),List.map_cons,List.append_assoc,List.singleton_append]
theorem NS {α:Type} {l m:List α} {k:Int}:at? (l++m) k=if k<(l.length:Int) then at? l k else at? m (k - l.length):=by
 grind [at?]
theorem kK {α β:Type} {f:α→β} {l:List α} {k:Int}:at? (l.map f) k=(at? l k).map f:=by
 grind [at?]
theorem Hu {l m:List Agent} {p:Port}:Ab.get (l++m) p=if p.agent<(l.length:Int) then Ab.get l p else Ab.get m ⟨p.agent - l.length,p.slot⟩:=by
 unfold Ab.get GJ
 rw [NS]
 split <;> rfl
theorem VJ {T:List Agent} {off lv:Int} {k s:Int}:Ab.get ((T.drop 1).map (expA off lv)) ⟨k,s⟩=if 0≤k then (Ab.get T ⟨k+1,s⟩).map (sp off) else none:=by
 grind [GJ,at?,expA]
theorem iD (off lv:Int) (a:Agent):sh (expA off lv a)=(a.kind,(lvA lv a).level,a.value,a.data,a.ports.length):=by
 grind [sh,expA]
section
variable {S:Int→Prop} {X:Port→Prop} {A B:List Agent}
theorem oJ {X:Port→Prop} (hm:M A X) {T:List Agent} (hT:Vn T) {v r:Port} (hv:Ab.get T ⟨0,0⟩=some v) (lv:Int) (hA:1≤A.length) (hX:∀p,X p→p.agent<(A.length:Int)):
  M (A++(T.drop 1).map (expA ((A.length:Int) - 1) lv)) fun p=>X p∨p=sp ((A.length:Int) - 1) v:=by
 have hr1:∀s q,Ab.get T ⟨0,s⟩=some q→s=0:=fun s q h=>by
  obtain⟨a,h1,h2⟩:=AZ.1 h
  obtain⟨g1,g2⟩:=hT.ag _ _ h1
  have:=(Lc g1).1 (.inl (g2.2 rfl))
  have:=Bk h2
  grind
 have hv0:v.agent≠0:=fun e=>by
  obtain⟨-,h2,h3⟩:=hT.m _ _ hv not_false
  have e2:v=⟨0,v.slot⟩:=Ce e rfl
  grind
 have hv1:1≤v.agent:=by
  obtain⟨-,-,h3⟩:=hT.m _ _ hv not_false
  have:=Dy h3; omega
 intro p q hp hx
 rw [Hu] at hp
 by_cases hlt:p.agent<(A.length:Int)
 ·rw [if_pos hlt] at hp
  obtain⟨h1,h2,h3⟩:=hm p q hp fun h=>hx (.inl h)
  have hq:=Dy h3
  grind [Hu,sp]
 ·rw [if_neg hlt,VJ,if_pos (by omega)] at hp
  simp only [Option.map_eq_some_iff] at hp
  obtain⟨q',hq',rfl⟩:=hp
  obtain⟨-,h2,h3⟩:=hT.m _ _ hq' not_false
  have hql:=Dy h3
  have hq0:q'.agent≠0:=fun e=>by
   have e2:q'=⟨0,q'.slot⟩:=Ce e rfl
   have hs:=hr1 q'.slot _ (by rw [← e2]; exact h3)
   have e3:q'=⟨0,0⟩:=Ce e hs
   rw [e3,hv] at h3
   cases h3
   exact hx (.inr (Ce (by grind [sp]) rfl))
  refine⟨?_,fun e=>?_,?_⟩
  ·rintro (h|h)
   ·grind [sp]
   ·have e1:=congrArg Port.agent h
    have e2:=congrArg Port.slot h
    simp only [sp] at e1 e2
    have e3:q'=v:=Ce (by omega) e2
    obtain⟨-,-,h4⟩:=hT.m _ _ hv not_false
    rw [e3,h4] at h3
    grind
  ·have e1:=congrArg Port.agent e
   have e2:=congrArg Port.slot e
   simp only [sp] at e1 e2
   exact h2 (Ce (by grind) e2)
  ·have hge:¬ (sp ((A.length:Int) - 1) q').agent <(A.length:Int):=by grind [sp]
   rw [Hu,if_neg hge,VJ,if_pos (by omega)]
   simp only [sp]
   rw [show (q'.agent+((A.length:Int) - 1) - (A.length:Int)+1)=q'.agent from by omega]
   have:(⟨q'.agent,q'.slot⟩:Port)=q':=rfl
   rw [this,h3]
   simp only [Option.map_some,sp]
   grind
theorem Ok.append (h:Ok S X A B) {E:List Agent} {Y:Port→Prop} (hm:M (A++E) Y) (hs:∀p,S p.agent→Y p):Ok S Y (A++E) (B++E):=by
 refine⟨by rw [List.length_append,List.length_append,h.len],fun k hk=>?_,fun k hk=>?_,hm,hs⟩
 ·rw [NS,NS,h.len,h.ag k hk]
 ·have:=h.s_lt hk
  rw [NS,if_pos (by rw [← h.len]; omega)]; exact h.hl k hk
theorem bN (h:Ok S (fun p=>S p.agent) A B) {x y:Int} {a b:Agent} (hp:Pr S A x y a b) (ha:a.ports.length=1) {T:Net} (hT:Vn T.agents) (hlv:0≤a.level∧a.level≤8) (hok:okL a.level T.agents=true) (hA:A.length≤8000000):
  ∃A2 B2 new,(∀bk r,at? bk a.value=some T→ED ⟨⟨A⟩,bk,r⟩ x y=some ⟨⟨A2⟩,bk,r⟩)∧IK T ⟨B⟩ x y=some ⟨B2⟩∧Ok S (fun p=>S p.agent∨p.agent=x) A2 B2∧A2.map sh=A.map sh++new∧((∀n ∈ new,NB n)∧SV new)∧(new.length+1=T.agents.length∧1≤new.length)∧Fr A A2 (fun p=>S p.agent∨p.agent=x):=by
 obtain⟨h0,hne⟩:=h.start hp
 have hxl:=Bk hp.hx
 have hyl:=Bk hp.hy
 have hA1:1≤A.length:=by omega
 have hTl:=hT.len
 obtain⟨rt,hrt,-⟩:=FF (l:=T.agents) (i:=0) (by omega)
 have hr1:=(Lc (hT.ag _ _ hrt).1).1 (.inl ((hT.ag _ _ hrt).2.2 rfl))
 obtain⟨v,hv,-⟩:=FF (l:=rt.ports) (i:=0) (by omega)
 have hg:Ab.get T.agents ⟨0,0⟩=some v:=AZ.2 ⟨rt,hrt,hv⟩
 obtain⟨-,-,hv3⟩:=hT.m _ _ hg not_false
 have hvl:=Dy hv3
 have hM:=oJ (r:=v) h0.m hT hg a.level hA1 (fun p hp'=>by
  rcases hp' with hs|hs|hs
  ·exact(h.s_lt hs).2
  ·rw [A5] at hs; omega
  grind)
 have hO:=h0.append hM fun p hs=>.inl (.inl hs)
 have hv1:1≤v.agent:=by
  have hq:=hT.m _ _ hg not_false
  by_cases e:v.agent=0
  ·exfalso
   have e2:v=⟨0,v.slot⟩:=Ce e rfl
   obtain⟨a',h1,h2⟩:=AZ.1 hv3
   rw [e] at h1
   rw [hrt] at h1; cases h1
   have:=Bk h2
   grind
  ·omega
 have g1:Ab.get (A++(T.agents.drop 1).map (expA ((A.length:Int) - 1) a.level)) ⟨y,0⟩=some ⟨x,0⟩:=by
  rw [Hu,if_pos hyl.2]
  exact(h.m _ _ hp.w hp.sx).2.2
 have g2:Ab.get (A++(T.agents.drop 1).map (expA ((A.length:Int) - 1) a.level)) (sp ((A.length:Int) - 1) v)=some (sp ((A.length:Int) - 1) ⟨0,0⟩):=by
  rw [Hu,if_neg (by grind [sp]),VJ,if_pos (by grind [sp])]
  simp only [sp]
  rw [show (v.agent+((A.length:Int) - 1) - (A.length:Int)+1)=v.agent from by omega]
  have:(⟨v.agent,v.slot⟩:Port)=v:=rfl
  rw [this,hv3]; rfl
 have ngt:¬S (sp ((A.length:Int) - 1) v).agent :=fun hs=>by have:=h.s_lt hs; grind [sp]
 obtain⟨e1,e2,e3,e4,hO2⟩:=hO.link g1 g2 (fun e=>by grind [sp]) (.inl (.inr (.inr rfl))) (.inr rfl) hp.sy ngt
 refine⟨_,_,(T.agents.drop 1).map fun t=>(t.kind,(lvA a.level t).level,t.value,t.data,t.ports.length),fun bk r hbk=>?_,?_,hO2.mono' (fun p q hq=>?_) fun p hs=>.inl hs,?_,⟨fun n hn=>?_,fun n hn=>?_⟩,⟨by grind,by grind⟩,fun p q h1 h2 n1 n2=>?_⟩
 ·unfold ED
  rw [hp.hx,AA,hbk,AA,AA,Sc T a.level hT hlv,if_pos hok,AA]
  have hpe:Ct ⟨T.agents.map (lvA a.level)⟩ ⟨0,0⟩=some v:=by
   rw [PJ]
   grind [NP,AZ,kK,UV]
  have hcut:cutL (T.agents.map (lvA a.level)) 1 ((List.length (T.agents.map (lvA a.level)):Nat):Int)=some ((T.agents.drop 1).map (lvA a.level)):=by
   grind [cutL,List.map_drop,List.take_of_length_le]
  simp only
  rw [hpe,AA,hcut,AA]
  have:=bM ⟨⟨A⟩,bk,r⟩ y v a.level (T.agents.drop 1) hA hA1 (fun t ht=>⟨hT.mem (List.mem_of_mem_drop ht),hT.pin t (List.mem_of_mem_drop ht)⟩) (by grind) (by omega) (T.agents.drop 1) [] A fuel rfl (by grind) (by rw [BG]; grind)
  simp only [List.map_nil,List.nil_append,List.length_nil,Int.natCast_zero] at this
  rw [this,e1,AA]
 ·unfold IK
  rw [hp.bx h,AA]
  obtain⟨t0,tl,htl⟩:∃t0 tl,T.agents=t0::tl:=by
   cases hh:T.agents with
   |nil=>rw [hh] at hTl; grind
   |cons t0 tl=>grind
  have hd:T.agents.drop 1=tl:=by rw [htl]; rfl
  have:=bL T ⟨B⟩ y a rt v (by simp only; rw [← h.len]; exact hA) (by simp only; rw [← h.len]; omega) (fun t ht=>⟨hT.mem ht,hT.pin t ht⟩) hTl.2 hrt hv (by omega) hlv tl [t0] B fuel htl (by rw [← h.len]; rw [htl] at hTl; grind) (by rw [BG]; rw [htl] at hTl; grind)
  simp only [List.length_singleton,Int.natCast_one] at this
  rw [this,← hd,← h.len]
  exact e4
 ·have hx2:p.agent=x→p.slot=0:=fun e=>by
   have:=Bx hq (x:=sh a) (by rw [W8,List.map_append,e]; exact DW (Fy hp.hx))
   grind [sh]
  have hr:p=sp ((A.length:Int) - 1) v→(A.length:Int)≤p.agent:=fun e=>by rw [e]; grind [sp]
  constructor
  ·grind
  ·rintro (h1|h1)
   ·refine⟨.inl (.inl h1),fun e=>hp.sy (by rw [e] at h1; exact h1),fun e=>?_⟩
    grind
   ·refine⟨.inl (.inr (.inl (Ce h1 (hx2 h1)))),fun e=>hne ?_,fun e=>?_⟩
    ·rw [← h1,e]
    grind
 ·rw [W8,List.map_append,List.map_map]
  grind [List.map_congr_left,iD]
 ·obtain⟨t,ht,rfl⟩:=List.mem_map.1 hn
  have g:=hT.mem (List.mem_of_mem_drop ht)
  exact⟨Mi g,(A9 g).2,by have:=PN g; omega⟩
 ·obtain⟨t,ht,rfl⟩:=List.mem_map.1 hn
  have hm:=List.mem_of_mem_drop ht
  have g:=hT.mem hm
  have hk1:t.kind≠1:=by
   obtain⟨i,hi,e⟩:=List.getElem_of_mem ht
   rw [List.getElem_drop] at e
   rw [List.length_drop] at hi
   have:=(hT.ag ((1+i:Nat):Int) t (Ie (by rw [List.getElem?_eq_getElem (by omega),e]))).2
   omega
  refine⟨hk1,?_⟩
  have hs:(t.kind,(lvA a.level t).level,t.value,t.data,t.ports.length)=sh (lvA a.level t):=by
   unfold lvA sh; split <;> rfl
  rw [hs,eX]
  obtain⟨g1,g2,g3,g4⟩:=NQ g
  have ho:=List.all_eq_true.1 hok t hm
  grind [lvA,levB,SZ,agB,HT]
 ·have l1:=Dy h1
  have py:p≠⟨y,0⟩:=fun e=>n2 (.inr (by
   have g3:=(h.m _ _ hp.w hp.sx).2.2
   rw [e,g3] at h1
   rw [← Option.some.inj h1]))
  grind [sp,J6,Hu]
end
def BV:List Agent→Nat
 | [] =>0
 |a::l=>(if a.kind=0 then 0 else 1)+BV l
theorem QF (l m:List Agent):BV (l++m)=BV l+BV m:=by
 induction l with
 |nil=>simp [BV]
 |cons a l ih=>rw [List.cons_append,BV,BV,ih]; omega
theorem Sd (l:List Agent):BV l≤l.length:=by
 induction l with
 |nil=>simp [BV]
 |cons a l ih=>rw [BV,List.length_cons]; split <;> omega
theorem Se {l m} (h:l.map (·.kind)=m.map (·.kind)):BV l=BV m:=by
 induction l generalizing m with
 |nil=>
  simp_all
 | cons a l ih=>
  cases m with
  |nil=>cases h
  |cons b m=>
   simp only [List.map_cons,List.cons.injEq] at h
   rw [BV,BV,h.1,ih h.2]
theorem QG {l} (h:∀a ∈ l,a.kind≠0):BV l=l.length:=by
 induction l with
 |nil=>rfl
 |cons a l ih=>rw [BV,if_neg (h a List.mem_cons_self),ih fun b hb=>h b (List.mem_cons_of_mem _ hb),List.length_cons]; omega
theorem Zg (n:Net) (hl:n.agents.length≤Big):NI n=some ((BV n.agents:Nat):Int):=by
 have loop:∀ (post pre:List Agent) (k:Nat),n.agents=pre++post→post.length<k→DY k n ((BV pre:Nat):Int) (pre.length:Int)=some ((BV n.agents:Nat):Int):=by
  intro post
  induction post with
  |nil=>
   intro pre k h hk
   obtain⟨k,rfl⟩:∃q,k=q+1:=⟨k - 1,by omega⟩
   rw [DY,DL h,if_neg (by simp),h,List.append_nil]
  |cons x post ih=>
   intro pre k h hk
   rw [List.length_cons] at hk
   obtain⟨k,rfl⟩:∃q,k=q+1:=⟨k - 1,by omega⟩
   have ih':=ih (pre++[x]) k (CU h) (by omega)
   have hle:=Sd pre
   have hpl:pre.length≤Big:=by rw [h] at hl; grind
   rw [QF] at ih'
   rw [DY,if_pos (CP h),BH h,AA]
   grind [BV,w64]
 exact loop n.agents [] fuel rfl (by rw [BG]; grind)
def remM (R:List Int):List (Int × Bool):=R.map fun k=>(k,true)
theorem Kw:∀ (R:List Int) (k:Int),(J1 (remM R) k).getD false=decide (k ∈ R)
 | [],k=>by rfl
 |r::R,k=>by
  have:=Kw R k
  grind [remM,J1]
theorem XK:∀ (R:List Int) (k:Int),k ∉ R→SN (remM R) k true=remM (R++[k])
 | [],k,_=>rfl
 |r::R,k,h=>by
  have:=XK R k fun e=>h (List.mem_cons_of_mem _ e)
  grind [remM,SN]
theorem Gy (R:List Int) (k:Int) (h:k ∉ R) (hl:R.length<Big):Lm (remM R) k true=some (remM (R++[k])):=by
 unfold Lm
 rw [if_pos (by grind [remM]),XK R k h]
theorem iE (n:Net) (bk:List Net) (R:List Int) (x:Int) (h:x ∉ R) (hl:R.length<Big):BX ⟨n,bk,remM R⟩ [x] =some ⟨n,bk,remM (R++[x])⟩:=by
 unfold BX
 obtain⟨f,hf⟩:∃f,fuel=f+1+1:=⟨fuel - 2,by rw [BG]⟩
 rw [hf,A0,if_pos (by simp)]
 have:at? [x] 0=some x:=rfl
 simp only
 rw [this,AA,Gy R x h hl,AA,w64 (by omega) (by omega),A0,if_neg (by simp)]
theorem iF (n:Net) (bk:List Net) (R:List Int) (x y:Int) (hx:x ∉ R) (hy:y ∉ R) (hne:x≠y) (hl:R.length+1<Big):BX ⟨n,bk,remM R⟩ [x,y] =some ⟨n,bk,remM (R++[x] ++[y])⟩:=by
 unfold BX
 obtain⟨f,hf⟩:∃f,fuel=f+1+1+1:=⟨fuel - 3,by rw [BG]⟩
 rw [hf,A0,if_pos (by simp)]
 have h0:at? [x,y] 0=some x:=rfl
 have h1:at? [x,y] (0+1)=some y:=rfl
 simp only
 rw [h0,AA,Gy R x hx (by omega),AA,w64 (by omega) (by omega),A0,if_pos (by simp),h1,AA,Gy (R++[x]) y (by grind) (by grind),AA,w64 (by omega) (by omega),A0,if_neg (by simp)]
structure Stt (R:List Int) (A B:List Agent):Prop where
 ok:Ok (fun k=>k ∈ R) (fun p=>p.agent ∈ R) A B
 cnt:BV B+R.length=B.length
 nb:∀a ∈ A,NB (sh a)
theorem XL {R:List Int} {X Y:Port→Prop} {A B A' B':List Agent} {new:List Sh} (h:Ok (fun k=>k ∈ R) X A B) (h':Ok (fun k=>k ∈ R) Y A' B') (hs:A'.map sh=A.map sh++new):B'.map (·.kind)=B.map (·.kind)++new.map (·.1):=by
 have e:A'.map (·.kind)=A.map (·.kind)++new.map (·.1):=by
  have:=congrArg (List.map (·.1)) hs
  rw [List.map_append,List.map_map,List.map_map] at this
  exact this
 have hlA:=congrArg List.length e
 simp only [List.length_append,List.length_map] at hlA
 have l1:=h.len
 have l2:=h'.len
 apply List.ext_getElem?
 intro i
 by_cases hi:i<A'.length
 ·by_cases hr:(i:Int) ∈ R
  ·have k1:=h.hl _ hr
   have k2:=h'.hl _ hr
   have k3:=Bk k1
   rw [List.getElem?_append_left (by rw [List.length_map]; omega),List.getElem?_map,List.getElem?_map]
   obtain⟨-,k4⟩:=BW k1
   obtain⟨-,k5⟩:=BW k2
   rw [Int.toNat_natCast] at k4 k5
   rw [k4,k5]
  ·have k1:=h.ag _ hr
   have k2:=h'.ag _ hr
   unfold at? at k1 k2
   rw [if_pos (by omega),Int.toNat_natCast] at k1 k2
   rw [if_pos (by omega)] at k1 k2
   have e2:=congrArg (fun l=>l[i]?) e
   grind
 grind
theorem bO {l} {i} {a} (h:l[i]? =some a) (hk:a.kind≠0):BV (l.set i eL)+1=BV l:=by
 induction l generalizing i with
 |nil=>grind
 | cons b l ih=>
  cases i with
  |zero=>
   simp only [List.getElem?_cons_zero,Option.some.injEq] at h
   subst h
   rw [List.set_cons_zero,BV,BV,if_neg hk,if_pos (by rfl)]; omega
  |succ i=>
   rw [List.getElem?_cons_succ] at h
   rw [List.set_cons_succ,BV,BV,← ih h]; omega
theorem Ok.rem {R} {X} {A B} (h:Ok (fun k=>k ∈ R) X A B) {x} {a} (ha:at? A x=some a) (hx:x ∉ R) (hX:∀p:Port,p.agent=x→X p):
  EE ⟨B⟩ x=some ⟨B.set x.toNat eL⟩∧Ok (fun k=>k ∈ R++[x]) X A (B.set x.toNat eL)∧(a.kind≠0→BV (B.set x.toNat eL)+1=BV B):=by
 have hb:at? B x=some a:=(h.ag x hx).symm.trans ha
 refine⟨?_,⟨by rw [List.length_set]; exact h.len,fun k hk=>?_,fun k hk=>?_,h.m,fun p hp=>?_⟩,fun hk=>?_⟩
 ·unfold EE Bm SO
  rw [hb,AA,AA]; rfl
 ·have hk':k ∉ R∧k≠x:=by grind
  rw [QD hb,if_neg hk'.2]; exact h.ag k hk'.1
 ·rw [QD hb]
  rcases List.mem_append.1 hk with e|e
  ·rw [if_neg (fun e2:k=x=>hx (e2 ▸ e))]; exact h.hl k e
  grind
 ·rcases List.mem_append.1 hp with e|e
  ·exact h.sx p e
  grind
 simp_all [bO,BW]
theorem Stt.both {R:List Int} {A B:List Agent} (hst:Stt R A B) {x y:Int} {a b:Agent} (hp:Pr (fun k=>k ∈ R) A x y a b) (hne:x≠y) {new:List Sh} {A2 B2:List Agent} (d:Done (fun k=>k ∈ R) A x y new A2 B2) (hn:∀n ∈ new,NB n) (bk:List Net) (hR:R.length+1<Big):
  ∃B3 B4,EE ⟨B2⟩ x=some ⟨B3⟩∧EE ⟨B3⟩ y=some ⟨B4⟩∧BX ⟨⟨A2⟩,bk,remM R⟩ [x,y] =some ⟨⟨A2⟩,bk,remM (R++[x] ++[y])⟩∧Stt (R++[x] ++[y]) A2 B4:=by
 have nb2:∀a ∈ A2,NB (sh a):=fun a ha=>by
  have:=List.mem_map_of_mem (f:=sh) ha
  rw [d.shp] at this
  rcases List.mem_append.1 this with e|e
  ·obtain⟨c,hc,e⟩:=List.mem_map.1 e
   rw [← e]; exact hst.nb c hc
  grind
 have hx2:=DW (m:=new) (Fy hp.hx)
 have hy2:=DW (m:=new) (Fy hp.hy)
 rw [← d.shp] at hx2 hy2
 obtain⟨a',ha',-⟩:=SY hx2
 obtain⟨b',hb',-⟩:=SY hy2
 have ka:a'.kind≠0:=(nb2 a' (List.mem_of_getElem? (BW ha').2)).2.2
 have kb:b'.kind≠0:=(nb2 b' (List.mem_of_getElem? (BW hb').2)).2.2
 obtain⟨e1,o1,c1⟩:=d.ok.rem ha' hp.sx fun p hp=>.inr (.inl hp)
 obtain⟨e2,o2,c2⟩:=o1.rem hb' (by simp only [List.mem_append,List.mem_singleton,not_or]; exact⟨hp.sy,fun e=>hne e.symm⟩) fun p hp=>.inr (.inr hp)
 refine⟨_,_,e1,e2,iF _ _ R x y hp.sx hp.sy hne hR,⟨o2.len,o2.ag,o2.hl,o2.m.mono fun p=>?_,fun p hp=>hp⟩,?_,nb2⟩
 ·grind
 ·have hk:=XL hst.ok d.ok d.shp
  have l1:=congrArg List.length hk
  simp only [List.length_map,List.length_append] at l1
  have c3:BV B2=BV B+new.length:=by
   have:BV B2=BV (B++new.map fun s=>(⟨s.1,0,0,[],[]⟩:Agent)):=Se (by rw [hk,List.map_append,List.map_map]; rfl)
   rw [this,QF,QG (l:=new.map _),List.length_map]
   intro a ha
   obtain⟨s,hs,rfl⟩:=List.mem_map.1 ha
   exact(hn s hs).2.2
  have:=c1 ka
  have:=c2 kb
  have:=hst.cnt
  grind
theorem Stt.one {R:List Int} {A B:List Agent} (hst:Stt R A B) {x:Int} {a:Agent} (hx:at? A x=some a) (sx:x ∉ R) {new:List Sh} {A2 B2:List Agent} (ok:Ok (fun k=>k ∈ R) (fun p=>p.agent ∈ R∨p.agent=x) A2 B2) (hs:A2.map sh=A.map sh++new) (hn:∀n ∈ new,NB n) (bk:List Net) (hR:R.length<Big):
  ∃B3,EE ⟨B2⟩ x=some ⟨B3⟩∧BX ⟨⟨A2⟩,bk,remM R⟩ [x] =some ⟨⟨A2⟩,bk,remM (R++[x])⟩∧Stt (R++[x]) A2 B3:=by
 have nb2:∀a ∈ A2,NB (sh a):=fun a ha=>by
  have:=List.mem_map_of_mem (f:=sh) ha
  rw [hs] at this
  rcases List.mem_append.1 this with e|e
  ·obtain⟨c,hc,e⟩:=List.mem_map.1 e
   rw [← e]; exact hst.nb c hc
  grind
 have hx2:=DW (m:=new) (Fy hx)
 rw [← hs] at hx2
 obtain⟨a',ha',-⟩:=SY hx2
 have ka:a'.kind≠0:=(nb2 a' (List.mem_of_getElem? (BW ha').2)).2.2
 obtain⟨e1,o1,c1⟩:=ok.rem ha' sx fun p hp=>.inr hp
 refine⟨_,e1,iE _ _ R x sx hR,⟨o1.len,o1.ag,o1.hl,o1.m.mono fun p=>by simp,fun p hp=>hp⟩,?_,nb2⟩
 have hk:=XL hst.ok ok hs
 have l1:=congrArg List.length hk
 simp only [List.length_map,List.length_append] at l1
 have c3:BV B2=BV B+new.length:=by
  have:BV B2=BV (B++new.map fun s=>(⟨s.1,0,0,[],[]⟩:Agent)):=Se (by rw [hk,List.map_append,List.map_map]; rfl)
  rw [this,QF,QG (l:=new.map _),List.length_map]
  intro a ha
  obtain⟨s,hs,rfl⟩:=List.mem_map.1 ha
  exact(hn s hs).2.2
 have:=c1 ka
 have:=hst.cnt
 grind
theorem ik {a b} (h:pfi a b=0):kcl a b=8:=by
 grind [pfi,kcl,pcl]
theorem il {a b} (h:pfi a b=1):ru a.kind a.level b.kind b.level≠0∧pcl a b=ru a.kind a.level b.kind b.level:=by
 grind [pfi,pcl]
theorem im {a b} (h:pfi a b=2):ru b.kind b.level a.kind a.level≠0∧pcl b a=ru b.kind b.level a.kind a.level∧pcl a b=pcl b a:=by
 grind [pfi,pcl]
theorem UW (a b:Agent):pfi a b=0∨pfi a b=1∨pfi a b=2:=by
 grind [pfi]
theorem XM {a b} (h:pcl a b=pcl b a):kcl a b=kcl b a:=by
 unfold kcl
 rw [h]
 by_cases h1:Db a b=true <;> by_cases h2:Db b a=true <;> simp [h1,h2]
def Dj (bk:List Net) (c:Int) (a:Agent):Int:=
 if c=8 then 11 else if c=7 then match at? bk a.value with
  |none=>3
  |some T=>if okL a.level T.agents=true then 0 else 9
 else 0
def gnum (bk:List Net) (c:Int) (a b:Agent):Int:=
 if c=3∨c=4 then (b.ports.length:Int) - 1 else if c=6 then (if a.kind=9 then (a.ports.length:Int) - 1 else 0)
 else if c=7 then match at? bk a.value with
  |none=>0
  |some T=>(T.agents.length:Int)
 else 0
section
variable {A B:List Agent} {bk:List Net}
theorem IX {x y} {a} (ha:at? A x=some a) (ga:agB a=true) (hbk:∀T ∈ bk,Vn T.agents) (r:List (Int × Bool)) (c:Int) (hv:c=7→0≤a.value) (sw:Bool):
  Cf ⟨⟨A⟩,bk,r⟩ (c,sw) x y=some (if Dj bk c a=0 then (c,x,y,0) else (0,0,0,Dj bk c a)):=by
 unfold Cf DV Dj
 by_cases h8:c=8
 ·grind
 ·by_cases h7:c=7
  ·subst h7
   simp only [show ¬ ((7:Int)=8) from by omega,decide_false,Bool.false_eq_true,if_false,decide_true,if_true]
   have hv:=hv rfl
   rw [ha,AA]
   by_cases hlt:(bk.length:Int)≤a.value
   ·rw [if_pos (by grind),LV (by omega)]
    simp
   ·rw [if_neg (by grind)]
    obtain⟨T,hT,hm⟩:=FF (l:=bk) (i:=a.value) (by omega)
    rw [hT,AA,Sc T a.level (hbk T hm) (JD ga),AA]
    grind
  grind
theorem XN {x y} {a b} (ha:at? A x=some a) (hb:at? A y=some b) (ga:agB a=true) (gb:agB b=true) (r:List (Int × Bool)) (c:Int) (he:Dj bk c a=0):
  EA ⟨⟨A⟩,bk,r⟩ c x y=some (grow c (gnum bk c a b)):=by
 have hp:=A9 ga
 have hq:=A9 gb
 have hj:∀n,BC ⟨⟨A⟩,bk,r⟩ c n=some (grow c n):=fun n=>by
  unfold BC
  obtain⟨e,h⟩:=Yg c n
  rw [h,AA]
 grind [EA,DD,gnum,w64,Dj]
theorem XO {px py x y} {a b} (hF:Cw ⟨B⟩ px py=some (x,y)) (ha:at? B x=some a) (hb:at? B y=some b) (h2:Two a b) (ga:agB a=true) (gb:agB b=true) (hv:kcl a b=7→0≤a.value) (hbk:∀T ∈ bk,Vn T.agents):
  IJ bk ⟨B⟩ px py=some (if Dj bk (kcl a b) a=0 then (grow (kcl a b) (gnum bk (kcl a b) a b),0) else (0,Dj bk (kcl a b) a)):=by
 have hp:=A9 ga
 have hq:=A9 gb
 have hj:∀n,-1000000000000≤n∧n≤1000000000000→DF (kcl a b) n=some (grow (kcl a b) n,0):=fun n hn=>by
  unfold DF
  obtain⟨e,h⟩:=Yh (kcl a b) n hn
  rw [h,AA]
 unfold IJ Fj
 rw [hF,AA,ha,AA,hb,AA,J7 h2,AA]
 generalize kcl a b=c at*
 unfold Dj gnum
 by_cases h8:c=8
 ·grind
 ·rw [if_neg (by grind),if_neg h8]
  by_cases h3:c=3
  ·grind [w64]
  ·by_cases h4:c=4
   ·grind [w64]
   ·by_cases h6:c=6
    ·grind [CR,w64]
    ·by_cases h7:c=7
     ·subst h7
      simp only [show ¬ ((7:Int)=3) from by omega,show ¬ ((7:Int)=4) from by omega,show ¬ ((7:Int)=6) from by omega,decide_false,decide_true,Bool.false_eq_true,if_true,if_false,or_false]
      have hv:=hv rfl
      by_cases hlt:(bk.length:Int)≤a.value
      ·rw [if_pos (by grind),LV (by omega)]
       simp
      ·rw [if_neg (by grind)]
       obtain⟨T,hT,hm⟩:=FF (l:=bk) (i:=a.value) (by omega)
       have hV:=hbk T hm
       have hl:=JD ga
       have hVl:=hV.len
       have hhi:hiL 0 T.agents≤8:=(VH _ _ _).2 ⟨by omega,fun t ht=>(JD (hV.mem ht)).2⟩
       have hhi0:0≤hiL 0 T.agents:=by
        by_cases e:hiL 0 T.agents≤ -1
        ·simp_all [VH]
        ·omega
       rw [hT,AA,AA,oI T (by grind),AA,w64 (by omega) (by omega)]
       simp only
       rw [kJ (fun t ht=>hV.mem ht) hl]
       grind
     grind
end
theorem Mj (a b:Agent):let c:=ru a.kind a.level b.kind b.level
  (0≤c∧c≤7)∧(c=1→a.kind=2∧b.kind=3)∧(c=2→a.kind=4∧b.kind=4)∧(c=3→a.kind=4)∧(c=4→a.kind=5)∧(c=5→a.kind=6∧(b.kind=7∨b.kind=8))∧(c=6→(a.kind=6∧b.kind=11)∨(a.kind=9∧b.kind=10))∧(c=7→a.kind=12):=by
 intro c
 have hc:c=ru a.kind a.level b.kind b.level:=rfl
 clear_value c
 unfold ru at hc
 repeat' split at hc
 all_goals omega
structure RuInv (c:Int) (a b:Agent):Prop where
 k1:c=1→a.kind=2∧b.kind=3
 k2:c=2→a.kind=4∧b.kind=4
 k3:c=3→a.kind=4
 k4:c=4→a.kind=5
 k5:c=5→a.kind=6∧(b.kind=7∨b.kind=8)
 k6:c=6→(a.kind=6∧b.kind=11)∨(a.kind=9∧b.kind=10)
 k7:c=7→a.kind=12
structure PkInv (a:Agent):Prop where
 p1:a.kind=1∨a.kind=5∨a.kind=6∨a.kind=12→a.ports.length=1
 p2:a.kind=8∨a.kind=10∨a.kind=11→a.ports.length=2
 p3:a.kind=2∨a.kind=3∨a.kind=4∨a.kind=7→a.ports.length=3
theorem oK {a} (h:agB a=true):HT a=true:=by
 grind [agB]
theorem IR {a} (h:agB a=true):(a.kind=7→a.data.length=0)∧(a.kind=8→a.data.length=1)∧(a.kind=9→0≤a.value)∧(a.kind=11→a.data.length=2)∧(a.kind=12→0≤a.value):=by
 have h:=oK h
 grind [HT,Gi]
section
variable {R:List Int} {A B:List Agent}
structure Outc (R:List Int) (A:List Agent) (x y:Int) (R':List Int) (A' B':List Agent) (new:List Sh):Prop where
 st:Stt R' A' B'
 shp:A'.map sh=A.map sh++new
 nl:new.length≤600
 sv:SV new
 fr:∀p q,Ab.get A p=some q→Ab.get A q=some p→p.agent ∉ R'→q.agent ∉ R'→Ab.get A' p=some q
 mem:∀k,k ∈ R'↔k ∈ R∨k=x∨(k=y∧y ∈ R')
theorem Mk (hst:Stt R A B) {x y} {a b} (hp:Pr (fun k=>k ∈ R) A x y a b) (hne:x≠y) {new} {A2 B2} (d:Done (fun k=>k ∈ R) A x y new A2 B2) (hn:NBs new) (sv:SV new) (hR:R.length+1<Big) (bk:List Net) (a0:Rewriter) (h0:a0.book=bk) (c:Int) (hc:c≠7) (v:Int × Int × Int × Int) (hv:v.2.1 =x∧v.2.2.1 =y) (z:Int × Int) (hz:z=(x,y)):
  ∃B4,Ah a0 v (remM R) A2=some (0,⟨⟨A2⟩,bk,remM (R++[x] ++[y])⟩)∧Cy z c B2=some (0,⟨B4⟩)∧Outc R A x y (R++[x] ++[y]) A2 B4 new:=by
 obtain⟨B3,B4,e1,e2,e3,e4⟩:=hst.both hp hne d hn.1 bk hR
 subst h0 hz
 refine⟨B4,?_,?_,e4,d.shp,hn.2,sv,fun p q h1 h2 n1 n2=>d.fr p q h1 h2 (fun e=>n1 (by rcases e with e|e|e <;> simp [e])) (fun e=>n2 (by rcases e with e|e|e <;> simp [e])),fun k=>?_⟩
 ·unfold Ah
  rw [hv.1,hv.2,e3,AA]
 ·unfold Cy
  rw [e1,AA,if_pos (by grind),e2,AA]
 grind
theorem Zh (hst:Stt R A B) {x y} {a b} (hp:Pr (fun k=>k ∈ R) A x y a b) (ga:agB a=true) (gb:agB b=true) (kb:b.kind≠1) (c:Int) (hc:ru a.kind a.level b.kind b.level=c) (hc0:c≠0) (hno:c=6→a.kind=9→a.value<(b.data.length:Int)) (hA:A.length≤8000000) (bk:List Net) (hbk:∀T ∈ bk,Vn T.agents) (he:Dj bk c a=0):
  ∃R' A' B' new,Bc ⟨⟨A⟩,bk,remM R⟩ (c,x,y,0) (decide (c=1∨c=2))=some (0,⟨⟨A'⟩,bk,remM R'⟩)∧Gg bk ⟨B⟩ (x,y) c (decide (c=1∨c=2))=some (0,⟨B'⟩)∧Outc R A x y R' A' B' new∧((BV B':Nat):Int)=((BV B:Nat):Int)+grow c (gnum bk c a b)∧R'=(if c=7 then R++[x] else R++[x] ++[y]):=by
 have hOk:=hst.ok
 have hne:=(hOk.start hp).2
 have hRl:R.length+1<Big:=by
  have:=hst.cnt
  have:=hOk.len
  grind
 obtain⟨hcr,K⟩:(0≤c∧c≤7)∧RuInv c a b:=by
  obtain⟨h,k1,k2,k3,k4,k5,k6,k7⟩:=Mj a b
  rw [hc] at h k1 k2 k3 k4 k5 k6 k7
  exact⟨h,k1,k2,k3,k4,k5,k6,k7⟩
 have pa:PkInv a:=⟨(Lc ga).1,(Lc ga).2.1,(Lc ga).2.2⟩
 have pb:PkInv b:=⟨(Lc gb).1,(Lc gb).2.1,(Lc gb).2.2⟩
 have hp4:=A9 ga
 have hq4:=A9 gb
 have hbd:=Mi gb
 have lv:∀ {R':List Int} {A' B':List Agent} {new:List Sh},Outc R A x y R' A' B' new→((BV B':Nat):Int)=((BV B:Nat):Int)+(new.length:Int) - ((R'.length:Int) - (R.length:Int)):=fun {R' A' B' new} o=>by
  have c1:=o.st.cnt
  have c2:=hst.cnt
  have c3:=o.st.ok.len
  have c4:=hOk.len
  have c5:=LY o.shp
  rw [List.length_append,List.length_map] at c5
  omega
 have lv2:∀ {A' B':List Agent} {new:List Sh},Outc R A x y (R++[x] ++[y]) A' B' new→∀g:Int,g=(new.length:Int) - 2→((BV B':Nat):Int)=((BV B:Nat):Int)+g:=fun {A' B' new} o g hg=>by
  grind
 by_cases h12:c=1∨c=2
 ·have ha3:a.ports.length=3:=by
   rcases h12 with e|e
   ·exact pa.p3 (.inl (K.k1 e).1)
   ·exact pa.p3 (.inr (.inr (.inl (K.k2 e).1)))
  have hb3:b.ports.length=3:=by
   rcases h12 with e|e
   ·exact pb.p3 (.inr (.inl (K.k1 e).2))
   ·exact pb.p3 (.inr (.inr (.inl (K.k2 e).2)))
  obtain⟨A1,A2,B1,B2,e1,e2,f1,f2,d⟩:=iC hOk hp ha3 hb3
  obtain⟨B4,g1,g2,g3⟩:=Mk hst hp hne d (And.intro (fun n hn=>by cases hn) (by simp)) (fun n hn=>by cases hn) hRl bk ⟨⟨A⟩,bk,remM R⟩ rfl c (by omega) (c,x,y,0) ⟨rfl,rfl⟩ (x,y) rfl
  refine⟨_,A2,B4,_,?_,?_,g3,lv2 g3 _ (by rcases h12 with e|e <;> simp [grow,gnum,e]),by rw [if_neg (by omega)]⟩
  ·grind [Bc]
  simp_all [Gg,Cq]
 ·have hd:decide (c=1∨c=2)=false:=by grind
  rw [hd]
  unfold Bc Gg
  rw [if_neg (show ¬ ((false:Bool)=true) from by simp),if_neg (show ¬ ((false:Bool)=true) from by simp)]
  simp only
  by_cases h3:c=3
  ·obtain⟨A2,B2,new,e1,f1,d,hn,sv,nl⟩:=kI hOk hp ga gb (K.k3 h3) kb (pa.p3 (.inr (.inr (.inl (K.k3 h3))))) hq4.1 hq4.2 hbd (by have:=PN gb; omega) hA
   obtain⟨B4,g1,g2,g3⟩:=Mk hst hp hne d hn sv hRl bk ⟨⟨A⟩,bk,remM R⟩ rfl c (by omega) (c,x,y,0) ⟨rfl,rfl⟩ (x,y) rfl
   grind [grow,gnum]
  ·have n3:¬ (decide (c=3)=true):=by grind
   rw [if_neg n3,if_neg n3]
   by_cases h4:c=4
   ·obtain⟨A2,B2,e1,f1,d⟩:=eS hOk hp (pa.p1 (.inr (.inl (K.k4 h4)))) hq4.1 (by omega) hA ⟨⟨A⟩,bk,remM R⟩ (c,x,y,0) rfl (remM R) (x,y) rfl c
    obtain⟨B4,g1,g2,g3⟩:=Mk hst hp hne d ⟨fun n hn=>by rw [(List.mem_replicate.1 hn).2]; exact⟨by simp [Jh],by simp [Jh],by simp [Jh]⟩,by rw [List.length_replicate]; omega⟩ (fun n hn=>by rw [(List.mem_replicate.1 hn).2]; exact⟨by simp [Jh],by rfl⟩) hRl bk ⟨⟨A⟩,bk,remM R⟩ rfl c (by omega) (c,x,y,0) ⟨rfl,rfl⟩ (x,y) rfl
    refine⟨_,A2,B4,_,?_,?_,g3,lv2 g3 _ (by grind [grow,gnum]),by rw [if_neg (by omega)]⟩
    ·rw [if_pos (by grind),e1]; exact g1
    ·rw [if_pos (by grind),hp.bY hOk,AA,f1]; exact g2
   ·have n4:¬ (decide (c=4)=true):=by grind
    rw [if_neg n4,if_neg n4]
    by_cases h5:c=5
    ·obtain⟨A2,B2,new,e1,f1,d,hn,sv,nl⟩:=Yj hOk hp ga gb (K.k5 h5).1 (pa.p1 (.inr (.inr (.inl (K.k5 h5).1)))) (by
      rcases (K.k5 h5).2 with e|e
      ·exact .inl ⟨e,pb.p3 (.inr (.inr (.inr e))),(IR gb).1 e⟩
      ·exact .inr ⟨e,pb.p2 (.inl e),(IR gb).2.1 e⟩) hA
     obtain⟨B4,g1,g2,g3⟩:=Mk hst hp hne d hn sv hRl bk ⟨⟨A⟩,bk,remM R⟩ rfl c (by omega) (c,x,y,0) ⟨rfl,rfl⟩ (x,y) rfl
     grind [grow,gnum]
    ·have n5:¬ (decide (c=5)=true):=by grind
     rw [if_neg n5,if_neg n5]
     by_cases h6:c=6
     ·obtain⟨A2,B2,new,e1,f1,d,hn,sv,nl⟩:∃A2 B2 new,(∀bk r,B9 ⟨⟨A⟩,bk,r⟩ x y=some ⟨⟨A2⟩,bk,r⟩)∧Em ⟨B⟩ x y=some ⟨B2⟩∧Done (fun k=>k ∈ R) A x y new A2 B2∧NBs new∧SV new∧(new.length:Int)=gnum bk 6 a b+1:=by
       rcases K.k6 h6 with ⟨e1,e2⟩|⟨e1,e2⟩
       ·obtain⟨A2,B2,new,z1,z2,z3,z4,z5,z6⟩:=bH hOk hp gb (pa.p1 (.inr (.inr (.inl e1)))) e1 e2 (pb.p2 (.inr (.inr e2))) ((IR gb).2.2.2.1 e2) hA
        grind [gnum]
       ·obtain⟨A2,B2,new,z1,z2,z3,z4,z5,z6⟩:=eZ hOk hp gb e1 e2 (a.ports.length - 1) (by omega) (by omega) (pb.p2 (.inr (.inl e2))) hbd ((IR ga).2.2.1 e1) (hno h6 e1) hA
        grind [gnum]
      obtain⟨B4,g1,g2,g3⟩:=Mk hst hp hne d hn sv hRl bk ⟨⟨A⟩,bk,remM R⟩ rfl c (by omega) (c,x,y,0) ⟨rfl,rfl⟩ (x,y) rfl
      grind [gnum,grow]
     ·have h7:c=7:=by omega
      have n6:¬ (decide (c=6)=true):=by grind
      have p7:decide (c=7)=true:=by grind
      rw [if_neg n6,if_neg n6,if_pos p7,if_pos p7]
      unfold Dj at he
      rw [if_neg (by omega),if_pos h7] at he
      cases hT:at? bk a.value with
      |none=>rw [hT] at he; grind
      | some T=>
       rw [hT] at he
       have hok:okL a.level T.agents=true:=by
        grind
       have hm:T ∈ bk:=List.mem_of_getElem? (BW hT).2
       obtain⟨A2,B2,new,e1,f1,o,s,⟨hn,sv⟩,⟨hl,hl1⟩,hfr⟩:=bN hOk hp (pa.p1 (.inr (.inr (.inr (K.k7 h7))))) (hbk T hm) (JD ga) hok hA
       obtain⟨B3,g1,g2,g3⟩:=hst.one hp.hx hp.sx o s hn bk (by omega)
       have hO:Outc R A x y (R++[x]) A2 B3 new:=⟨g3,s,by have:=(hbk T hm).len; omega,sv,fun p q h1 h2 n1 n2=>hfr p q h1 h2 (fun e=>n1 (by grind)) (fun e=>n2 (by grind)),fun k=>by
        grind⟩
       refine⟨_,A2,B3,new,?_,?_,hO,?_,by rw [if_pos h7]⟩
       ·rw [e1 bk (remM R) hT,AA,g2,AA]
       ·rw [hp.bx hOk,AA,hT,AA,f1,AA]
        unfold Cy
        simp only
        rw [g1,AA,if_neg (by grind)]
       ·have:=lv hO
        rw [List.length_append,List.length_singleton] at this
        have hTl:=(hbk T hm).len
        grind [grow,gnum]
end
theorem Zi (c n:Int): -2≤grow c n∧grow c n≤600:=by
 grind [grow]
theorem NT {a b} (h:kcl a b≠8):Db a b=false∧Db b a=false∧kcl a b=pcl a b:=by
 grind [kcl]
section
variable {R:List Int} {A B:List Agent}
theorem step_ord (hst:Stt R A B) {px py x y} {a b} (hp:Pr (fun k=>k ∈ R) A x y a b) (ga:agB a=true) (gb:agB b=true) (h2:Two a b) (bk:List Net) (hbk:∀T ∈ bk,Vn T.agents) (hA:A.length≤8000000)
  (hF:Cw ⟨B⟩ px py=some (x,y)) (hr:kcl a b≠8→ru a.kind a.level b.kind b.level≠0∧pcl a b=ru a.kind a.level b.kind b.level)
  (hC:Ad ⟨⟨A⟩,bk,remM R⟩ ⟨px,py⟩=some (if Dj bk (kcl a b) a=0 then (kcl a b,x,y,0) else (0,0,0,Dj bk (kcl a b) a))):
  (∃e,e≠0∧Ac ⟨⟨A⟩,bk,remM R⟩ ⟨px,py⟩=some (e,⟨⟨A⟩,bk,remM R⟩)∧E0 bk ⟨B⟩ px py=some (e,⟨B⟩))∨
   (∃R' A' B' new,(kcl a b≠8∧BV B'≤600)∧Ac ⟨⟨A⟩,bk,remM R⟩ ⟨px,py⟩=some (0,⟨⟨A'⟩,bk,remM R'⟩)∧E0 bk ⟨B⟩ px py=some (0,⟨B'⟩)∧Outc R A x y R' A' B' new):=by
 have hOk:=hst.ok
 have hv:kcl a b=7→0≤a.value:=fun e=>by
  have h8:kcl a b≠8:=by omega
  obtain⟨h3,h4⟩:=hr h8
  obtain⟨-,-,h5⟩:=NT h8
  have h6:=(Mj a b).2.2.2.2.2.2.2
  grind [IR]
 have hG:=XO hF (hp.bx hOk) (hp.bY hOk) h2 ga gb hv hbk
 unfold Ac E0
 rw [hC,AA,hG,AA]
 by_cases he:Dj bk (kcl a b) a=0
 ·rw [if_pos he,if_pos he]
  have h8:kcl a b≠8:=fun e=>by rw [e] at he; grind [Dj]
  obtain⟨h3,h4⟩:=hr h8
  obtain⟨n1,n2,h5⟩:=NT h8
  have hl1:BV B≤B.length:=Sd B
  have hl2:=hst.cnt
  have hl3:=hOk.len
  have hgb:=Zi (kcl a b) (gnum bk (kcl a b) a b)
  have hcount:Cu ⟨⟨A⟩,bk,remM R⟩=some ((BV B:Nat):Int):=by
   grind [Cu,remM,w64]
  have hlive:=Zg ⟨B⟩ (by grind)
  simp only at hlive
  simp only [decide_true,Bool.not_true,Bool.false_eq_true,if_false]
  rw [hcount,AA,XN hp.hx hp.hy ga gb (remM R) (kcl a b) he,AA,hlive,AA]
  rw [w64 (by omega) (by omega)]
  by_cases h6:(600:Int)<((BV B:Nat):Int)+grow (kcl a b) (gnum bk (kcl a b) a b)
  ·rw [if_pos (by grind),if_pos (by grind)]
   simp_all
  ·have h6':¬ (decide ((600:Int)<((BV B:Nat):Int)+grow (kcl a b) (gnum bk (kcl a b) a b))=true):=by grind
   rw [if_neg h6',if_neg h6',hF,AA,hp.bx hOk,AA,hp.bY hOk,AA,J7 h2,AA]
   obtain⟨R',A',B',new,r1,r2,r3,r4⟩:=Zh hst hp ga gb h2.rb (kcl a b) (by rw [h5,h4]) (by rw [h5,h4]; exact h3) (fun e1 e2=>by
    have h7:=(Mj a b).2.2.2.2.2.2.1 (by rw [← h4,← h5,e1])
    grind [Db]) hA bk hbk he
   grind
 simp_all
theorem step (hst:Stt R A B) {px py} {a b} (hp:Pr (fun k=>k ∈ R) A px py a b) (ga:agB a=true) (gb:agB b=true) (ka:a.kind≠1) (kb:b.kind≠1) (bk:List Net) (hbk:∀T ∈ bk,Vn T.agents) (hA:A.length≤8000000):
  (∃e,e≠0∧Ac ⟨⟨A⟩,bk,remM R⟩ ⟨px,py⟩=some (e,⟨⟨A⟩,bk,remM R⟩)∧E0 bk ⟨B⟩ px py=some (e,⟨B⟩))∨
   (∃x y R' A' B' new,((x=px∧y=py)∨(x=py∧y=px))∧(kcl a b≠8∧BV B'≤600)∧Ac ⟨⟨A⟩,bk,remM R⟩ ⟨px,py⟩=some (0,⟨⟨A'⟩,bk,remM R'⟩)∧E0 bk ⟨B⟩ px py=some (0,⟨B'⟩)∧Outc R A x y R' A' B' new):=by
 have hOk:=hst.ok
 have h2:Two a b:=⟨Lb ga,Lb gb,ka,kb⟩
 obtain⟨sw,hcl,hsw⟩:=Qn (i:=px) (j:=py) hp.hx hp.hy h2
 have hFF:Cw ⟨B⟩ px py=some (if pfi a b=2 then (py,px) else (px,py)):=by
  unfold Cw
  rw [hp.bx hOk,AA,hp.bY hOk,AA,UU h2,AA]
  by_cases e:pfi a b=2 <;> simp [e]
 have hv:∀ {a b:Agent},agB a=true→kcl a b=7→pcl a b=ru a.kind a.level b.kind b.level→0≤a.value:=fun {a b} ga e h4=>by
  obtain⟨-,-,h5⟩:=NT (a:=a) (b:=b) (by omega)
  have h6:=(Mj a b).2.2.2.2.2.2.2
  grind [IR]
 by_cases h22:pfi a b=2
 ·obtain⟨q1,q2,q3⟩:=im h22
  have hk:kcl a b=kcl b a:=XM q3
  rw [if_pos h22] at hFF
  have hp':Pr (fun k=>k ∈ R) A py px b a:=⟨hp.hy,hp.hx,(hOk.m _ _ hp.w hp.sx).2.2,hp.sy,hp.sx⟩
  have hC:Ad ⟨⟨A⟩,bk,remM R⟩ ⟨px,py⟩=some (if Dj bk (kcl b a) b=0 then (kcl b a,py,px,0) else (0,0,0,Dj bk (kcl b a) b)):=by
   unfold Ad
   rw [hcl,AA,hk]
   by_cases h8:kcl a b=8
   ·have h8':kcl b a=8:=hk ▸ h8
    rw [h8']
    have e11:∀z,Dj bk 8 z=11:=fun z=>by rfl
    cases sw with
    |true=>rw [if_pos rfl,IX hp.hy gb hbk (remM R) 8 (by omega) true]
    |false=>rw [if_neg (by simp),IX hp.hx ga hbk (remM R) 8 (by omega) false,e11,e11]; simp
   ·have:=hsw h8
    rw [this,h22]
    simp only [decide_true,if_true]
    exact IX hp.hy gb hbk (remM R) (kcl b a) (fun e=>hv gb e q2) true
  rcases step_ord hst hp' gb ga h2.symm bk hbk hA hFF (fun _=>⟨q1,q2⟩) hC with h|⟨R',A',B',new,r0,r1,r2,r3⟩
  ·grind
  grind
 ·rw [if_neg h22] at hFF
  have hr:kcl a b≠8→ru a.kind a.level b.kind b.level≠0∧pcl a b=ru a.kind a.level b.kind b.level:=fun h8=>by
   grind [UW,ik,il]
  have hC:Ad ⟨⟨A⟩,bk,remM R⟩ ⟨px,py⟩=some (if Dj bk (kcl a b) a=0 then (kcl a b,px,py,0) else (0,0,0,Dj bk (kcl a b) a)):=by
   unfold Ad
   rw [hcl,AA]
   by_cases h8:kcl a b=8
   ·rw [h8]
    have e11:∀z,Dj bk 8 z=11:=fun z=>by rfl
    cases sw with
    |true=>rw [if_pos rfl,IX hp.hy gb hbk (remM R) 8 (by omega) true,e11,e11]; simp
    |false=>rw [if_neg (by simp),IX hp.hx ga hbk (remM R) 8 (by omega) false]
   ·have:=hsw h8
    rw [this]
    simp only [h22,decide_false,Bool.false_eq_true,if_false]
    exact IX hp.hx ga hbk (remM R) (kcl a b) (fun e=>hv ga e (hr h8).2) false
  grind [step_ord]
end
end Go.Proofs.YteckcjgpnegkjaaGreat.Ab
