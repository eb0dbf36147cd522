/- The abstract walk. -/
import Derived.Test.YthenkmapmnkelaaGreatDoorAbL
namespace Go.Proofs.YthenkmapmnkelaaGreatDoor.Ab
set_option linter.unusedVariables false
set_option maxHeartbeats 1000000
set_option linter.unusedSimpArgs false
open Go.RowKit
theorem Wi:∀ {p} {rows} {d},PK p rows=some d→At p (.sl rows) d
 | [],rows,d,h=>by grind [PK,At]
 | (sz,i,j)::p,rows,d,h=>by
  rw [PK] at h
  split at h
  ·rename_i q u
   split at h
   ·rename_i v
    split at h
    ·rename_i C hj
     simp only [At]
     refine⟨q,C,u,v,hj,?_⟩
     cases p with
     |nil=>grind [At]
     |cons s p=>
      split at h
      ·grind
      ·exact Wi h
      grind
    grind
   grind
  grind
open Classical in
noncomputable def Gh.tokH (γ:Gh) (n:Nat) (v:Value) (fp:List Nat) (hv:Pth→Value):Gh:= {γ with
 tl:=fun x=>γ.tl x∨x=n,tv:=fun x=>if x=n then v else γ.tv x,tf:=fun x=>if x=n then fp else γ.tf x,
 gl:=fun x g=>if x=n then g=0 else γ.gl x g,hv:=fun x g=>if x=n then hv else γ.hv x g}
theorem Gh.tokH_ext {γ} {n} {v} {fp} {hv} (hn:¬γ.tl n):Gh.Ext γ (γ.tokH n v fp hv):=
 ⟨fun _ h=>.inl h,fun x h=>by show (if x=n then _ else _)=_; rw [if_neg (fun (e:x=n)=>hn (e ▸ h))],fun _ h=>h,fun _ _=>rfl,fun _ _=>rfl,
  fun x g h k=>by show (if x=n then _ else _); rw [if_neg (fun (e:x=n)=>hn (e ▸ h))]; exact k,fun x g h k=>by show (if x=n then _ else _)=_; rw [if_neg (fun (e:x=n)=>hn (e ▸ h))],Keeps.refl _⟩
section
variable {cx:Cx} {γ:Gh} {T:Nat→Option Tok} {B:Nat→Option (List AV)} {w w':World}
theorem OSim.putTokH (hs:OSim cx γ T B w) {n} {tk} {v} {fp} {hv} (hT:T n=none) (hnl:¬γ.tl n) (h0:tk.gen=0) (hok:Ae γ.vw w tk v fp) (hn:fp.Nodup) (hf:∀g ∈ fp,Free cx γ T B g)
  (hg:∀q d,At q (.sl tk.rows) d→isSl d→hdr w v q=hv q):
  OSim cx (γ.tokH n v fp hv) (fun x=>if x=n then some tk else T x) B w:=by
 have he:=Gh.tokH_ext (v:=v) (fp:=fp) (hv:=hv) hnl
 have p:∀x,(γ.tokH n v fp hv).tf x=if x=n then fp else γ.tf x:=fun _=>rfl
 have C:∀x,(γ.tokH n v fp hv).tv x=if x=n then v else γ.tv x:=fun _=>rfl
 refine⟨hs.frm,fun x j h1 h2=>?_,fun x j h1 h2=>?_,fun x y F I J h1 h2 h3 u g hg=>?_,fun b vs h1 h2=>?_,hs.bds,fun b x vs j h1 h2 h3 u=>?_,fun x j h1 h2=>?_,hs.bfr,fun x j h1 h2=>?_,hs.beg.trans he,⟨hs.vw.k,fun x j h1 h2=>?_,hs.vw.b,hs.vw.f⟩⟩
 ·rw [p,C]
  by_cases hx:x=n
  ·simp only [if_pos hx,Option.some.injEq] at h2 ⊢; subst h2; exact hok
  ·simp only [if_neg hx] at h2 ⊢; exact hs.tok x j (h1.resolve_right hx) h2
 ·rw [p]
  by_cases hx:x=n
  ·grind
  ·simp only [if_neg hx] at h2 ⊢; exact hs.tnd x j (h1.resolve_right hx) h2
 ·rw [p] at hg ⊢
  by_cases hx:x=n
  ·have hy:y≠n:=fun e=>J (hx.trans e.symm)
   simp only [if_pos hx] at hg
   simp only [if_neg hy] at u ⊢
   exact(hf g hg).t y I (h2.resolve_right hy) u
  ·simp only [if_neg hx] at h3 hg
   by_cases hy:y=n
   ·simp only [if_pos hy]
    intro hm
    exact(hf g hm).t x F (h1.resolve_right hx) h3 hg
   ·simp only [if_neg hy] at u ⊢
    exact hs.tds x y F I J (h1.resolve_right hx) (h2.resolve_right hy) h3 u g hg
 ·obtain⟨us,h3,u⟩:=hs.box b vs h1 h2
  exact⟨us,AH.mono (Keeps.refl _) he h3,u⟩
 ·rw [p]
  by_cases hx:x=n
  ·simp only [if_pos hx]
   intro hm
   exact(hf _ hm).b b vs h1 h3 rfl
  ·simp only [if_neg hx] at u ⊢; exact hs.btd b x vs j h1 (h2.resolve_right hx) h3 u
 ·rw [p]
  by_cases hx:x=n
  ·simp only [if_pos hx]; exact fun g hg=>(hf g hg).fr
  ·simp only [if_neg hx] at h2 ⊢; exact hs.tfr x j (h1.resolve_right hx) h2
 ·by_cases hx:x=n
  ·subst hx
   have U:(if x=x then some tk else T x)=some j:=h2
   rw [if_pos rfl,Option.some.injEq] at U; subst U
   have G:∀g,(γ.tokH x v fp hv).gl x g=(g=0):=fun g=>by show (if x=x then _ else _)=_; rw [if_pos rfl]
   have Y:∀g,(γ.tokH x v fp hv).hv x g=hv:=fun g=>by show (if x=x then _ else _)=_; rw [if_pos rfl]
   refine⟨by rw [G]; exact h0,fun g hg=>by rw [G] at hg; omega,fun q r hq O=>?_⟩
   rw [C,if_pos rfl,Y]
   grind
  ·simp only [if_neg hx] at h2
   have W:=hs.hds x j (h1.resolve_right hx) h2
   have G:∀g,(γ.tokH n v fp hv).gl x g=γ.gl x g:=fun g=>by show (if x=n then _ else _)=_; rw [if_neg hx]
   have Y:∀g,(γ.tokH n v fp hv).hv x g=γ.hv x g:=fun g=>by show (if x=n then _ else _)=_; rw [if_neg hx]
   have e3:(γ.tokH n v fp hv).tv x=γ.tv x:=by rw [C,if_neg hx]
   exact⟨by rw [G]; exact W.1,fun g hg=>by rw [G] at hg; exact W.2.1 g hg,fun q r hq O=>by rw [Y,e3]; exact W.2.2 q r hq O⟩
 ·rw [p]
  by_cases hx:x=n
  ·simp only [if_pos hx]; exact fun g hg=>(hf g hg).vw
  ·simp only [if_neg hx] at h2 ⊢; exact hs.vw.t x j (h1.resolve_right hx) h2
def tset (T:Nat→Option Tok) (t:Nat) (k:Option Tok):Nat→Option Tok:=fun x=>if x=t then k else T x
theorem OSim.kill (hs:OSim cx γ T B w) (t:Nat):OSim cx γ (tset T t none) B w:=
 hs.tables (fun x tk _ h=>by grind [tset]) fun _ _ _ h=>h
theorem OSim.freed (hs:OSim cx γ T B w) {t} {tk} (htl:γ.tl t) (hT:T t=some tk):∀g ∈ γ.tf t,Free cx γ (tset T t none) B g:=by
 intro g hg
 refine⟨fun x j h1 h2=>?_,fun b vs h1 h2 e=>hs.btd b t vs tk h1 htl h2 hT (e ▸ hg),hs.tfr t tk htl hT g hg,hs.vw.t t tk htl hT g hg⟩
 unfold tset at h2
 split at h2
 ·cases h2
 ·rename_i hx
  exact hs.tds t x tk j (fun e=>hx e.symm) htl h1 hT h2 g hg
structure Carved (γ:Gh) (w:World) (n t g:Nat) (p:Pth):Prop where
 tl:γ.tl n
 gl:γ.gl n 0
 tlt:γ.tl t
 glt:γ.gl t g
 tv:hdr w (γ.tv t) p=γ.tv n
 av:γ.tv n=γ.hv t g p
 hv:∀q,γ.hv n 0 q=γ.hv t g (p++q)
theorem Carved.ext {γ γ'} {w} {n t g} {p} (he:Gh.Ext γ γ') (h:Carved γ w n t g p):Carved γ' w n t g p:=
 ⟨he.tl n h.tl,he.gl n 0 h.tl h.gl,he.tl t h.tlt,he.gl t g h.tlt h.glt,by rw [he.tv t h.tlt,he.tv n h.tl]; exact h.tv,by rw [he.tv n h.tl,he.hv t g h.tlt h.glt]; exact h.av,fun q=>by rw [he.hv n 0 h.tl h.gl,he.hv t g h.tlt h.glt]; exact h.hv q⟩
theorem OSim.carveG (hs:OSim cx γ T B w) {t n g} {p} {tk tkn} {d} (hTn:T n=none) (hnl:¬γ.tl n) (htl:γ.tl t) (hT:T t=some tk) (hg:tk.gen=g) (hp0:p≠ []) (ha:At p (.sl tk.rows) d) (hd:Hf d=some tkn.rows) (hg0:tkn.gen=0)
  (hok:∀v fp,Own (tk.vw γ.vw) w d v fp→Ae γ.vw w tkn v fp) (hne:n≠t):
  ∃γ',Gh.Ext γ γ'∧OSim cx γ' (tset (tset T t (some ⟨putR p tk.rows .gone,tk.sz,g,tk.z⟩)) n (some tkn)) B w∧Carved γ' w n t g p∧(∀x,γ'.tl x→γ.tl x∨x=n)∧(∀b,γ'.bl b→γ.bl b):=by
 have hds:isSl d:=by simp [isSl,hd]
 have hh:=hs.hds t tk htl hT
 have hhd:=hh.2.2 p d ha hds
 obtain⟨f1,f2,f3,htf,F,j⟩:=(hs.tok t tk htl hT).own.path ha
 have hgl:=hh.1
 rw [hhd] at F j
 rw [hg] at hhd F j hgl
 have hnd:=hs.tnd t tk htl hT
 rw [htf] at hnd
 have Y:(f1++f3).Nodup ∧f2.Nodup∧∀x ∈ f2,x ∉ f1++f3:=by
  rw [List.nodup_append] at hnd
  grind
 have hone:(γ.hv t g p).oneCell' =true:=F.one
 have U:=j w .gone [] (fun _ _=>rfl) (by grind [Own])
 rw [List.nil_append] at U
 have htok:=Ae.put hp0 (hs.tok t tk htl hT) ha U g
 have hs0:=hs.kill t
 have hfr:=hs.freed htl hT
 have hinv:∀q r,At q (.sl (putR p tk.rows .gone)) r→isSl r→∃r',At q (.sl tk.rows) r'∧isSl r':=fun q r O C=>by
  rw [← (Tf hp0 ha .gone).1] at O
  rcases At.put_inv ha O C with h|⟨q2,-,h⟩
  ·exact h
  ·cases q2 with
   |nil=>simp only [At] at h; subst h; cases C
   |cons s q2=>grind [At]
 have hs1:=hs0.putTok (t:=t) (tk:=⟨putR p tk.rows .gone,tk.sz,g,tk.z⟩) (v:=γ.tv t) (fp:=f1++f3) (by unfold tset; rw [if_pos rfl]) (fun _=>rfl) htok Y.1 (fun x hx=>hfr x (by rw [htf]; rcases List.mem_append.1 hx with h|h <;> simp [h])) (fun _ k hk=>by rw [← hg]; exact hh.2.1 k hk) (fun _ _ q r O C=>by
  obtain⟨r',hr',hsr⟩:=hinv q r O C
  rw [← hg]; exact hh.2.2 q r' hr' hsr)
 have hTe:(fun x=>if x=t then some (⟨putR p tk.rows .gone,tk.sz,g,tk.z⟩:Tok) else tset T t none x)=tset T t (some ⟨putR p tk.rows .gone,tk.sz,g,tk.z⟩):=by
  funext x; unfold tset; split <;> rfl
 rw [hTe] at hs1
 have u:Gh.Ext γ (γ.tok w t (γ.tv t) (f1++f3) g):=Gh.tok_ext fun _=>rfl
 generalize hγ1:γ.tok w t (γ.tv t) (f1++f3) g=γ1 at hs1 u
 have htf1:∀x,γ1.tf x=if x=t then f1++f3 else γ.tf x:=fun x=>by rw [← hγ1]; rfl
 have htl1:∀x,γ1.tl x→γ.tl x:=fun x hx=>by rw [← hγ1] at hx; rcases hx with h|h; exact h; grind
 have J:∀b,γ1.bl b→γ.bl b:=fun b hb=>by rw [← hγ1] at hb; exact hb
 have hbb1:∀b,γ1.bb b=γ.bb b:=fun b=>by rw [← hγ1]; rfl
 have hv1:γ1.hv t g=γ.hv t g:=u.hv t g htl hgl
 have I:∀x ∈ f2,Free cx γ1 (tset T t (some ⟨putR p tk.rows .gone,tk.sz,g,tk.z⟩)) B x:=fun x hx=>by
  have G:=hfr x (by rw [htf]; grind)
  refine⟨fun y tk' h1 h2=>?_,fun b vs h1 h2=>by rw [hbb1]; exact G.b b vs (J b h1) h2,G.fr,fun o=>by rw [show γ1.vw=γ.vw by rw [← hγ1]; rfl]; exact G.vw o⟩
  rw [htf1]
  by_cases hy:y=t
  ·rw [if_pos hy]; grind
  ·rw [if_neg hy]
   refine G.t y tk' (htl1 y h1) ?_
   grind
 have W:¬γ1.tl n:=fun h=>hnl (htl1 n h)
 have hs2:=hs1.putTokH (n:=n) (tk:=tkn) (v:=γ.hv t g p) (fp:=f2) (hv:=fun q=>γ.hv t g (p++q)) (by grind [tset]) W hg0 (by rw [show γ1.vw=γ.vw by rw [← hγ1]; rfl]; grind) Y.2.1 I (fun q r O C=>by
  rcases hds.cases with ⟨r0,rfl⟩|rfl
  ·simp only [Hf,Option.some.injEq] at hd
   rw [← hd] at O
   have:=hh.2.2 (p++q) r (ha.trans O) C
   rw [PP,hg,hhd] at this
   omega
  ·simp only [Hf,Option.some.injEq] at hd
   rw [← hd] at O
   cases q with
   |nil=>rw [List.append_nil]; rfl
   |cons s q=>grind [At])
 refine⟨_,u.trans (Gh.tokH_ext W),hs2,⟨.inr rfl,?_,.inl (u.tl t htl),?_,?_,?_,fun q=>?_⟩,fun x hx=>?_,fun b hb=>J b hb⟩
 ·show (if n=n then _ else _)
  rw [if_pos rfl]
 ·show (if t=n then _ else γ1.gl t g)
  rw [if_neg (fun e=>hne e.symm)]; exact u.gl t g htl hgl
 ·show hdr w (if t=n then _ else γ1.tv t) p=if n=n then _ else _
  rw [if_pos rfl,if_neg (fun e=>hne e.symm),u.tv t htl]; omega
 ·show (if n=n then _ else _)=(if t=n then _ else γ1.hv t g) p
  rw [if_pos rfl,if_neg (fun e=>hne e.symm),hv1]
 ·show (if n=n then (fun q=>γ.hv t g (p++q):Pth→Value) else γ1.hv n 0) q=(if t=n then (fun q=>γ.hv t g (p++q):Pth→Value) else γ1.hv t g) (p++q)
  rw [if_pos rfl,if_neg (fun e=>hne e.symm),hv1]
 ·rcases hx with hx|hx
  ·grind
  omega
theorem OSim.carve (hs:OSim cx γ T B w) {t n g} {p} {tk} {rows} (hTn:T n=none) (hnl:¬γ.tl n) (htl:γ.tl t) (hT:T t=some tk) (hg:tk.gen=g) (hp0:p≠ []) (hp:getP p tk.rows=some rows) (hne:n≠t):
  ∃γ',Gh.Ext γ γ'∧OSim cx γ' (tset (tset T t (some ⟨putR p tk.rows .gone,tk.sz,g,tk.z⟩)) n (some ⟨rows,none,0,tk.z⟩)) B w∧Carved γ' w n t g p∧(∀x,γ'.tl x→γ.tl x∨x=n)∧(∀b,γ'.bl b→γ.bl b):=by
 obtain⟨d,j,hd⟩:=PQ hp
 exact hs.carveG (tkn:=⟨rows,none,0,tk.z⟩) hTn hnl htl hT hg hp0 j hd rfl (fun v fp h=>TL h hd) hne
theorem OSim.uncarve (hs:OSim cx γ T B w) {t n g} {p} {tk tn} (htl:γ.tl t) (hT:T t=some tk) (hTn:T n=some tn) (hp:PK p tk.rows=some .gone) (hne:n≠t) (hzz:okZ tk.z tn=true) (hc:Carved γ w n t g p):
  ∃γ',Gh.Ext γ γ'∧OSim cx γ' (tset (tset T t (some ⟨putR p tk.rows (.sl tn.rows),tk.sz,if tn.gen=0∧tk.gen=g then g else tk.gen+tn.gen+1,tk.z⟩)) n none) B w∧(∀x,γ'.tl x→γ.tl x)∧(∀b,γ'.bl b→γ.bl b):=by
 have ha:=Wi hp
 have U:p≠ [] :=by
  grind [PK]
 have Y:=(hs.tok t tk htl hT).own
 have C:=(hs.tok n tn hc.tl hTn).own
 obtain⟨f1,f2,f3,htf,hg0,F⟩:=Y.path ha
 simp only [Own] at hg0
 obtain⟨-,rfl⟩:=hg0
 rw [List.nil_append] at htf
 have hb2:=F w (.sl tn.rows) (γ.tf n) (fun _ _=>rfl) (by rw [hc.tv]; exact Own.mono (Te hzz) C)
 have O:=Ae.put U (hs.tok t tk htl hT) ha hb2 (if tn.gen=0∧tk.gen=g then g else tk.gen+tn.gen+1)
 have hnd:=hs.tnd t tk htl hT
 have hndn:=hs.tnd n tn hc.tl hTn
 have I:=hs.tds t n tk tn (fun e=>hne e.symm) htl hc.tl hT hTn
 rw [htf] at hnd I
 have hs0:=(hs.kill t).kill n
 have hfrt:=hs.freed htl hT
 have hfrn:=hs.freed hc.tl hTn
 have hfr:∀x,x ∈ γ.tf t∨x ∈ γ.tf n→Free cx γ (tset (tset T t none) n none) B x:=fun x hx=>by
  rcases hx with hx|hx
  ·have h:=hfrt x hx
   refine⟨fun y u h1 h2=>h.t y u h1 ?_,h.b,h.fr,h.vw⟩
   grind [tset]
  ·have h:=hfrn x hx
   refine⟨fun y u h1 h2=>h.t y u h1 ?_,h.b,h.fr,h.vw⟩
   grind [tset]
 have hh:=hs.hds t tk htl hT
 have hhn:=hs.hds n tn hc.tl hTn
 have hs1:=hs0.putTok (t:=t) (tk:=⟨putR p tk.rows (.sl tn.rows),tk.sz,if tn.gen=0∧tk.gen=g then g else tk.gen+tn.gen+1,tk.z⟩) (v:=γ.tv t) (fp:=f1++(γ.tf n++f3)) (by unfold tset; rw [if_neg (fun e=>hne e.symm),if_pos rfl]) (fun _=>rfl) O ?_ ?_ ?_ ?_
 ·refine⟨γ.tok w t (γ.tv t) (f1++(γ.tf n++f3)) (if tn.gen=0∧tk.gen=g then g else tk.gen+tn.gen+1),Gh.tok_ext fun _=>rfl,?_,fun x hx=>?_,fun b hb=>hb⟩
  ·refine hs1.tables (fun x u _ h=>?_) fun _ _ _ h=>h
   grind [tset]
  ·rcases hx with h|h
   ·exact h
   grind
 ·grind
 ·grind
 ·intro _ k hk
  have:=hh.2.1 k hk
  grind
 ·intro _ j q r hq W
  have j:γ.gl t (if tn.gen=0∧tk.gen=g then g else tk.gen+tn.gen+1):=j
  show _=γ.hv t (if tn.gen=0∧tk.gen=g then g else tk.gen+tn.gen+1) q
  have G:(if tn.gen=0∧tk.gen=g then g else tk.gen+tn.gen+1)=g∧tn.gen=0∧tk.gen=g:=by
   by_cases e:tn.gen=0∧tk.gen=g
   ·grind
   ·rw [if_neg e] at j
    have:=hh.2.1 _ j
    omega
  rw [G.1]
  have J:At q (.sl (putR p tk.rows (.sl tn.rows))) r:=hq
  rw [← (Tf U ha (.sl tn.rows)).1] at J
  rcases At.put_inv ha J W with ⟨r',h,hsr⟩|⟨q2,rfl,h⟩
  ·rw [← G.2.2]; exact hh.2.2 q r' h hsr
  ·rw [PP,hc.tv,← hc.hv q2,hhn.2.2 q2 r h W,G.2.1]
end
theorem Bd {α:Type}:∀ {l:List (Nat × α)} {i:Nat} {x:α},look l i=some x→(i,x) ∈ l
 | [],i,x,h=>by cases h
 |(j,y)::l,i,x,h=>by
  rw [AJ] at h
  split at h
  ·grind
  ·exact List.mem_cons_of_mem _ (Bd h)
theorem EL {α:Type}:∀ {l:List (Nat × α)} {i:Nat} {x:α},(l.map (·.1)).Nodup →(i,x) ∈ l→look l i=some x
 | [],i,x,_,h=>by cases h
 |(j,y)::l,i,x,hn,h=>by
  rw [List.map_cons,List.nodup_cons] at hn
  rw [AJ]
  rcases List.mem_cons.1 h with h1|h1
  ·cases h1; rw [if_pos rfl]
  ·rw [if_neg (fun e=>hn.1 (List.mem_map.2 ⟨_,h1,e⟩)),EL hn.2 h1]
theorem Bp {α:Type} {l:List (Nat × α)} {i:Nat} (h:(look l i).isSome =true):∃x,look l i=some x:=Option.isSome_iff_exists.1 h
def inv (l:List (Nat × Nat)) (n:Nat):Option Nat:=look (l.map fun x=>(x.2,x.1)) n
theorem MV {c m} {l} {n}:inv ((c,m)::l) n=if n=m then some c else inv l n:=rfl
theorem Eo {l:List (Nat × Nat)} {n c:Nat} (h:inv l n=some c):(c,n) ∈ l:=by
 have:=Bd h
 grind
theorem JD {l:List (Nat × Nat)} {n c:Nat} (hn:(l.map (·.2)).Nodup) (h:(c,n) ∈ l):inv l n=some c:=by
 refine EL ?_ (List.mem_map.2 ⟨_,h,rfl⟩)
 rw [List.map_map]; exact hn
def invB (l:List (Nat × Nat × Nat)) (n:Nat):Option (Nat × Nat):=look (l.map fun x=>(x.2.1,(x.1,x.2.2))) n
theorem Vq {c m k} {l} {n}:invB ((c,m,k)::l) n=if n=m then some (c,k) else invB l n:=rfl
theorem MW {l:List (Nat × Nat × Nat)} {n c k:Nat} (h:invB l n=some (c,k)):(c,n,k) ∈ l:=by
 have:=Bd h
 grind
theorem E4 {l:List (Nat × Nat × Nat)} {n c k:Nat} (hn:(l.map (·.2.1)).Nodup) (h:(c,n,k) ∈ l):invB l n=some (c,k):=by
 refine EL ?_ (List.mem_map.2 ⟨_,h,rfl⟩)
 rw [List.map_map]; exact hn
theorem LS (s:List (Nat × Option Tok)) (n:Nat):∀l:List (Nat × Nat),look (Rd l s) n=if (inv l n).isSome =true then some none else look s n
 | [] =>rfl
 |(c,m)::l=>by
  rw [Rd,AJ,MV]
  split
  ·rfl
  ·exact LS s n l
theorem OO (s:List (Nat × Option (List AV))) (n:Nat):∀l:List (Nat × Nat × Nat),look (TB l s) n=if (invB l n).isSome =true then some none else look s n
 | [] =>rfl
 |(c,m,k)::l=>by
  rw [TB,AJ,Vq]
  split
  ·rfl
  ·exact OO s n l
def Jx (σ:St) (n:Nat):Nat:=((σ.T n).map (·.gen)).getD 0
theorem OP (σ:St) (qt:List (Nat × Tok)) (s:List (Nat × Option Tok)) (n:Nat):∀l:List (Nat × Nat),look (TC σ qt l s) n=match inv l n with
  |some c=>some ((look qt c).map fun tk=>⟨tk.rows,tk.sz,Jx σ n+tk.gen,tk.z⟩)
  |none=>look s n
 | [] =>rfl
 | (c,m)::l=>by
  rw [TC,AJ,MV]
  by_cases h:n=m
  ·subst h
   simp only [if_pos]; rfl
  ·rw [if_neg h,if_neg h]; exact OP σ qt s n l
theorem Qo (qt:List (Nat × Tok)) (s:List (Nat × Option Tok)) (n:Nat):∀l:List (Nat × Nat),look (Zm qt l s) n=match inv l n with
  |some c=>some (look qt c)
  |none=>look s n
 | [] =>rfl
 |(c,m)::l=>by
  rw [Zm,AJ,MV]
  by_cases h:n=m
  ·grind
  ·rw [if_neg h,if_neg h]; exact Qo qt s n l
theorem OQ (σ:St) (y:Way) (qb:List (Nat × List AV)) (s:List (Nat × Option (List AV))) (n:Nat):∀l:List (Nat × Nat × Nat),look (TD σ y qb l s) n=match invB l n with
  |some q=>some ((look qb q.1).bind fun vs=>(σ.B n).map fun j=>splice j q.2 (baks y vs))
  |none=>look s n
 | [] =>rfl
 |(c,m,k)::l=>by
  rw [TD,AJ,Vq]
  by_cases h:n=m
  ·grind
  ·rw [if_neg h,if_neg h]; exact OQ σ y qb s n l
theorem Qp (y:Way) (qb:List (Nat × List AV)) (s:List (Nat × Option (List AV))) (n:Nat):∀l:List (Nat × Nat),look (Zn y qb l s) n=match inv l n with
  |some c=>some ((look qb c).map (baks y))
  |none=>look s n
 | [] =>rfl
 |(c,m)::l=>by
  rw [Zn,AJ,MV]
  by_cases h:n=m
  ·grind
  ·rw [if_neg h,if_neg h]; exact Qp y qb s n l
theorem OR {rt} {σ}:∀ {l},Rc rt σ l→∀ {c} {tk},look l c=some tk→∃n,look rt c=some n∧tk.gen=0∧∃tk',σ.T n=some tk'∧tk'.rows=tk.rows∧(tk.sz=none∨tk'.sz=tk.sz)∧okZ tk.z tk'=true
 | [],_,c,tk,h=>by cases h
 |(d,x)::l,hp,c,tk,h=>by
  simp only [Rc] at hp
  rw [AJ] at h
  split at h
  ·grind
  ·exact OR hp.2 h
theorem EW {y} {σ σ0}:∀ {l},G5 y σ σ0 l→∀ {b} {vs},look l b=some vs→∃q,look y.rb b=some q∧∃ws,σ.B q.1 =some ws∧isMp ws=isMp vs∧q.2 +vs.length≤ws.length∧PasL y σ0 (Fs ws q.2 vs.length) vs
 | [],_,c,tk,h=>by cases h
 |(d,x)::l,hp,c,tk,h=>by
  simp only [G5] at hp
  rw [AJ] at h
  split at h
  ·grind
  ·exact EW hp.2 h
theorem Ae.as {V V' w} {tk tk'} {v} {fp} (hk:Keeps V V') (h1:tk'.rows=tk.rows) (h2:tk.sz=none∨tk'.sz=tk.sz) (h3:okZ tk.z tk'=true) (h:Ae V w tk' v fp):Ae V' w tk v fp:=by
 have hz:=(Te (V:=V) h3).trans (pW hk)
 obtain⟨r,z,k,q⟩:=tk
 obtain⟨j,u,C,p⟩:=tk'
 simp only at h1 h2
 subst h1
 rcases h2 with h2|h2
 ·subst h2; exact Own.mono hz h.own
 grind [Ae,Own.mono,SA.mono]
open Classical in
noncomputable def dV (w:World) (S:Nat→Prop):World:= {w with heap:=w.heap.mapIdx fun i o=>if S i then .cells #[] 0 (0,0) else o}
theorem Tg {w} {S} {k} (h:¬S k):(dV w S).heap[k]? =w.heap[k]? :=by
 unfold dV
 simp only [Array.getElem?_mapIdx,if_neg h]
 cases w.heap[k]? <;> rfl
theorem bj {w} {S} {a} (h:S a.block):(dV w S).cell? a=none:=by
 grind [World.cell?,dV]
theorem Zz {w} {S}:Keeps (dV w S) w:=.mk' fun a u j=>by
 grind [bj,Tg]
def Way.m (y:Way) (c:Nat):Nat:=(look y.rt c).getD c
def Way.mb (y:Way) (b:Nat):Nat × Nat:=(look y.rb b).getD (b,0)
def Rm (γ:Gh) (σ:St) (y:Way) (g:Nat):Prop:=∃c n tk,look y.rt c=some n∧γ.tl n∧σ.T n=some tk∧g ∈ γ.tf n
open Classical in
noncomputable def Th (γ:Gh) (y:Way) (pb:List (Nat × List AV)):List (Nat × Nat × Nat):=
 y.rb.filterMap fun x=>if γ.bl x.2.1 then some (γ.bb x.2.1,γ.bo x.2.1 +x.2.2,((look pb x.1).map List.length).getD 0) else none
theorem GF {γ} {y} {pb} {z}:z ∈ Th γ y pb↔∃b n k,(b,n,k) ∈ y.rb∧γ.bl n∧z=(γ.bb n,γ.bo n+k,((look pb b).map List.length).getD 0):=by
 grind [Th]
def Hh (γ:Gh) (σ:St) (y:Way) (g:Nat):Prop:=Rm γ σ y g∨∃b n k,(b,n,k) ∈ y.rb∧γ.bl n∧g=γ.bb n
noncomputable def view (γ:Gh) (σ:St) (y:Way) (w:World):World:=match y.md with
 |true=>γ.vw
 |false=>dV w (Hh γ σ y)
noncomputable def Gh.cee (γ:Gh) (σ:St) (y:Way) (w:World):Gh where
 tl c:=∃n,look y.rt c=some n∧γ.tl n
 tv c:=γ.tv (y.m c)
 tf c:=γ.tf (y.m c)
 bl b:=∃q,look y.rb b=some q∧γ.bl q.1
 bb b:=γ.bb (y.mb b).1
 bo b:=γ.bo (y.mb b).1 +(y.mb b).2
 gl c g:=g=0
 hv c _:=γ.hv (y.m c) (Jx σ (y.m c))
 vw:=view γ σ y w
mutual
theorem Z0 {w0} {γ} {c}:∀ {a} {v},VSim w0 γ a v→Jm c a=true→γ.tl c
 | .own t,v,h,ho=>by grind [Jm,VSim]
 | .elt t _ _ _,v,h,ho=>by grind [Jm,VSim]
 | .agg vs,v,h,ho=>by simp only [Jm] at ho; simp only [VSim] at h; obtain⟨us,-,h⟩:=h; exact IA h ho
 | .fn _ vs,v,h,ho=>by simp only [Jm] at ho; simp only [VSim] at h; obtain⟨us,-,h⟩:=h; exact IA h ho
 | .mpr _,_,_,ho=>by grind [Jm]
 | .mpc _ _,_,_,ho=>by grind [Jm]
 | .any,_,_,ho=>by grind [Jm]
 | .int _ _,_,_,ho=>by grind [Jm]
 | .bool _,_,_,ho=>by grind [Jm]
 | .str _,_,_,ho=>by grind [Jm]
 | .ro _,_,_,ho=>by grind [Jm]
 | .box _ _,_,_,ho=>by grind [Jm]
 | .rop _ _,_,_,ho=>by grind [Jm]
 | .bsl _ _ _,_,_,ho=>by grind [Jm]
 | .sub _ _ _,_,_,ho=>by grind [Jm]
 | .par _ _ _ _,_,_,ho=>by grind [Jm]
 | .els _ _ _ _ _ _,_,_,ho=>by grind [Jm]
 | .tup _,_,_,ho=>by grind [Jm]
 | .nilp,_,_,ho=>by grind [Jm]
 | .nils,_,_,ho=>by grind [Jm]
theorem IA {w0} {γ} {c}:∀ {as} {us},AH w0 γ as us→Rb c as=true→γ.tl c
 | [],_,_,ho=>by grind [Rb]
 |a::as,us,h,ho=>by
  simp only [Rb,Bool.or_eq_true] at ho
  simp only [AH] at h
  obtain⟨u,j,rfl,h1,h2⟩:=h
  rcases ho with ho|ho
  ·exact Z0 h1 ho
  ·exact IA h2 ho
end
mutual
theorem Z1 {w0} {γ} {c}:∀ {a} {v},VSim w0 γ a v→Jn c a=true→γ.bl c
 | .box b _,v,h,ho=>by grind [Jn,VSim]
 | .mpr b,v,h,ho=>by grind [Jn,VSim]
 | .mpc _ _,_,_,ho=>by grind [Jn]
 | .agg vs,v,h,ho=>by simp only [Jn] at ho; simp only [VSim] at h; obtain⟨us,-,h⟩:=h; exact Gs h ho
 | .fn _ vs,v,h,ho=>by simp only [Jn] at ho; simp only [VSim] at h; obtain⟨us,-,h⟩:=h; exact Gs h ho
 | .any,_,_,ho=>by grind [Jn]
 | .int _ _,_,_,ho=>by grind [Jn]
 | .bool _,_,_,ho=>by grind [Jn]
 | .str _,_,_,ho=>by grind [Jn]
 | .ro _,_,_,ho=>by grind [Jn]
 | .own _,_,_,ho=>by grind [Jn]
 | .elt _ _ _ _,_,_,ho=>by grind [Jn]
 | .rop _ _,_,_,ho=>by grind [Jn]
 | .bsl _ _ _,_,_,ho=>by grind [Jn]
 | .sub _ _ _,_,_,ho=>by grind [Jn]
 | .par _ _ _ _,_,_,ho=>by grind [Jn]
 | .els _ _ _ _ _ _,_,_,ho=>by grind [Jn]
 | .tup _,_,_,ho=>by grind [Jn]
 | .nilp,_,_,ho=>by grind [Jn]
 | .nils,_,_,ho=>by grind [Jn]
theorem Gs {w0} {γ} {c}:∀ {as} {us},AH w0 γ as us→PL c as=true→γ.bl c
 | [],_,_,ho=>by grind [PL]
 |a::as,us,h,ho=>by
  simp only [PL,Bool.or_eq_true] at ho
  simp only [AH] at h
  obtain⟨u,j,rfl,h1,h2⟩:=h
  rcases ho with ho|ho
  ·exact Z1 h1 ho
  ·exact Gs h2 ho
end
section
variable {cx:Cx} {γ:Gh} {σ:St} {w:World} {y:Way} {pt:List (Nat × Tok)} {pb:List (Nat × List AV)}
structure WayOk (y:Way) (σ:St) (pt:List (Nat × Tok)) (pb:List (Nat × List AV)):Prop where
 nt2:((y.rt++y.nt).map (·.2)).Nodup
 nt1:((y.rt++y.nt).map (·.1)).Nodup
 nb2:((y.rb.map (·.2.1))++y.nb.map (·.2)).Nodup
 nb1:((y.rb.map (·.1))++y.nb.map (·.1)).Nodup
 rt:∀c n,(c,n) ∈ y.rt→(look pt c).isSome =true
 rb:∀c n k,(c,n,k) ∈ y.rb→(look pb c).isSome =true
 nt:∀c n,(c,n) ∈ y.nt→look pt c=none∧look σ.t n=none
 nb:∀c n,(c,n) ∈ y.nb→look pb c=none∧look σ.b n=none
theorem WayOk.of (h:y.ok σ pt pb):WayOk y σ pt pb:=by
 obtain⟨h1,h2,h3,v,p,q,j,u,-⟩:=h
 rw [List.all_eq_true] at p q j u
 refine⟨h1,h2,h3,v,fun c n hm=>p _ hm,fun c n k hm=>q _ hm,fun c n hm=>?_,fun c n hm=>?_⟩
 ·have:=j _ hm
  simp_all
 ·have:=u _ hm
  simp_all
theorem WayOk.t2 (h:WayOk y σ pt pb):(y.rt.map (·.2)).Nodup :=by
 have:=h.nt2
 rw [List.map_append] at this
 grind
theorem WayOk.t1 (h:WayOk y σ pt pb):(y.rt.map (·.1)).Nodup :=by
 have:=h.nt1
 rw [List.map_append] at this
 grind
theorem WayOk.b2 (h:WayOk y σ pt pb):(y.rb.map (·.2.1)).Nodup :=(List.nodup_append.1 h.nb2).1
theorem WayOk.b1 (h:WayOk y σ pt pb):(y.rb.map (·.1)).Nodup :=(List.nodup_append.1 h.nb1).1
theorem Z2 {c n} (h:look y.rt c=some n):y.m c=n:=by simp [Way.m,h]
theorem Ti {b} {q} (h:look y.rb b=some q):y.mb b=q:=by simp [Way.mb,h]
theorem WayOk.tlook (h:WayOk y σ pt pb) {c n:Nat}:look y.rt c=some n↔(c,n) ∈ y.rt:=⟨Bd,EL h.t1⟩
theorem WayOk.blook (h:WayOk y σ pt pb) {b n k:Nat}:look y.rb b=some (n,k)↔(b,n,k) ∈ y.rb:=⟨Bd,EL h.b1⟩
theorem lentS_fr (hs:OSim cx γ σ.T σ.B w) (ho:WayOk y σ pt pb) (hpb:G5 y σ (σ.less y) pb) {g:Nat} (h:Hh γ σ y g):cx.we.heap.size≤g∨cx.LF g∨∃x ∈ cx.L,x.1 =g:=by
 rcases h with ⟨c,n,tk,h1,h2,h3,h4⟩|⟨b,n,k,h1,h2,rfl⟩
 ·rcases hs.tfr n tk h2 h3 g h4 with h|h
  ·omega
  grind
 ·obtain⟨vs,p⟩:=Bp (ho.rb b n k h1)
  obtain⟨q,u,v,j,-⟩:=EW hpb p
  rw [ho.blook.2 h1] at u; cases u
  rcases hs.bfr n v h2 j with h|⟨-,x,hx,h,-⟩
  ·omega
  grind
theorem YJ (hs:OSim cx γ σ.T σ.B w) (ho:WayOk y σ pt pb) (hpb:G5 y σ (σ.less y) pb) {g:Nat} (h:Hh γ σ y g):g<w.heap.size:=by
 rcases h with ⟨c,n,tk,h1,h2,h3,h4⟩|⟨b,n,k,h1,h2,rfl⟩
 ·exact(hs.tok n tk h2 h3).lt g h4
 ·obtain⟨vs,p⟩:=Bp (ho.rb b n k h1)
  obtain⟨q,u,v,j,-⟩:=EW hpb p
  rw [ho.blook.2 h1] at u; cases u
  obtain⟨us,-,h3⟩:=hs.box n v h2 j
  exact h3.lt
theorem Wj {t} {tk} (h:(σ.less y).T t=some tk):σ.T t=some tk∧inv y.rt t=none:=by
 have j:(look (Rd y.rt σ.t) t).join =some tk:=h
 rw [LS] at j
 split at j
 ·cases j
 ·rename_i p
  exact⟨j,by simp_all⟩
theorem gA {t} {vs} (h:(σ.less y).B t=some vs):σ.B t=some vs∧invB y.rb t=none:=by
 have j:(look (TB y.rb σ.b) t).join =some vs:=h
 rw [OO] at j
 split at j
 ·cases j
 ·rename_i p
  exact⟨j,by simp_all⟩
theorem PT (hs:OSim cx γ σ.T σ.B w) (ho:WayOk y σ pt pb) (hpb:G5 y σ (σ.less y) pb) {t:Nat} {tk:Tok} (htl:γ.tl t) (j:(σ.less y).T t=some tk):∀g ∈ γ.tf t,¬Hh γ σ y g:=by
 obtain⟨j,F⟩:=Wj j
 intro g hg h
 rcases h with ⟨c,n,tk',h1,h2,h3,h4⟩|⟨b,n,k,h1,h2,rfl⟩
 ·have v:n≠t:=by
   rintro rfl
   rw [JD ho.t2 (ho.tlook.1 h1)] at F; cases F
  exact hs.tds n t tk' tk v h2 htl h3 j g h4 hg
 ·obtain⟨vs,u⟩:=Bp (ho.rb b n k h1)
  obtain⟨q,C,G,p,-⟩:=EW hpb u
  rw [ho.blook.2 h1] at C; cases C
  exact hs.btd n t G tk h2 htl p j hg
theorem YK (hs:OSim cx γ σ.T σ.B w) (ho:WayOk y σ pt pb) (hpb:G5 y σ (σ.less y) pb) {t:Nat} {us:List AV} (hbl:γ.bl t) (j:(σ.less y).B t=some us):¬Hh γ σ y (γ.bb t):=by
 obtain⟨j,F⟩:=gA j
 intro h
 rcases h with ⟨c,n,tk',h1,h2,h3,h4⟩|⟨b,n,k,h1,h2,he⟩
 ·exact hs.btd t n us tk' hbl h2 j h3 h4
 ·obtain⟨vs,u⟩:=Bp (ho.rb b n k h1)
  obtain⟨q,C,G,p,-⟩:=EW hpb u
  rw [ho.blook.2 h1] at C; cases C
  have v:t≠n:=by
   rintro rfl
   rw [E4 ho.b2 h1] at F; cases F
  exact hs.bds t n us G v hbl h2 j p he
theorem Tj (hs:OSim cx γ σ.T σ.B w):Keeps (view γ σ y w) w:=by
 unfold view
 split
 ·exact hs.vw.k
 ·exact Zz
theorem PU (hs:OSim cx γ σ.T σ.B w) (ho:WayOk y σ pt pb) (hpb:G5 y σ (σ.less y) pb) {g:Nat} (h:Hh γ σ y g) (o:Nat):γ.vw.cell? ⟨g,o,none⟩=none:=by
 rcases h with ⟨c,n,tk,h1,h2,h3,h4⟩|⟨b,n,k,h1,h2,rfl⟩
 ·exact hs.vw.t n tk h2 h3 g h4 o
 ·obtain⟨vs,p⟩:=Bp (ho.rb b n k h1)
  obtain⟨q,u,v,j,-⟩:=EW hpb p
  rw [ho.blook.2 h1] at u; cases u
  exact hs.vw.b n v h2 j o
theorem bn (hs:OSim cx γ σ.T σ.B w) (ho:WayOk y σ pt pb) (hpb:G5 y σ (σ.less y) pb):Keeps γ.vw (view γ σ y w):=by
 unfold view
 split
 ·exact Keeps.refl _
 ·refine hs.vw.k.on fun a u j=>Tg fun h=>?_
  rw [KS j,PU hs ho hpb h] at j
  cases j
theorem gB (hm:y.md=false) {g o} (h:Hh γ σ y g):(view γ σ y w).cell? ⟨g,o,none⟩=none:=by
 grind [view,bj]
theorem Wl (hs:OSim cx γ σ.T σ.B w) (ho:WayOk y σ pt pb) (hpb:G5 y σ (σ.less y) pb) {g o} (h:Hh γ σ y g):(view γ σ y w).cell? ⟨g,o,none⟩=none:=by
 grind [gB,view,PU]
theorem ja (hs:OSim cx γ σ.T σ.B w) (ho:WayOk y σ pt pb) (hpb:G5 y σ (σ.less y) pb) (hm:y.md=false):VwOk γ.vw γ (σ.less y).T (σ.less y).B (view γ σ y w):=by
 have j:∀g,¬Hh γ σ y g→(view γ σ y w).heap[g]? =w.heap[g]? :=fun g hg=>by
  grind [view,Tg]
 refine⟨bn hs ho hpb,fun t tk h1 h2=>?_,fun b vs h1 h2=>?_,fun t tk h1 h2=>?_⟩
 ·exact(hs.tok t tk h1 (Wj h2).1).keep fun g hg=>j g (PT hs ho hpb h1 h2 g hg)
 ·obtain⟨us,h3,p⟩:=hs.box b vs h1 (gA h2).1
  exact⟨us,h3,p.keep (j _ (YK hs ho hpb h1 h2))⟩
 ·exact(hs.hds t tk h1 (Wj h2).1).keep (hs.tok t tk h1 (Wj h2).1).own fun g hg=>j g (PT hs ho hpb h1 h2 g hg)
theorem Wm (hs:OSim cx γ σ.T σ.B w) (ho:WayOk y σ pt pb) (hpb:G5 y σ (σ.less y) pb) {a a'} {u} (h:cl (if y.md then fun _=>none else (σ.less y).T) (if y.md then fun _=>none else (σ.less y).B) a=some a') (hv:VSim γ.vw γ a u):VSim (view γ σ y w) (γ.cee σ y w) a' u:=by
 by_cases hm:y.md=true
 ·simp only [hm,if_true] at h
  have p:VwOk γ.vw γ (fun _=>none) (fun _=>none) γ.vw:=⟨Keeps.refl _,by simp,by simp,by simp⟩
  have:=JA p hv h
  unfold view
  rw [hm]
  exact VSim.mono (Keeps.refl _) (JB _) this
 ·have j:y.md=false:=by grind
  simp only [j] at h
  have:=JA (ja hs ho hpb j) hv h
  exact VSim.mono (Keeps.refl _) (JB _) this
mutual
theorem dW (hs:OSim cx γ σ.T σ.B w) (ho:WayOk y σ pt pb) (hpb:G5 y σ (σ.less y) pb) (hcv:∀n a z,look y.cv n=some (a,z)→∀u,VSim γ.vw γ a u→VSim γ.vw γ (.own n) u):
  ∀ {a G} {u},E2 y (σ.less y) a G→VSim γ.vw γ a u→VSim (view γ σ y w) (γ.cee σ y w) G u:=by
 intro a G u h hv
 cases G with
 | own c=>
  have j:∃n,look y.rt c=some n∧(a= .own n∨∃z,look y.cv n=some (a,z)):=by cases a <;> simpa only [E2] using h
  obtain⟨n,F,j⟩:=j
  have p:VSim γ.vw γ (.own n) u:=by
   grind
  simp only [VSim] at p ⊢
  have e:(γ.cee σ y w).tv c=γ.tv n:=by show γ.tv (y.m c)=_; rw [Z2 F]
  rw [e]
  exact⟨⟨⟨n,F,p.1.1⟩,p.1.2⟩,p.2⟩
 |box b off=>
  have j:∃q,look y.rb b=some q∧a= .box q.1 (q.2 +off):=by cases a <;> simpa only [E2] using h
  obtain⟨q,v,rfl⟩:=j
  simp only [VSim] at hv ⊢
  have I:(γ.cee σ y w).bb b=γ.bb q.1 :=by show γ.bb (y.mb b).1 =_; rw [Ti v]
  have Y:(γ.cee σ y w).bo b=γ.bo q.1 +q.2 :=by show γ.bo (y.mb b).1 +(y.mb b).2 =_; rw [Ti v]
  rw [I,Y]
  exact⟨⟨q,v,hv.1⟩,by rw [hv.2,Nat.add_assoc]⟩
 |mpr b=>
  have j:∃q,look y.rb b=some q∧a= .mpr q.1 :=by cases a <;> simpa only [E2] using h
  obtain⟨q,v,rfl⟩:=j
  simp only [VSim] at hv ⊢
  have I:(γ.cee σ y w).bb b=γ.bb q.1 :=by show γ.bb (y.mb b).1 =_; rw [Ti v]
  rw [I]
  exact⟨⟨q,v,hv.1⟩,hv.2⟩
 |elt c sz i off=>
  have j:∃n,look y.rt c=some n∧a= .elt n sz i off:=by cases a <;> simpa only [E2] using h
  obtain⟨n,F,rfl⟩:=j
  simp only [VSim] at hv ⊢
  have e:(γ.cee σ y w).tv c=γ.tv n:=by show γ.tv (y.m c)=_; rw [Z2 F]
  rw [e]
  exact⟨⟨n,F,hv.1⟩,hv.2⟩
 | agg vs'=>
  cases a with
  |agg vs=>
   simp only [E2] at h
   simp only [VSim] at hv ⊢
   obtain⟨us,rfl,hv⟩:=hv
   exact⟨us,rfl,JE hs ho hpb hcv h hv⟩
  |_=>simp only [E2] at h; exact Wm hs ho hpb h hv
 | fn f' vs'=>
  cases a with
  |fn f vs=>
   simp only [E2] at h
   obtain⟨rfl,h⟩:=h
   simp only [VSim] at hv ⊢
   obtain⟨us,U,hv⟩:=hv
   exact⟨us,U,JE hs ho hpb hcv h hv⟩
  |_=>simp only [E2] at h; exact Wm hs ho hpb h hv
 | rop vs' off'=>
  have j:narR (cl (if y.md then fun _=>none else (σ.less y).T) (if y.md then fun _=>none else (σ.less y).B) a) vs' off':=by cases a <;> simpa only [E2] using h
  unfold narR at j
  split at j
  ·rename_i us O hc
   have C:=Wm hs ho hpb hc hv
   rcases j with ⟨rfl,rfl⟩|⟨rfl,j⟩
   ·omega
   ·simp only [VSim] at C ⊢
    obtain⟨b,o,W,rfl,h3,v,h4⟩:=C
    refine⟨b,o+O,(W.drop O).take vs'.length,rfl,?_,fun e=>v ?_,?_⟩
    ·have:=h3.take_drop O vs'.length
     rw [j] at this
     omega
    ·rw [AV.pts,List.any_eq_true] at e ⊢
     obtain⟨x,hx,J⟩:=e
     rw [← j] at hx
     exact⟨x,List.mem_of_mem_drop (List.mem_of_mem_take hx),J⟩
    grind
  grind
 |_=>exact Wm hs ho hpb (by cases a <;> simpa only [E2] using h) hv
theorem JE (hs:OSim cx γ σ.T σ.B w) (ho:WayOk y σ pt pb) (hpb:G5 y σ (σ.less y) pb) (hcv:∀n a z,look y.cv n=some (a,z)→∀u,VSim γ.vw γ a u→VSim γ.vw γ (.own n) u):
  ∀ {as j} {us},PasL y (σ.less y) as j→AH γ.vw γ as us→AH (view γ σ y w) (γ.cee σ y w) j us:=by
 intro as j us h hv
 cases as with
 |nil=>
  grind [AH,PasL]
 | cons a as=>
  cases j with
  |nil=>grind [PasL]
  |cons a' j=>
   simp only [PasL] at h
   simp only [AH] at hv ⊢
   obtain⟨u,p,rfl,h1,h2⟩:=hv
   exact⟨u,p,rfl,dW hs ho hpb hcv h.1 h1,JE hs ho hpb hcv h.2 h2⟩
end
end
section
variable {cx:Cx} {γ:Gh} {σ:St} {w:World} {y:Way} {pt:List (Nat × Tok)} {pb:List (Nat × List AV)}
theorem Hl.of_bx {w} {vs} {base} {us} {x} (h:Fw w vs x.1 base us):Hl w w x:=by
 by_cases hm:isMp vs=true
 ·obtain⟨-,j,k,h1,-⟩:=h.map hm
  exact .inr ⟨j,k,j,k,h1,h1⟩
 ·obtain⟨cs,e,h1,-⟩:=h.cells (by grind)
  exact .inl ⟨cs,cs,e,h1,h1,rfl,fun _ _=>rfl⟩
theorem dX (hs:OSim cx γ σ.T σ.B w) (hp2:∀c,(look pb c).isSome =true→c<1000) (ho:WayOk y σ pt pb) (hpt:Rc y.rt σ pt) (hpb:G5 y σ (σ.less y) pb) (hcv:∀n a z,look y.cv n=some (a,z)→∀u,VSim γ.vw γ a u→VSim γ.vw γ (.own n) u):
  ∃cxc:Cx,cxc.P=cx.P∧cxc.we=w∧cxc.w0=view γ σ y w∧cxc.L=Th γ y pb∧cxc.LF=Rm γ σ y∧cxc.g0=(γ.cee σ y w).pin ∧OSim cxc (γ.cee σ y w) (look pt) (look pb) w:=by
 have hS:∀g,(Rm γ σ y g∨∃x ∈ Th γ y pb,x.1 =g)→Hh γ σ y g:=fun g h=>by
  rcases h with h|⟨x,hx,rfl⟩
  ·exact .inl h
  ·obtain⟨b,n,k,h1,h2,rfl⟩:=GF.1 hx
   exact .inr ⟨b,n,k,h1,h2,rfl⟩
 have hlow:∀g,(Rm γ σ y g∨∃x ∈ Th γ y pb,x.1 =g)→cx.P.low≤g:=fun g h=>by
  rcases lentS_fr hs ho hpb (hS g h) with h|h
  ·exact Nat.le_trans cx.lowe h
  ·exact cx.low g h
 refine⟨⟨cx.P,w,view γ σ y w,Th γ y pb,Rm γ σ y,Tj hs,fun g o h=>Wl hs ho hpb (hS g h),hlow,Nat.le_trans cx.lowe hs.frm.size,Zj hs,(γ.cee σ y w).pin,rfl,fun t ht=>ht.2,fun b hb=>hb.2⟩,rfl,rfl,rfl,rfl,rfl,rfl,?_⟩
 have G:∀ {c n},look y.rt c=some n→(γ.cee σ y w).tv c=γ.tv n∧(γ.cee σ y w).tf c=γ.tf n:=fun h=>⟨by show γ.tv (y.m _)=_; rw [Z2 h],by show γ.tf (y.m _)=_; rw [Z2 h]⟩
 have O:∀ {b q},look y.rb b=some q→(γ.cee σ y w).bb b=γ.bb q.1 ∧(γ.cee σ y w).bo b=γ.bo q.1 +q.2 :=fun h=>⟨by show γ.bb (y.mb _).1 =_; rw [Ti h],by show γ.bo (y.mb _).1 +(y.mb _).2 =_; rw [Ti h]⟩
 have U:∀ {c tk},(γ.cee σ y w).tl c→look pt c=some tk→∃n J,look y.rt c=some n∧γ.tl n∧tk.gen=0∧σ.T n=some J∧J.rows=tk.rows∧(tk.sz=none∨J.sz=tk.sz)∧okZ tk.z J=true:=fun {c tk} h1 h2=>by
  obtain⟨n,F,p⟩:=h1
  grind [OR]
 have Y:∀ {b vs},(γ.cee σ y w).bl b→look pb b=some vs→∃q C,look y.rb b=some q∧γ.bl q.1 ∧σ.B q.1 =some C∧isMp C=isMp vs∧q.2 +vs.length≤C.length∧PasL y (σ.less y) (Fs C q.2 vs.length) vs:=fun {b vs} h1 h2=>by
  obtain⟨q,I,p⟩:=h1
  grind [EW]
 have rb_:∀ {b n k},(b,n,k) ∈ y.rb→∃vs C,look pb b=some vs∧σ.B n=some C∧k+vs.length≤C.length:=fun {b n k} h=>by
  obtain⟨vs,hvs⟩:=Bp (ho.rb b n k h)
  obtain⟨q,I,C,hws,hmp,hle,-⟩:=EW hpb hvs
  rw [ho.blook.2 h] at I; grind
 refine⟨⟨hs.frm.sh,rfl,rfl,rfl,Nat.le_refl _,fun _ _ _ _=>rfl,fun x hx=>?_⟩,fun c tk h1 h2=>?_,fun c tk h1 h2=>?_,fun c c' tk J hne h1 h1' h2 h2' g hg=>?_,fun b vs h1 h2=>?_,fun b b' vs vs' hne h1 h1' h2 h2'=>?_,fun b c vs tk h1 h1' h2 h2'=>?_,fun c tk h1 h2 g hg=>?_,fun b vs h1 h2=>?_,fun c tk h1 h2=>?_,Gh.pin_ext _,⟨Tj hs,fun c tk h1 h2 g hg o=>?_,fun b vs h1 h2 o=>?_,fun a u h=>.inl h⟩⟩
 ·obtain⟨b,n,k,h1,h2,rfl⟩:=GF.1 hx
  obtain⟨vs,C,-,hws,-⟩:=rb_ h1
  obtain⟨us,-,h3⟩:=hs.box n C h2 hws
  exact Hl.of_bx h3
 ·obtain⟨n,J,F,p,-,W,hr,hz,hzz⟩:=U h1 h2
  rw [(G F).1,(G F).2]
  exact(hs.tok n J p W).as (bn hs ho hpb) hr hz hzz
 ·obtain⟨n,J,F,p,-,W,-⟩:=U h1 h2
  rw [(G F).2]; exact hs.tnd n J p W
 ·obtain⟨n,v,F,p,-,W,-⟩:=U h1 h2
  obtain⟨n',tk2,hn',hl',-,hT',-⟩:=U h1' h2'
  rw [(G F).2] at hg
  rw [(G hn').2]
  refine hs.tds n n' v tk2 ?_ p hl' W hT' g hg
  rintro rfl
  have k1:=JD ho.t2 (ho.tlook.1 F)
  rw [JD ho.t2 (ho.tlook.1 hn')] at k1
  grind
 ·obtain⟨q,C,I,p,hB,hmp,hle,hp⟩:=Y h1 h2
  obtain⟨us,h3,h4'⟩:=hs.box q.1 C p hB
  have hul:=h3.length
  have h6:=JE hs ho hpb hcv hp (h3.take_drop q.2 vs.length)
  refine⟨_,h6,?_⟩
  rw [(O I).1,(O I).2]
  by_cases hwm:isMp C=true
  ·obtain⟨q1,r1,e1⟩:=MM hwm
   obtain⟨q2,r2,e2⟩:=MM (hmp ▸ hwm)
   rw [e1,e2] at hle
   simp only [List.length_cons,List.length_nil] at hle
   have hq0:q.2 =0:=by omega
   have hvl:vs.length=1:=by rw [e2]; rfl
   have hul1:us.length=1:=by rw [hul,e1]; rfl
   rw [hq0,hvl,List.drop_zero,List.take_of_length_le (by omega),Nat.add_zero]
   exact h4'.as hmp.symm
  have hwm':isMp C=false:=by grind
  obtain⟨cs,e,h4,h5⟩:=h4'.cells hwm'
  refine Fw.of ⟨cs,e,h4,fun j hj=>?_⟩ (hmp.symm.trans hwm')
  rw [List.length_take,List.length_drop] at hj
  rw [List.getElem?_take_of_lt (by omega),List.getElem?_drop,Nat.add_assoc]
  grind
 ·obtain⟨q,C,I,p,hB,-⟩:=Y h1 h2
  obtain⟨q',ws',hq',hl',hB',-⟩:=Y h1' h2'
  rw [(O I).1,(O hq').1]
  refine hs.bds q.1 q'.1 C ws' ?_ p hl' hB hB'
  intro e
  obtain⟨n,k⟩:=q
  obtain⟨n',k'⟩:=q'
  simp only at e
  subst e
  have k1:=E4 ho.b2 (ho.blook.1 I)
  rw [E4 ho.b2 (ho.blook.1 hq')] at k1
  grind
 ·obtain⟨q,C,I,p,hB,-⟩:=Y h1 h2
  obtain⟨n,v,F,hl',-,W,-⟩:=U h1' h2'
  rw [(O I).1,(G F).2]
  exact hs.btd q.1 n C v p hl' hB W
 ·obtain⟨n,v,F,p,-,W,-⟩:=U h1 h2
  rw [(G F).2] at hg
  refine .inr ⟨⟨c,n,v,F,p,W,hg⟩,fun x hx e=>?_⟩
  obtain⟨b,m,k,k1,k2,rfl⟩:=GF.1 hx
  obtain⟨vs,C,-,hws,-⟩:=rb_ k1
  exact hs.btd m n C v k2 p hws W (by rw [show γ.bb m=g from e]; exact hg)
 ·obtain⟨⟨n,k⟩,C,I,p,hB,-⟩:=Y h1 h2
  rw [(O I).1,(O I).2]
  have hm:=ho.blook.1 I
  refine .inr ⟨hp2 b (by rw [h2]; rfl),(γ.bb n,γ.bo n+k,((look pb b).map List.length).getD 0),GF.2 ⟨b,n,k,hm,p,rfl⟩,rfl,rfl,by rw [h2]; rfl,fun z hz e=>?_⟩
  obtain⟨b',n',k',k1,k2,rfl⟩:=GF.1 hz
  obtain⟨vs',ws',-,hws',-⟩:=rb_ k1
  have hnn:n'=n:=Classical.byContradiction fun hne=>hs.bds n' n ws' C hne k2 p hws' hB e
  subst hnn
  have h3:=E4 ho.b2 hm
  rw [E4 ho.b2 k1] at h3
  grind
 ·obtain⟨n,v,F,p,h0,W,hr,-⟩:=U h1 h2
  have hh:=hs.hds n v p W
  refine⟨h0,fun g hg=>Nat.le_of_eq (hg.trans h0.symm),fun q r I hsl=>?_⟩
  rw [(G F).1]
  show _=γ.hv (y.m c) (Jx σ (y.m c)) q
  rw [Z2 F]
  have:Jx σ n=v.gen:=by grind [Jx]
  rw [this]
  exact hh.2.2 q r (by rw [hr]; exact I) hsl
 ·obtain⟨n,v,F,p,-,W,-⟩:=U h1 h2
  rw [(G F).2] at hg
  exact Wl hs ho hpb (.inl ⟨c,n,v,F,p,W,hg⟩)
 ·obtain⟨⟨n,k⟩,C,I,p,hB,-⟩:=Y h1 h2
  rw [(O I).1]
  exact Wl hs ho hpb (.inr ⟨b,n,k,ho.blook.1 I,p,rfl⟩)
theorem Ae.gen {V w} {r} {z} {k k'} {v} {fp} {q} (h:Ae V w ⟨r,z,k,q⟩ v fp):Ae V w ⟨r,z,k',q⟩ v fp:=h
open Classical in
noncomputable def Gh.aft (γ γc:Gh) (σ:St) (y:Way):Gh where
 tl n:=γ.tl n∨∃c,inv y.nt n=some c∧γc.tl c
 tv n:=match inv y.nt n with
  | .some c=>γc.tv c
  | .none =>γ.tv n
 tf n:=match inv y.rt n with
  | .some c=>γc.tf c
  | .none =>match inv y.nt n with
   | .some c=>γc.tf c
   | .none =>γ.tf n
 bl n:=γ.bl n∨∃c,inv y.nb n=some c∧γc.bl c
 bb n:=match inv y.nb n with
  | .some c=>γc.bb c
  | .none =>γ.bb n
 bo n:=match inv y.nb n with
  | .some c=>γc.bo c
  | .none =>γ.bo n
 gl n g:=match inv y.rt n with
  | .some c=>γ.gl n g∨∃k,γc.gl c k∧g=Jx σ n+k
  | .none =>match inv y.nt n with
   | .some c=>γc.gl c g
   | .none =>γ.gl n g
 hv n g:=match inv y.rt n with
  | .some c=>if γ.tl n∧γ.gl n g then γ.hv n g else γc.hv c (g - Jx σ n)
  | .none =>match inv y.nt n with
   | .some c=>γc.hv c g
   | .none =>γ.hv n g
 vw:=match y.md with
  |true=>γc.vw
  |false=>γ.vw
theorem Vr {α:Type} {l:List (Nat × α)} (hn:(l.map (·.1)).Nodup) {c:Nat} {x x':α} (h:(c,x) ∈ l) (h':(c,x') ∈ l):x=x':=by
 have h1:=EL hn h
 rw [EL hn h'] at h1
 grind
theorem Hn {l l'} {n}:inv (l++l') n=(inv l n).or (inv l' n):=by
 induction l with
 |nil=>rfl
 |cons x l ih=>
  grind [MV]
structure CTok (γ γ' γc:Gh) (y:Way) (qt:List (Nat × Tok)) (n:Nat) (tk:Tok) (c:Nat) (tkc:Tok):Prop where
 i:inv (y.rt++y.nt) n=some c
 tl:γc.tl c
 q:look qt c=some tkc
 r:tkc.rows=tk.rows
 z:tkc.sz=tk.sz
 zz:tkc.z=tk.z
 tv:γ'.tv n=γc.tv c
 tf:γ'.tf n=γc.tf c
structure OTok (γ γ':Gh) (σ:St) (y:Way) (n:Nat) (tk:Tok):Prop where
 i:inv (y.rt++y.nt) n=none
 tl:γ.tl n
 T:σ.T n=some tk
 tv:γ'.tv n=γ.tv n
 tf:γ'.tf n=γ.tf n
structure LBox (γ γ' γc:Gh) (σ:St) (y:Way) (qb:List (Nat × List AV)) (n:Nat) (us:List AV) (b k:Nat) (ws vs:List AV):Prop where
 i:invB y.rb n=some (b,k)
 bl:γ.bl n
 bc:γc.bl b
 q:look qb b=some vs
 B:σ.B n=some ws
 e:us=splice ws k (baks y vs)
 bb:γ'.bb n=γ.bb n
 bo:γ'.bo n=γ.bo n
 cb:γc.bb b=γ.bb n
 co:γc.bo b=γ.bo n+k
structure NBox (γ γ' γc:Gh) (y:Way) (qb:List (Nat × List AV)) (n:Nat) (us:List AV) (c:Nat) (vs:List AV):Prop where
 i:inv y.nb n=some c
 bc:γc.bl c
 q:look qb c=some vs
 e:us=baks y vs
 bb:γ'.bb n=γc.bb c
 bo:γ'.bo n=γc.bo c
structure OBox (γ γ':Gh) (σ:St) (y:Way) (n:Nat) (us:List AV):Prop where
 i:invB y.rb n=none
 j:inv y.nb n=none
 bl:γ.bl n
 B:σ.B n=some us
 bb:γ'.bb n=γ.bb n
 bo:γ'.bo n=γ.bo n
theorem Tk:∀ {l} {c n},(c,n) ∈ kept l→(c,n) ∈ l∧c<1000
 | (a,b)::l,c,n,h=>by
  rw [kept] at h
  split at h
  ·rename_i hd
   rcases List.mem_cons.1 h with h|h
   ·grind
   ·obtain⟨h1,h2⟩:=Tk h
    grind
  ·obtain⟨h1,h2⟩:=Tk h
   grind
theorem mS {y:Way} {a:AV} (e:(bak y a).pt =true):a.pt=true:=by
 cases a with
 |rop|nilp|box|elt|els=>rfl
 |_=>
  simp only [bak] at e
  repeat' split at e
  all_goals cases e
theorem YL {y:Way}:∀ {vs:List AV},AV.pts (baks y vs)=true→AV.pts vs=true
 | [],e=>by grind [baks]
 |a::as,e=>by
  simp only [baks,AV.pts,List.any_cons,Bool.or_eq_true] at e ⊢
  exact e.imp mS YL
mutual
theorem Vs {w1 w2} {γc γ'} (ht:∀c n,look (kept y.rt++y.nt) c=some n→γc.tl c→γ'.tl n∧γ'.tv n=γc.tv c) (hb:∀b q,look y.rb b=some q→γc.bl b→γ'.bl q.1 ∧γc.bb b=γ'.bb q.1 ∧γc.bo b=γ'.bo q.1 +q.2)
  (hn:∀b n,look y.nb b=some n→γc.bl b→γ'.bl n∧γ'.bb n=γc.bb b∧γ'.bo n=γc.bo b) (hm:y.md=true→w1=w2):∀ {a} {v},VSim w1 γc a v→VSim w2 γ' (bak y a) v
 | .int _ _,v,h=>by grind [bak,VSim]
 | .bool _,v,h=>by grind [bak,VSim]
 | .str _,v,h=>by grind [bak,VSim]
 | .nilp,v,h=>by grind [bak,VSim]
 | .nils,v,h=>by grind [bak,VSim]
 | .ro rows,v,h=>by
  grind [bak,VSim]
 | .own c,v,h=>by
  grind [bak,VSim]
 | .elt c sz i off,v,h=>by
  grind [bak,VSim]
 | .box b off,v,h=>by
  grind [bak,VSim]
 | .agg vs,v,h=>by
  simp only [bak,VSim] at h ⊢
  obtain⟨us,rfl,h⟩:=h
  exact⟨us,rfl,Gj ht hb hn hm h⟩
 | .tup vs,v,h=>by
  simp only [bak,VSim] at h ⊢
  obtain⟨us,rfl,h⟩:=h
  exact⟨us,rfl,Gj ht hb hn hm h⟩
 | .mpr b,v,h=>by
  grind [bak,VSim]
 | .mpc _ _,v,h=>by grind [bak,VSim]
 | .any,v,h=>by simp only [bak]; trivial
 | .rop vs off,v,h=>by
  simp only [bak]
  split
  ·rename_i j
   have C:=hm j
   subst C
   simp only [VSim] at h ⊢
   obtain⟨b,o,us,hv,hs,p,u⟩:=h
   exact⟨b,o,us,hv,Gj ht hb hn hm hs,fun e=>p (YL e),u⟩
  ·trivial
 | .bsl _ _ _,v,h=>by simp only [bak]; trivial
 | .sub _ _ _,v,h=>by simp only [bak]; trivial
 | .par _ _ _ _,v,h=>by simp only [bak]; trivial
 | .els _ _ _ _ _ _,v,h=>by simp only [bak]; trivial
 | .fn f vs,v,h=>by
  simp only [bak,VSim] at h ⊢
  obtain⟨us,hv,hs⟩:=h
  exact⟨us,hv,Gj ht hb hn hm hs⟩
theorem Gj {w1 w2} {γc γ'} (ht:∀c n,look (kept y.rt++y.nt) c=some n→γc.tl c→γ'.tl n∧γ'.tv n=γc.tv c) (hb:∀b q,look y.rb b=some q→γc.bl b→γ'.bl q.1 ∧γc.bb b=γ'.bb q.1 ∧γc.bo b=γ'.bo q.1 +q.2)
  (hn:∀b n,look y.nb b=some n→γc.bl b→γ'.bl n∧γ'.bb n=γc.bb b∧γ'.bo n=γc.bo b) (hm:y.md=true→w1=w2):∀ {as} {us},AH w1 γc as us→AH w2 γ' (baks y as) us
 | [],us,h=>by grind [baks,AH]
 |a::as,us,h=>by
  simp only [baks,AH] at h ⊢
  obtain⟨u,j,rfl,h1,h2⟩:=h
  exact⟨u,j,rfl,Vs ht hb hn hm h1,Gj ht hb hn hm h2⟩
end
theorem mT (a:AV):(bak y a).mp? =a.mp?:=by
 cases a with
 |mpc q rows=>rfl
 |ro rows=>simp only [bak]; split <;> rfl
 |rop vs off=>simp only [bak]; split <;> rfl
 |own c=>simp only [bak]; split <;> rfl
 |elt c sz i off=>simp only [bak]; split <;> rfl
 |box b off=>
  simp only [bak]
  split
  ·rfl
  ·split <;> rfl
 |mpr b=>
  simp only [bak]
  split
  ·rfl
  ·split <;> rfl
 |_=>rfl
theorem Vt {vs}:isMp (baks y vs)=isMp vs:=by
 cases vs with
 |nil=>rfl
 |cons a l=>cases l with
  |nil=>exact mT a
  |cons b l=>rfl
theorem jb {cxc:Cx} {γc:Gh} {qt:List (Nat × Tok)} {qb:List (Nat × List AV)} {w':World} (hs:OSim cx γ σ.T σ.B w) (htd:∀t,γ.tl t→(look σ.t t).isSome =true) (hbd:∀b,γ.bl b→(look σ.b b).isSome =true)
  (ho:WayOk y σ pt pb) (hpt:Rc y.rt σ pt) (hpb:G5 y σ (σ.less y) pb) (hP:cxc.P=cx.P) (hwe:cxc.we=w) (hw0:cxc.w0=view γ σ y w) (hL:cxc.L=Th γ y pb) (hLF:cxc.LF=Rm γ σ y)
  (hs':OSim cxc γc (look qt) (look qb) w') (hmz:(y.md||noZ qt)=true) (hqb:∀b,(look pb b).isSome =true→(look qb b).isSome =true)
  (hgv:∀c n,(c,n) ∈ y.rt→c<1000∨look qt c=none)
  (hct:∀t,(look pt t).isSome =true→t<1000→(γc.tl t↔(γ.cee σ y w).tl t)∧((γ.cee σ y w).tl t→γc.tv t=(γ.cee σ y w).tv t∧∀tk,look qt t=some tk→tk.gen=0→γc.hv t 0=(γ.cee σ y w).hv t 0))
  (hcb:∀b,(look pb b).isSome =true→(γc.bl b↔(γ.cee σ y w).bl b)∧((γ.cee σ y w).bl b→γc.bb b=(γ.cee σ y w).bb b∧γc.bo b=(γ.cee σ y w).bo b)):
  Gh.Ext γ (γ.aft γc σ y)∧OSim cx (γ.aft γc σ y) (σ.after y qt qb).T (σ.after y qt qb).B w'∧(∀a v,VSim γc.vw γc a v→VSim (γ.aft γc σ y).vw (γ.aft γc σ y) (bak y a) v)∧
  (∀t,(γ.aft γc σ y).tl t→(look (σ.after y qt qb).t t).isSome =true)∧(∀b,(γ.aft γc σ y).bl b→(look (σ.after y qt qb).b b).isSome =true)∧
  (∀k,k<w.heap.size→¬Hh γ σ y k→w'.heap[k]? =w.heap[k]?):=by
 subst hwe
 generalize hγ':γ.aft γc σ y=γ'
 have ntl:∀ {n c},inv y.nt n=some c→¬γ.tl n∧look pt c=none∧look σ.t n=none:=fun {n c} h=>by
  obtain⟨h1,h2⟩:=ho.nt c n (Eo h)
  grind
 have nbl:∀ {n c},inv y.nb n=some c→¬γ.bl n∧look pb c=none∧look σ.b n=none:=fun {n c} h=>by
  obtain⟨h1,h2⟩:=ho.nb c n (Eo h)
  grind
 have rtn:∀ {n c},inv y.rt n=some c→inv y.nt n=none:=fun {n c} h=>by
  cases p:inv y.nt n with
  |none=>rfl
  |some c'=>
   exfalso
   have hn:=ho.nt2
   rw [List.map_append,List.nodup_append] at hn
   exact hn.2.2 n (List.mem_map.2 ⟨_,Eo h,rfl⟩) n (List.mem_map.2 ⟨_,Eo p,rfl⟩) rfl
 have rbn:∀ {n q},invB y.rb n=some q→inv y.nb n=none:=fun {n q} h=>by
  cases p:inv y.nb n with
  |none=>rfl
  |some c'=>
   exfalso
   have hn:=ho.nb2
   rw [List.nodup_append] at hn
   exact hn.2.2 n (List.mem_map.2 ⟨_,MW (c:=q.1) (k:=q.2) h,rfl⟩) n (List.mem_map.2 ⟨_,Eo p,rfl⟩) rfl
 have rtc:∀ {n c},inv y.rt n=some c→look y.rt c=some n∧(look pt c).isSome =true:=fun {n c} h=>⟨ho.tlook.2 (Eo h),ho.rt c n (Eo h)⟩
 have rbc:∀ {n b k},invB y.rb n=some (b,k)→look y.rb b=some (n,k)∧(look pb b).isSome =true:=fun {n b k} h=>⟨ho.blook.2 (MW h),ho.rb b n k (MW h)⟩
 have ceeT:∀ {n c},inv y.rt n=some c→c<1000→γ.tl n→(γ.cee σ y cxc.we).tl c∧γc.tl c∧γc.tv c=γ.tv n:=fun {n c} h hc hl=>by
  obtain⟨h1,h2⟩:=rtc h
  have h3:(γ.cee σ y cxc.we).tl c:=⟨n,h1,hl⟩
  obtain⟨h4,h5⟩:=hct c h2 hc
  refine⟨h3,h4.2 h3,(h5 h3).1.trans ?_⟩
  show γ.tv (y.m c)=_
  rw [Z2 h1]
 have ceeB:∀ {n b k},invB y.rb n=some (b,k)→γ.bl n→γc.bl b∧γc.bb b=γ.bb n∧γc.bo b=γ.bo n+k:=fun {n b k} h hl=>by
  obtain⟨h1,h2⟩:=rbc h
  have h3:(γ.cee σ y cxc.we).bl b:=⟨(n,k),h1,hl⟩
  obtain⟨h4,h5⟩:=hcb b h2
  refine⟨h4.2 h3,(h5 h3).1.trans ?_,(h5 h3).2.trans ?_⟩
  ·show γ.bb (y.mb b).1 =_; rw [Ti h1]
  ·show γ.bo (y.mb b).1 +(y.mb b).2 =_; rw [Ti h1]
 have etl:∀n,γ'.tl n↔(γ.tl n∨∃c,inv y.nt n=some c∧γc.tl c):=fun n=>by rw [← hγ']; rfl
 have ebl:∀n,γ'.bl n↔(γ.bl n∨∃c,inv y.nb n=some c∧γc.bl c):=fun n=>by rw [← hγ']; rfl
 have etv1:∀ {n c},inv y.nt n=some c→γ'.tv n=γc.tv c:=fun {n c} h=>by rw [← hγ']; grind [Gh.aft]
 have Y:∀ {n},inv y.nt n=none→γ'.tv n=γ.tv n:=fun {n} h=>by rw [← hγ']; grind [Gh.aft]
 have etf2:∀ {n c},inv y.rt n=some c→γ'.tf n=γc.tf c:=fun {n c} h=>by rw [← hγ']; grind [Gh.aft]
 have etf1:∀ {n c},inv y.rt n=none→inv y.nt n=some c→γ'.tf n=γc.tf c:=fun {n c} h p=>by rw [← hγ']; grind [Gh.aft]
 have etf0:∀ {n},inv y.rt n=none→inv y.nt n=none→γ'.tf n=γ.tf n:=fun {n} h p=>by rw [← hγ']; grind [Gh.aft]
 have ebb1:∀ {n c},inv y.nb n=some c→γ'.bb n=γc.bb c∧γ'.bo n=γc.bo c:=fun {n c} h=>by rw [← hγ']; grind [Gh.aft]
 have ebb0:∀ {n},inv y.nb n=none→γ'.bb n=γ.bb n∧γ'.bo n=γ.bo n:=fun {n} h=>by rw [← hγ']; grind [Gh.aft]
 have egl2:∀ {n c},inv y.rt n=some c→∀g,γ'.gl n g↔(γ.gl n g∨∃k,γc.gl c k∧g=Jx σ n+k):=fun {n c} h g=>by rw [← hγ']; grind [Gh.aft]
 have egl1:∀ {n c},inv y.rt n=none→inv y.nt n=some c→∀g,γ'.gl n g↔γc.gl c g:=fun {n c} h p g=>by rw [← hγ']; grind [Gh.aft]
 have egl0:∀ {n},inv y.rt n=none→inv y.nt n=none→∀g,γ'.gl n g↔γ.gl n g:=fun {n} h p g=>by rw [← hγ']; grind [Gh.aft]
 have ehv2:∀ {n c},inv y.rt n=some c→∀g,(γ.tl n∧γ.gl n g→γ'.hv n g=γ.hv n g)∧(¬ (γ.tl n∧γ.gl n g)→γ'.hv n g=γc.hv c (g - Jx σ n)):=fun {n c} h g=>by
  rw [← hγ']; grind [Gh.aft]
 have ehv1:∀ {n c},inv y.rt n=none→inv y.nt n=some c→∀g,γ'.hv n g=γc.hv c g:=fun {n c} h p g=>by rw [← hγ']; unfold Gh.aft; simp only [h,p]
 have ehv0:∀ {n},inv y.rt n=none→inv y.nt n=none→∀g,γ'.hv n g=γ.hv n g:=fun {n} h p g=>by rw [← hγ']; unfold Gh.aft; simp only [h,p]
 have evw1:y.md=true→γ'.vw=γc.vw:=fun h=>by rw [← hγ']; unfold Gh.aft; simp only [h]
 have evw0:y.md=false→γ'.vw=γ.vw:=fun h=>by rw [← hγ']; unfold Gh.aft; simp only [h]
 have hm_:y.md=true→γc.vw=γ'.vw:=fun h=>(evw1 h).symm
 have hkc:y.md=true→Keeps γ.vw γc.vw:=fun h=>by
  have h1:=hs'.beg.vw
  rw [cxc.g0w,hw0] at h1
  have h2:view γ σ y cxc.we=γ.vw:=by unfold view; rw [h]
  rw [h2] at h1; exact h1
 have W:Gh.Ext γ γ':=by
  refine⟨fun t h=>(etl t).2 (.inl h),fun t h=>?_,fun b h=>(ebl b).2 (.inl h),fun b h=>?_,fun b h=>?_,fun t g h k=>?_,fun t g h k=>?_,?_⟩
  rotate_right
  ·cases F:y.md with
   |true=>rw [evw1 F]; exact hkc F
   |false=>rw [evw0 F]; exact Keeps.refl _
  ·refine Y ?_
   cases C:inv y.nt t with
   |none=>rfl
   |some c=>exact absurd h (ntl C).1
  ·refine(ebb0 ?_).1
   cases C:inv y.nb b with
   |none=>rfl
   |some c=>exact absurd h (nbl C).1
  ·refine(ebb0 ?_).2
   cases C:inv y.nb b with
   |none=>rfl
   |some c=>exact absurd h (nbl C).1
  ·cases C:inv y.rt t with
   |some c=>exact(egl2 C g).2 (.inl k)
   |none=>
    cases hj:inv y.nt t with
    |some c=>exact absurd h (ntl hj).1
    |none=>exact(egl0 C hj g).2 k
  ·cases C:inv y.rt t with
   |some c=>exact(ehv2 C g).1 ⟨h,k⟩
   |none=>
    cases hj:inv y.nt t with
    |some c=>exact absurd h (ntl hj).1
    |none=>exact ehv0 C hj g
 have eT:∀n,(σ.after y qt qb).T n=match inv y.rt n with
   |some c=>(look qt c).map fun tk=>⟨tk.rows,tk.sz,Jx σ n+tk.gen,tk.z⟩
   |none=>match inv y.nt n with
    |some c=>look qt c
    |none=>σ.T n:=fun n=>by
  show (look (TC σ qt y.rt (Zm qt y.nt σ.t)) n).join =_
  rw [OP]
  cases inv y.rt n with
  |some c=>rfl
  |none=>
   simp only [Qo]
   cases inv y.nt n with
   |some c=>rfl
   |none=>rfl
 have eB:∀n,(σ.after y qt qb).B n=match invB y.rb n with
   |some q=>(look qb q.1).bind fun vs=>(σ.B n).map fun O=>splice O q.2 (baks y vs)
   |none=>match inv y.nb n with
    |some c=>(look qb c).map (baks y)
    |none=>σ.B n:=fun n=>by
  show (look (TD σ y qb y.rb (Zn y qb y.nb σ.b)) n).join =_
  rw [OQ]
  cases invB y.rb n with
  |some c=>rfl
  |none=>
   simp only [Qp]
   cases inv y.nb n with
   |some c=>rfl
   |none=>rfl
 have clsT:∀n tk,γ'.tl n→(σ.after y qt qb).T n=some tk→(∃c tkc,CTok γ γ' γc y qt n tk c tkc)∨OTok γ γ' σ y n tk:=fun n tk hl hT=>by
  rw [eT] at hT
  cases C:inv y.rt n with
  | some c=>
   simp only [C] at hT
   have hj:=rtn C
   have G:γ.tl n:=by
    rcases (etl n).1 hl with h|⟨c',h,-⟩
    ·exact h
    ·rw [hj] at h; cases h
   cases J:look qt c with
   |none=>rw [J] at hT; cases hT
   |some tkc=>
    have hc:c<1000:=(hgv c n (Eo C)).resolve_right (by rw [J]; simp)
    obtain⟨-,h2,h3⟩:=ceeT C hc G
    rw [J] at hT
    simp only [Option.map_some,Option.some.injEq] at hT
    subst hT
    exact .inl ⟨c,tkc,by rw [Hn,C]; rfl,h2,J,rfl,rfl,rfl,by rw [Y hj,h3],etf2 C⟩
  | none=>
   simp only [C] at hT
   cases hj:inv y.nt n with
   | some c=>
    simp only [hj] at hT
    have hlc:γc.tl c:=by
     rcases (etl n).1 hl with h|⟨c',h,p⟩
     ·exact absurd h (ntl hj).1
     ·rw [hj] at h; cases h; exact p
    exact .inl ⟨c,tk,by rw [Hn,C,hj]; rfl,hlc,hT,rfl,rfl,rfl,etv1 hj,etf1 C hj⟩
   | none=>
    simp only [hj] at hT
    have G:γ.tl n:=by
     rcases (etl n).1 hl with h|⟨c',h,-⟩
     ·exact h
     ·rw [hj] at h; cases h
    exact .inr ⟨by rw [Hn,C,hj]; rfl,G,hT,Y hj,etf0 C hj⟩
 have clsB:∀n us,γ'.bl n→(σ.after y qt qb).B n=some us→(∃b k O vs,LBox γ γ' γc σ y qb n us b k O vs)∨(∃c vs,NBox γ γ' γc y qb n us c vs)∨OBox γ γ' σ y n us:=fun n us hl hB=>by
  rw [eB] at hB
  cases C:invB y.rb n with
  | some q=>
   obtain⟨b,k⟩:=q
   simp only [C] at hB
   have hj:=rbn C
   have G:γ.bl n:=by
    rcases (ebl n).1 hl with h|⟨c',h,-⟩
    ·exact h
    ·rw [hj] at h; cases h
   obtain⟨h1,h2,h3⟩:=ceeB C G
   cases J:look qb b with
   |none=>rw [J] at hB; cases hB
   | some vs=>
    rw [J] at hB
    simp only [Option.bind_some] at hB
    cases hw:σ.B n with
    |none=>rw [hw] at hB; cases hB
    |some O=>
     rw [hw] at hB
     simp only [Option.map_some,Option.some.injEq] at hB
     exact .inl ⟨b,k,O,vs,C,G,h1,J,hw,hB.symm,(ebb0 hj).1,(ebb0 hj).2,h2,h3⟩
  | none=>
   simp only [C] at hB
   cases hj:inv y.nb n with
   | some c=>
    simp only [hj] at hB
    have hlc:γc.bl c:=by
     rcases (ebl n).1 hl with h|⟨c',h,p⟩
     ·exact absurd h (nbl hj).1
     ·rw [hj] at h; cases h; exact p
    cases J:look qb c with
    |none=>rw [J] at hB; cases hB
    |some vs=>
     rw [J] at hB
     simp only [Option.map_some,Option.some.injEq] at hB
     exact .inr (.inl ⟨c,vs,hj,hlc,J,hB.symm,(ebb1 hj).1,(ebb1 hj).2⟩)
   | none=>
    simp only [hj] at hB
    have G:γ.bl n:=by
     rcases (ebl n).1 hl with h|⟨c',h,-⟩
     ·exact h
     ·rw [hj] at h; cases h
    exact .inr (.inr ⟨C,hj,G,hB,(ebb0 hj).1,(ebb0 hj).2⟩)
 have I:∀k,k<cxc.we.heap.size→¬Hh γ σ y k→w'.heap[k]? =cxc.we.heap[k]? :=fun k hk hn=>by
  refine hs'.frm.block k hk (fun h=>hn (.inl (by rw [hLF] at h; exact h))) fun x hx e=>hn ?_
  rw [hL] at hx
  obtain⟨b,n,j,h1,h2,rfl⟩:=GF.1 hx
  exact .inr ⟨b,n,j,h1,h2,e.symm⟩
 have ctf:∀ {c tkc},γc.tl c→look qt c=some tkc→∀g ∈ γc.tf c,cxc.we.heap.size≤g∨(Rm γ σ y g):=fun h1 h2 g hg=>by
  rcases hs'.tfr _ _ h1 h2 g hg with h|h
  ·exact .inl h
  ·rw [hLF] at h; exact .inr h.1
 have oT:∀ {n tk},OTok γ γ' σ y n tk→∀g ∈ γ.tf n,g<cxc.we.heap.size∧¬Hh γ σ y g:=fun {n tk} h g hg=>by
  refine⟨(hs.tok n tk h.tl h.T).lt g hg,PT hs ho hpb h.tl (tk:=tk) ?_ g hg⟩
  have C:=h.i
  rw [Hn] at C
  cases hr:inv y.rt n with
  |some c=>rw [hr] at C; cases C
  |none=>
   show (look (Rd y.rt σ.t) n).join =_
   rw [LS,hr]
   exact h.T
 have oB:∀ {n us},OBox γ γ' σ y n us→γ.bb n<cxc.we.heap.size∧¬Hh γ σ y (γ.bb n):=fun {n us} h=>by
  obtain⟨us',-,h3⟩:=hs.box n us h.bl h.B
  refine⟨h3.lt,YK hs ho hpb h.bl (us:=us) ?_⟩
  show (look (TB y.rb σ.b) n).join =_
  rw [OO,h.i]
  exact h.B
 have lB:∀ {n us b k O vs},LBox γ γ' γc σ y qb n us b k O vs→Hh γ σ y (γ.bb n):=fun {n us b k O vs} h=>.inr ⟨b,n,k,MW h.i,h.bl,rfl⟩
 have nB:∀ {n us c vs},NBox γ γ' γc y qb n us c vs→cxc.we.heap.size≤γc.bb c:=fun {n us c vs} h=>by
  rcases hs'.bfr c vs h.bc h.q with p|⟨-,x,hx,he,-⟩
  ·exact p
  ·exfalso
   rw [hL] at hx
   obtain⟨b,m,k,h1,h2,rfl⟩:=GF.1 hx
   have hib:=E4 ho.b2 h1
   obtain⟨k1,k2,-⟩:=ceeB hib h2
   obtain⟨vs',hvs'⟩:=Bp (hqb b (rbc hib).2)
   have hne:c≠b:=by
    rintro rfl
    have h4:=(nbl h.i).2.1
    have h5:=(rbc hib).2
    rw [h4] at h5; cases h5
   exact hs'.bds c b vs vs' hne h.bc k1 h.q hvs' (by rw [k2]; exact he.symm)
 have cne:∀ {n n' tk tk' c c' t t'},n≠n'→CTok γ γ' γc y qt n tk c t→CTok γ γ' γc y qt n' tk' c' t'→c≠c':=fun {n n' tk tk' c c' t t'} hne h p e=>by
  subst e
  exact hne (Vr ho.nt1 (Eo h.i) (Eo p.i))
 have hfrm:Frm cx w':=by
  refine⟨by have:=hs'.frm.sh; rw [hP] at this; exact this,hs'.frm.os.trans hs.frm.os,hs'.frm.tape.trans hs.frm.tape,hs'.frm.output.trans hs.frm.output,Nat.le_trans hs.frm.size hs'.frm.size,fun k hk h1 h2=>?_,fun x hx=>?_⟩
  ·rw [I k (Nat.lt_of_lt_of_le hk hs.frm.size) fun h=>?_]
   ·exact hs.frm.block k hk h1 h2
   ·rcases lentS_fr hs ho hpb h with h|h|⟨x,hx,h⟩
    ·omega
    ·exact h1 h
    ·exact h2 x hx h
  ·have U:=hs.frm.lent x hx
   by_cases hl:Hh γ σ y x.1
   ·rcases hl with ⟨c,n,tk,k1,k2,k3,k4⟩|⟨b,n,k,k1,k2,k3⟩
    ·rcases hs.tfr n tk k2 k3 x.1 k4 with h|h
     ·have:=U.lt0; omega
     ·exact absurd rfl (h.2 x hx)
    ·have hib:=E4 ho.b2 k1
     obtain⟨vs,hvs⟩:=Bp (rbc hib).2
     obtain⟨q,J,O,hws,hmp,hle,-⟩:=EW hpb hvs
     rw [(rbc hib).1] at J; cases J
     have hlo':=hs'.frm.lent (γ.bb n,γ.bo n+k,((look pb b).map List.length).getD 0) (by rw [hL]; exact GF.2 ⟨b,n,k,k1,k2,rfl⟩)
     rcases hs.bfr n O k2 hws with h|⟨-,z,hz,z1,z2,z3,z4⟩
     ·have:=U.lt0; omega
     ·have hxz:=z4 x hx k3
      subst hxz
      rcases U with ⟨cs,cs',e,h1,h2,h3,h4⟩|⟨es,kk,es',kk',h1,h2⟩
      ·rcases hlo' with ⟨c1,c2,e',j1,j2,j3,j4⟩|⟨e1,k1',e2,k2',j1,j2⟩
       ·simp only at j1 j2 j4
        rw [← k3,h2] at j1
        simp only [Option.some.injEq,Obj.cells.injEq,and_true] at j1
        obtain⟨rfl,rfl⟩:=j1
        refine .inl ⟨cs,c2,e,h1,by rw [k3]; exact j2,by omega,fun o hoo=>?_⟩
        rw [j4 o ?_,h4 o hoo]
        rw [hvs]
        simp only [Option.map_some,Option.getD_some]
        simp only at hle
        omega
       ·simp only at j1
        rw [← k3,h2] at j1; cases j1
      ·rcases hlo' with ⟨c1,c2,e',j1,j2,j3,j4⟩|⟨e1,k1',e2,k2',j1,j2⟩
       ·simp only at j1
        rw [← k3,h2] at j1; cases j1
       ·exact .inr ⟨es,kk,e2,k2',h1,by rw [k3]; exact j2⟩
   ·exact U.keep (I x.1 U.lt hl)
 have ht_:∀c n,look (kept y.rt++y.nt) c=some n→γc.tl c→γ'.tl n∧γ'.tv n=γc.tv c:=fun c n h hl=>by
  have hmem:(c,n) ∈ y.rt++y.nt∧((c,n) ∈ y.rt→c<1000):=by
   rcases List.mem_append.1 (Bd h) with h|h
   ·obtain⟨h1,h2⟩:=Tk h
    exact⟨List.mem_append.2 (.inl h1),fun _=>h2⟩
   ·refine⟨List.mem_append.2 (.inr h),fun p=>?_⟩
    have h3:=(ho.nt c n h).1
    have h4:=ho.rt c n p
    rw [h3] at h4; cases h4
  have C:=JD ho.nt2 hmem.1
  rw [Hn] at C
  cases hr:inv y.rt n with
  |some c'=>
   rw [hr] at C
   simp only [Option.some_or,Option.some.injEq] at C
   subst C
   have hc:=hmem.2 (Eo hr)
   obtain⟨n0,h1,h2⟩:=(hct _ (rtc hr).2 hc).1.1 hl
   rw [(rtc hr).1] at h1; cases h1
   exact⟨(etl n).2 (.inl h2),by rw [Y (rtn hr),(ceeT hr hc h2).2.2]⟩
  |none=>
   rw [hr] at C
   simp only [Option.none_or] at C
   exact⟨(etl n).2 (.inr ⟨c,C,hl⟩),etv1 C⟩
 have hb_:∀b q,look y.rb b=some q→γc.bl b→γ'.bl q.1 ∧γc.bb b=γ'.bb q.1 ∧γc.bo b=γ'.bo q.1 +q.2 :=fun b q h hl=>by
  obtain⟨n,k⟩:=q
  have C:=E4 ho.b2 (ho.blook.1 h)
  obtain⟨q',h1,h2⟩:=(hcb _ (rbc C).2).1.1 hl
  rw [h] at h1; cases h1
  obtain⟨-,h3,h4⟩:=ceeB C h2
  obtain⟨h5,h6⟩:=ebb0 (rbn C)
  exact⟨(ebl n).2 (.inl h2),by rw [h3,h5],by rw [h4,h6]⟩
 have hnb2:(y.nb.map (·.2)).Nodup :=(List.nodup_append.1 ho.nb2).2.1
 have hnb1:(y.nb.map (·.1)).Nodup :=(List.nodup_append.1 ho.nb1).2.1
 have hn_:∀b n,look y.nb b=some n→γc.bl b→γ'.bl n∧γ'.bb n=γc.bb b∧γ'.bo n=γc.bo b:=fun b n h hl=>by
  have C:=JD hnb2 (Bd h)
  exact⟨(ebl n).2 (.inr ⟨b,C,hl⟩),(ebb1 C).1,(ebb1 C).2⟩
 have hbak:∀a v,VSim γc.vw γc a v→VSim γ'.vw γ' (bak y a) v:=fun a v h=>Vs ht_ hb_ hn_ hm_ h
 have hvk:Keeps γ'.vw w':=by
  cases F:y.md with
  |true=>rw [evw1 F]; exact hs'.vw.k
  | false=>
   rw [evw0 F]
   refine hs.vw.k.on fun a u hu=>?_
   have h1:=hs.vw.k a u hu
   have hlt:=World.block_lt_of_cell? cxc.we a h1
   exact I a.block hlt fun hl=>by
    rw [KS hu,PU hs ho hpb hl] at hu; cases hu
 have hcf:∀a u,y.md=true→γc.vw.cell? a=some u→γ.vw.cell? a=some u∨cxc.we.heap.size≤a.block∨Rm γ σ y a.block:=fun a u F hu=>by
  have h1:=hs'.vw.f a u hu
  have h2:view γ σ y cxc.we=γ.vw:=by unfold view; rw [F]
  rw [hw0,h2,hLF] at h1; exact h1
 have hvf:∀a u,γ'.vw.cell? a=some u→cx.w0.cell? a=some u∨cx.we.heap.size≤a.block∨cx.LF a.block:=fun a u hu=>by
  cases F:y.md with
  | true=>
   rw [evw1 F] at hu
   rcases hcf a u F hu with h|h|⟨c,n,tk,k1,k2,k3,k4⟩
   ·exact hs.vw.f a u h
   ·exact .inr (.inl (Nat.le_trans hs.frm.size h))
   ·rcases hs.tfr n tk k2 k3 _ k4 with h|h
    ·exact .inr (.inl h)
    ·exact .inr (.inr h.1)
  |false=>rw [evw0 F] at hu; exact hs.vw.f a u hu
 have hvo:∀g o,(∀x,γ.vw.cell? ⟨g,x,none⟩=none)→g<cxc.we.heap.size→¬Hh γ σ y g→γ'.vw.cell? ⟨g,o,none⟩=none:=fun g o h1 h2 h3=>by
  cases F:y.md with
  | true=>
   rw [evw1 F]
   cases hc:γc.vw.cell? ⟨g,o,none⟩ with
   |none=>rfl
   |some u=>
    rcases hcf _ u F hc with h|h|h
    ·rw [h1] at h; cases h
    ·simp only at h; omega
    ·exact absurd (.inl h) h3
  |false=>rw [evw0 F]; exact h1 o
 have hvn:∀g o,(∀x,γc.vw.cell? ⟨g,x,none⟩=none)→(cxc.we.heap.size≤g∨Hh γ σ y g)→γ'.vw.cell? ⟨g,o,none⟩=none:=fun g o h1 h2=>by
  cases F:y.md with
  |true=>rw [evw1 F]; exact h1 o
  |false=>
   rw [evw0 F]
   rcases h2 with h2|h2
   ·exact WZ hs.vw.k h2
   ·exact PU hs ho hpb h2 o
 refine⟨W,⟨hfrm,fun n tk h1 h2=>?_,fun n tk h1 h2=>?_,fun n n' tk tk' hne h1 h1' h2 h2' g hg=>?_,fun n us h1 h2=>?_,fun n n' us us' hne h1 h1' h2 h2'=>?_,fun n t us tk h1 h1' h2 h2'=>?_,fun n tk h1 h2 g hg=>?_,fun n us h1 h2=>?_,fun n tk h1 h2=>?_,hs.beg.trans W,⟨hvk,fun n tk h1 h2 g hg o=>?_,fun n us h1 h2 o=>?_,hvf⟩⟩,hbak,fun t h=>?_,fun b h=>?_,I⟩
 ·rcases clsT n tk h1 h2 with ⟨c,tkc,h⟩|h
  ·rw [h.tv,h.tf]
   have hz3:okZ tk.z tkc=true:=by unfold okZ; rw [h.zz]; cases tk.z <;> rfl
   cases F:y.md with
   |true=>exact(hs'.tok c tkc h.tl h.q).as (by rw [evw1 F]; exact Keeps.refl _) h.r (.inr h.z) hz3
   | false=>
    have hzf:tkc.z≠ .yes :=by
     rw [F,Bool.false_or] at hmz
     unfold noZ at hmz
     have:=List.all_eq_true.1 hmz (c,tkc) (Bd h.q)
     simpa using this
    refine Ae.mono (V:=default) (Keeps.void _) (Ae.as (V:=default) (Keeps.refl _) h.r (.inr h.z) hz3 ?_)
    have h9:=hs'.tok c tkc h.tl h.q
    have hvw:tkc.vw γc.vw=tkc.vw default:=by
     unfold Tok.vw zvw
     cases hk:tkc.z <;> first|rfl|exact absurd hk hzf
    unfold Ae at h9 ⊢
    rw [hvw] at h9
    exact h9
  ·rw [h.tv,h.tf]
   exact((hs.tok n tk h.tl h.T).mono W.vw).keep fun g hg=>I g (oT h g hg).1 (oT h g hg).2
 ·rcases clsT n tk h1 h2 with ⟨c,tkc,h⟩|h
  ·rw [h.tf]; exact hs'.tnd c tkc h.tl h.q
  ·rw [h.tf]; exact hs.tnd n tk h.tl h.T
 ·rcases clsT n tk h1 h2 with ⟨c,tkc,h⟩|h <;> rcases clsT n' tk' h1' h2' with ⟨c',tkc',p⟩|p
  ·rw [h.tf] at hg; rw [p.tf]
   exact hs'.tds c c' tkc tkc' (cne hne h p) h.tl p.tl h.q p.q g hg
  ·rw [h.tf] at hg; rw [p.tf]
   intro hm
   obtain⟨m1,m2⟩:=oT p g hm
   rcases ctf h.tl h.q g hg with h3|h3
   ·omega
   ·exact m2 (.inl h3)
  ·rw [h.tf] at hg; rw [p.tf]
   intro hm
   obtain⟨m1,m2⟩:=oT h g hg
   rcases ctf p.tl p.q g hm with h3|h3
   ·omega
   ·exact m2 (.inl h3)
  ·rw [h.tf] at hg; rw [p.tf]
   exact hs.tds n n' tk tk' hne h.tl p.tl h.T p.T g hg
 ·rcases clsB n us h1 h2 with ⟨b,k,O,vs,h⟩|⟨c,vs,h⟩|h
  ·obtain⟨us2,k1,k2'⟩:=hs'.box b vs h.bc h.q
   obtain⟨us1,j1,j2'⟩:=hs.box n O h.bl h.B
   have hlx:(γ.bb n,γ.bo n+k,((look pb b).map List.length).getD 0) ∈ cxc.L:=by rw [hL]; exact GF.2 ⟨b,n,k,MW h.i,h.bl,rfl⟩
   have U:=hs'.frm.lent _ hlx
   have hvl:vs.length=((look pb b).map List.length).getD 0:=by
    rcases hs'.bfr b vs h.bc h.q with p|⟨-,x,hx,x1,x2,x3,x4⟩
    ·rw [h.cb] at p
     have:=U.lt0
     simp only at this
     omega
    ·have:=x4 _ hlx (by rw [h.cb])
     rw [← this] at x3
     exact x3.symm
   obtain⟨vs0,hvs0⟩:=Bp (rbc h.i).2
   obtain⟨q,J,ws0,hws0,hmp,hle,-⟩:=EW hpb hvs0
   rw [(rbc h.i).1] at J; cases J
   have hws1:some ws0=some O:=by rw [← hws0,← h.B]
   cases hws1
   rw [hvs0] at hvl U
   simp only [Option.map_some,Option.getD_some] at hvl U
   simp only at hle
   have hu1:=j1.length
   have hu2:=k1.length
   rw [h.bb,h.bo,h.e]
   have hsp:=AH.splice (off:=k) (AH.mono W.vw W j1) (Gj ht_ hb_ hn_ hm_ k1)
   by_cases hwm:isMp O=true
   · -- a map
    obtain⟨q1,r1,e1⟩:=MM hwm
    obtain⟨q2,r2,e2⟩:=MM (hmp ▸ hwm)
    rw [e1,e2] at hle
    simp only [List.length_cons,List.length_nil] at hle
    have hk0:k=0:=by omega
    have hvl1:vs.length=1:=by rw [hvl,e2]; rfl
    obtain⟨hbo,es1,c1,hh1,-⟩:=j2'.map hwm
    have hvm:isMp vs=true:=by
     cases hvm:isMp vs with
     |true=>rfl
     |false=>
      exfalso
      obtain⟨cs2,e2',k2,-⟩:=k2'.cells hvm
      rw [h.cb] at k2
      rcases U with ⟨c1,c2,e',l1,-⟩|⟨es,kk,es',kk',l1,l2⟩
      ·rw [hh1] at l1; cases l1
      ·rw [k2] at l2; cases l2
    obtain⟨-,hm2⟩:=k2'.map hvm
    refine⟨splice us1 k us2,hsp,?_⟩
    have hs1:splice us1 k us2=us2:=by
     subst hk0
     have:us1.length=1:=by rw [hu1,e1]; rfl
     rw [EI _ _ _ (by omega)]
     simp only [List.take_zero,List.nil_append,Nat.zero_add]
     rw [List.drop_of_length_le (by omega),List.append_nil]
    have hs2:isMp (splice O k (baks y vs))=true:=by
     subst hk0
     obtain⟨q3,r3,e3⟩:=MM hvm
     rw [e1,e3]; rfl
    rw [hs1,hbo]
    rw [h.cb] at hm2
    exact Fw.ofM hm2 hs2
   have hwm':isMp O=false:=by simpa using hwm
   obtain⟨cs1,e1,j2,j3⟩:=j2'.cells hwm'
   rcases U with ⟨c1,c2,e',l1,l2,l3,l4⟩|⟨es,kk,es',kk',l1,l2⟩
   rotate_left
   ·rw [j2] at l1; cases l1
   simp only at l1 l2 l4
   rw [j2] at l1
   simp only [Option.some.injEq,Obj.cells.injEq,and_true] at l1
   obtain⟨rfl,rfl⟩:=l1
   have hvm:isMp vs=false:=by
    cases hvm:isMp vs with
    |false=>rfl
    |true=>
     exfalso
     obtain⟨-,es,kk,k2,-⟩:=k2'.map hvm
     rw [h.cb,l2] at k2; cases k2
   obtain⟨cs2,e2,k2,k3⟩:=k2'.cells hvm
   rw [h.cb,l2] at k2
   simp only [Option.some.injEq,Obj.cells.injEq,and_true] at k2
   obtain⟨rfl,rfl⟩:=k2
   refine⟨splice us1 k us2,hsp,Fw.of ⟨c2,e1,l2,fun j hj=>?_⟩ ?_⟩
   rotate_left
   ·by_cases hl1:O.length=1
    ·have hk:(k=0∧vs.length=1)∨vs.length=0:=by omega
     obtain⟨a,ha⟩:∃a,O=[a] :=by
      cases O with
      |nil=>simp at hl1
      |cons a l=>cases l with
       |nil=>exact⟨a,rfl⟩
       |cons b l=>simp at hl1
     rcases hk with ⟨rfl,hk⟩|hk
     ·obtain⟨c,hc⟩:∃c,vs=[c] :=by
       cases vs with
       |nil=>simp at hk
       |cons a l=>cases l with
        |nil=>exact⟨a,rfl⟩
        |cons b l=>simp at hk
      rw [ha,hc]
      show isMp (baks y [c])=false
      rw [Vt,← hc]; exact hvm
     ·have:vs=[] :=List.eq_nil_of_length_eq_zero hk
      rw [this]; exact hwm'
    ·exact Xu (by rw [LQ]; exact hl1)
   rw [LQ] at hj
   rw [EI _ _ _ (by omega),← List.append_assoc,Iq (by omega)]
   rw [h.co] at k3
   by_cases p1:j<k
   ·rw [if_pos p1,l4 _ (by omega)]; exact j3 j hj
   ·rw [if_neg p1]
    by_cases p2:j<k+us2.length
    ·rw [if_pos p2,← k3 (j - k) (by omega)]
     congr 1; omega
    ·rw [if_neg p2,l4 _ (by omega)]; exact j3 j hj
  ·obtain⟨us',k1,k2⟩:=hs'.box c vs h.bc h.q
   rw [h.bb,h.bo,h.e]
   exact⟨us',Gj ht_ hb_ hn_ hm_ k1,k2.as Vt⟩
  ·obtain⟨us',k1,k2⟩:=hs.box n us h.bl h.B
   rw [h.bb,h.bo]
   exact⟨us',AH.mono W.vw W k1,k2.keep (I _ (oB h).1 (oB h).2)⟩
 ·rcases clsB n us h1 h2 with ⟨b,k,O,vs,h⟩|⟨c,vs,h⟩|h <;> rcases clsB n' us' h1' h2' with ⟨b',k',ws',vs',p⟩|⟨c',vs',p⟩|p
  ·rw [h.bb,p.bb]; exact hs.bds n n' O ws' hne h.bl p.bl h.B p.B
  ·rw [h.bb,p.bb]
   have m1:=nB p
   have m2:=YJ hs ho hpb (lB h)
   omega
  ·rw [h.bb,p.bb]
   intro e
   have m1:=lB h
   rw [e] at m1
   exact(oB p).2 m1
  ·rw [h.bb,p.bb]
   have m1:=nB h
   have m2:=YJ hs ho hpb (lB p)
   omega
  ·rw [h.bb,p.bb]
   refine hs'.bds c c' vs vs' ?_ h.bc p.bc h.q p.q
   rintro rfl
   exact hne (Vr hnb1 (Eo h.i) (Eo p.i))
  ·rw [h.bb,p.bb]
   have m1:=nB h
   have m2:=(oB p).1
   omega
  ·rw [h.bb,p.bb]
   intro e
   have m1:=lB p
   rw [← e] at m1
   exact(oB h).2 m1
  ·rw [h.bb,p.bb]
   have m1:=nB p
   have m2:=(oB h).1
   omega
  ·rw [h.bb,p.bb]; exact hs.bds n n' us us' hne h.bl p.bl h.B p.B
 ·rcases clsB n us h1 h2 with ⟨b,k,O,vs,h⟩|⟨c,vs,h⟩|h <;> rcases clsT t tk h1' h2' with ⟨c',tkc',p⟩|p
  ·rw [h.bb,p.tf,← h.cb]; exact hs'.btd b c' vs tkc' h.bc p.tl h.q p.q
  ·rw [h.bb,p.tf]; exact hs.btd n t O tk h.bl p.tl h.B p.T
  ·rw [h.bb,p.tf]; exact hs'.btd c c' vs tkc' h.bc p.tl h.q p.q
  ·rw [h.bb,p.tf]
   intro hm
   have m1:=nB h
   have m2:=(oT p _ hm).1
   omega
  ·rw [h.bb,p.tf]
   intro hm
   rcases ctf p.tl p.q _ hm with h3|h3
   ·have:=(oB h).1; omega
   ·exact(oB h).2 (.inl h3)
  ·rw [h.bb,p.tf]; exact hs.btd n t us tk h.bl p.tl h.B p.T
 ·rcases clsT n tk h1 h2 with ⟨c,tkc,h⟩|h
  ·rw [h.tf] at hg
   rcases ctf h.tl h.q g hg with h3|⟨c',m,tk',j1,j2,j3,j4⟩
   ·exact .inl (Nat.le_trans hs.frm.size h3)
   ·exact hs.tfr m tk' j2 j3 g j4
  ·rw [h.tf] at hg; exact hs.tfr n tk h.tl h.T g hg
 ·rcases clsB n us h1 h2 with ⟨b,k,O,vs,h⟩|⟨c,vs,h⟩|h
  ·rw [h.bb,h.bo,h.e,LQ]; exact hs.bfr n O h.bl h.B
  ·rw [h.bb]; exact .inl (Nat.le_trans hs.frm.size (nB h))
  ·rw [h.bb,h.bo]; exact hs.bfr n us h.bl h.B
 ·rw [eT] at h2
  cases C:inv y.rt n with
  | some c=>
   simp only [C] at h2
   have hj:=rtn C
   have G:γ.tl n:=by
    rcases (etl n).1 h1 with h|⟨c',h,-⟩
    ·exact h
    ·rw [hj] at h; cases h
   cases J:look qt c with
   |none=>rw [J] at h2; cases h2
   | some tkc=>
    have hc:c<1000:=(hgv c n (Eo C)).resolve_right (by rw [J]; simp)
    obtain⟨-,k2,k3⟩:=ceeT C hc G
    rw [J] at h2
    simp only [Option.map_some,Option.some.injEq] at h2
    subst h2
    have hh:=hs'.hds c tkc k2 J
    obtain⟨tk0,htk0⟩:=Bp (rtc C).2
    obtain⟨n',hn',-,tk1,hT1,-⟩:=OR hpt htk0
    rw [(rtc C).1] at hn'; cases hn'
    have hg0:Jx σ n=tk1.gen:=by unfold Jx; rw [hT1]; rfl
    have hh1:=hs.hds n tk1 G hT1
    refine⟨(egl2 C _).2 (.inr ⟨tkc.gen,hh.1,rfl⟩),fun g hg=>?_,fun q r hq' hsl=>?_⟩
    ·rcases (egl2 C g).1 hg with h|⟨k,h,rfl⟩
     ·have:=hh1.2.1 g h
      simp only
      omega
     ·have:=hh.2.1 k h
      simp only
      omega
    ·have e1:=hh.2.2 q r hq' hsl
     rw [Y hj,← k3,e1]
     show γc.hv c tkc.gen q=γ'.hv n (Jx σ n+tkc.gen) q
     by_cases hz:tkc.gen=0
     ·rw [hz,Nat.add_zero,((ehv2 C _).1 ⟨G,by rw [hg0]; exact hh1.1⟩)]
      rw [((hct c (rtc C).2 hc).2 ⟨n,(rtc C).1,G⟩).2 tkc J hz]
      show γ.hv (y.m c) (Jx σ (y.m c)) q=_
      rw [Z2 (rtc C).1]
     ·rw [(ehv2 C _).2 fun h=>?_,Nat.add_sub_cancel_left]
      have:=hh1.2.1 _ h.2
      omega
  | none=>
   simp only [C] at h2
   cases hj:inv y.nt n with
   | some c=>
    simp only [hj] at h2
    have hlc:γc.tl c:=by
     rcases (etl n).1 h1 with h|⟨c',h,p⟩
     ·exact absurd h (ntl hj).1
     ·rw [hj] at h; cases h; exact p
    have hh:=hs'.hds c tk hlc h2
    exact⟨(egl1 C hj _).2 hh.1,fun g hg=>hh.2.1 g ((egl1 C hj g).1 hg),fun q r J=>by rw [etv1 hj,ehv1 C hj]; exact hh.2.2 q r J⟩
   | none=>
    simp only [hj] at h2
    have G:γ.tl n:=by
     rcases (etl n).1 h1 with h|⟨c',h,-⟩
     ·exact h
     ·rw [hj] at h; cases h
    have ho':OTok γ γ' σ y n tk:=⟨by rw [Hn,C,hj]; rfl,G,h2,Y hj,etf0 C hj⟩
    have hh:=(hs.hds n tk G h2).keep (hs.tok n tk G h2).own fun g hg=>I g (oT ho' g hg).1 (oT ho' g hg).2
    exact⟨(egl0 C hj _).2 hh.1,fun g hg=>hh.2.1 g ((egl0 C hj g).1 hg),fun q r J=>by rw [Y hj,ehv0 C hj]; exact hh.2.2 q r J⟩
 ·rcases clsT n tk h1 h2 with ⟨c,tkc,h⟩|h
  ·rw [h.tf] at hg; exact hvn g o (hs'.vw.t c tkc h.tl h.q g hg) ((ctf h.tl h.q g hg).imp id .inl)
  ·rw [h.tf] at hg; exact hvo g o (hs.vw.t n tk h.tl h.T g hg) (oT h g hg).1 (oT h g hg).2
 ·rcases clsB n us h1 h2 with ⟨b,k,O,vs,h⟩|⟨c,vs,h⟩|h
  ·rw [h.bb,← h.cb]; exact hvn _ o (hs'.vw.b b vs h.bc h.q) (.inr (by rw [h.cb]; exact lB h))
  ·rw [h.bb]; exact hvn _ o (hs'.vw.b c vs h.bc h.q) (.inl (nB h))
  ·rw [h.bb]; exact hvo _ o (hs.vw.b n us h.bl h.B) (oB h).1 (oB h).2
 ·show (look (TC σ qt y.rt (Zm qt y.nt σ.t)) t).isSome =true
  rw [OP]
  cases C:inv y.rt t with
  |some c=>rfl
  | none=>
   simp only [Qo]
   cases hj:inv y.nt t with
   |some c=>rfl
   |none=>
    rcases (etl t).1 h with h|⟨c',h,-⟩
    ·exact htd t h
    ·rw [hj] at h; cases h
 ·show (look (TD σ y qb y.rb (Zn y qb y.nb σ.b)) b).isSome =true
  rw [OQ]
  cases C:invB y.rb b with
  |some c=>rfl
  | none=>
   simp only [Qp]
   cases hj:inv y.nb b with
   |some c=>rfl
   |none=>
    rcases (ebl b).1 h with h|⟨c',h,-⟩
    ·exact hbd b h
    ·rw [hj] at h; cases h
end
theorem At.stay {p p'} {d d1 d1' x} (h1:p.length=1) (h2:p'.length=1) (h:At p d d1) (h':At p' d d1'):∃e,At p (Ab.put p' d x) e:=by
 match p,p',h1,h2 with
 | [(sz,i,j)],[(sz',i',j')],_,_=>
  cases d <;> simp only [At] at h h'
  rename_i q
  obtain⟨G,e,k1,k2,k3,k4⟩:=h
  obtain⟨u,J,C,O,F,I⟩:=h'
  have v:Ab.put [(sz',i',j')] (.sl q) x= .sl (q.set i' (u.set j' x)):=by
   rw [Ab.put,C]; simp only; rw [F]; rfl
  rw [v]
  by_cases hi:i'=i
  ·subst hi
   rw [C] at k1
   obtain rfl:=Option.some.inj k1
   by_cases hj:j'=j
   ·subst hj
    exact⟨x,by grind [At]⟩
   simp_all [At,BU]
  simp_all [At]
section
variable {cx:Cx} {w:World}
structure Cut (cx:Cx) (w:World) (cv:List (Nat × AV × Option Nat)) (γ:Gh) (σ:St) (γ':Gh) (σ':St):Prop where
 ext:Gh.Ext γ γ'
 os:OSim cx γ' σ'.T σ'.B w
 s:σ'.s=σ.s
 b:σ'.b=σ.b
 td:∀x,γ'.tl x→(look σ'.t x).isSome =true
 bd:∀x,γ'.bl x→(look σ'.b x).isSome =true
 new:∀x,γ'.tl x→γ.tl x∨look σ.t x=none
 tm:∀x,(look σ.t x).isSome =true→(look σ'.t x).isSome =true
 av:∀n a z,(n,a,z) ∈ cv→∀u,VSim γ'.vw γ' a u→VSim γ'.vw γ' (.own n) u
 cut:∀n t g p z,(n,.sub t g p,z) ∈ cv→γ'.tl t→Carved γ' w n t g p∧p.length=1∧∃tk d,σ'.T t=some tk∧At p (.sl tk.rows) d
 has:∀n t g p z,(n,.sub t g p,z) ∈ cv→(look σ'.t t).isSome =true
 keep:∀t tk,σ.T t=some tk→∃tk',σ'.T t=some tk'∧∀p d,p.length=1→At p (.sl tk.rows) d→∃e,At p (.sl tk'.rows) e
 bl:∀x,γ'.bl x→γ.bl x
theorem St.T_mk' (s:List (Nat × AV)) (t:List (Nat × Option Tok)) (b:List (Nat × Option (List AV))) (x:Nat):(⟨s,t,b⟩:St).T x=(look t x).join :=rfl
theorem Ij:∀ {cv} {γ} {σ} {K},OSim cx γ σ.T σ.B w→(∀x,γ.tl x→(look σ.t x).isSome =true)→(∀x,γ.bl x→(look σ.b x).isSome =true)→CT cv σ K→
  ∃σ' γ',K σ'∧Cut cx w cv γ σ γ' σ'
 | [],γ,σ,K,hs,htd,hbd,h=>by
  rw [CT] at h
  exact⟨σ,γ,h,Gh.Ext.refl γ,hs,rfl,rfl,htd,hbd,fun x h=>.inl h,fun x h=>h,fun n a z h=>(by cases h),fun n t g p z h=>(by cases h),fun n t g p z h=>(by cases h),fun t tk h=>⟨tk,h,fun p d _ h=>⟨d,h⟩⟩,fun x h=>h⟩
 | (n,a,z)::cv,γ,σ,K,hs,htd,hbd,h=>by
  cases a with
  | sub t g p=>
   rw [CT] at h
   obtain⟨-,hn,hp1,tk,rows,hT,hg,hp,hne,h⟩:=h
   have G:¬γ.tl n:=fun hl=>by grind
   have hTn:σ.T n=none:=by grind [St.T]
   have hTt:(look σ.t t).isSome =true:=by
    unfold St.T at hT
    cases hl:look σ.t t with
    |none=>rw [hl] at hT; cases hT
    |some x=>rfl
   have hp0:p≠ [] :=by grind
   generalize hσ:({σ with t:=(n,some ⟨rows,none,0,tk.z⟩)::(t,some ⟨putR p tk.rows .gone,tk.sz,g,tk.z⟩)::σ.t}:St)=σ1 at h
   have e1:σ1.T=tset (tset σ.T t (some ⟨putR p tk.rows .gone,tk.sz,g,tk.z⟩)) n (some ⟨rows,none,0,tk.z⟩):=by
    funext x
    rw [← hσ,St.T_mk']
    simp only [AJ,tset]
    by_cases hx:x=n
    ·grind
    ·by_cases hx2:x=t
     ·grind
     ·simp only [if_neg hx,if_neg hx2]; rfl
   have e2:σ1.B=σ.B:=by rw [← hσ]; rfl
   have e3:σ1.b=σ.b:=by rw [← hσ]
   have e4:σ1.s=σ.s:=by rw [← hσ]
   have C:∀x,(look σ.t x).isSome =true→(look σ1.t x).isSome =true:=fun x hx=>by
    rw [← hσ]
    grind [AJ]
   have hnew:(look σ1.t n).isSome =true:=by rw [← hσ]; grind [AJ]
   obtain⟨d0,hat,hd0⟩:=PQ hp
   have hpt1:∀q d,q.length=1→At q (.sl tk.rows) d→∃e,At q (.sl (putR p tk.rows .gone)) e:=fun q d hq hd=>by
    rw [← (Tf hp0 hat .gone).1]
    exact At.stay hq hp1 hd hat
   have O:∀t' F,σ.T t'=some F→∃U,σ1.T t'=some U∧∀q d,q.length=1→At q (.sl F.rows) d→∃e,At q (.sl U.rows) e:=fun t' F h'=>by
    rw [e1]
    grind [tset]
   obtain⟨γ1,he,hos1,hc1,htl1,hbl1⟩:∃γ1,Gh.Ext γ γ1∧OSim cx γ1 σ1.T σ1.B w∧(γ.tl t→Carved γ1 w n t g p)∧(∀x,γ1.tl x→γ.tl x∨(x=n∧γ.tl t))∧(∀b,γ1.bl b→γ.bl b):=by
    rw [e1,e2]
    by_cases htl:γ.tl t
    ·obtain⟨γ1,h1,h2,h3,h4,h5⟩:=hs.carve hTn G htl hT hg hp0 hp hne
     grind
    ·refine⟨γ,Gh.Ext.refl γ,hs.tables (fun x F hx h=>?_) (fun _ _ _ h=>h),fun h=>absurd h htl,fun x hx=>.inl hx,fun b hb=>hb⟩
     grind [tset]
   obtain⟨σ',γ',hK,j⟩:=Ij hos1 (fun x hx=>by
    grind) (fun x hx=>by rw [e3]; grind) h
   have htlt:γ'.tl t→γ.tl t:=fun h=>by
    rcases j.new t h with h|h
    ·grind
    grind
   refine⟨σ',γ',hK,he.trans j.ext,j.os,j.s.trans e4,j.b.trans e3,j.td,j.bd,fun x hx=>?_,fun x hx=>j.tm x (C x hx),fun m a I hm=>?_,fun m t' g' p' I hm hl=>?_,fun m t' g' p' I hm=>?_,fun t' F h'=>?_,fun x hx=>hbl1 x (j.bl x hx)⟩
   ·rcases j.new x hx with h|h
    ·grind
    grind [look]
   ·rcases List.mem_cons.1 hm with hm|hm
    ·cases hm
     intro u W
     simp only [VSim] at W ⊢
     have hc:=(hc1 (htlt W.1.1)).ext j.ext
     rw [hc.av]
     exact⟨⟨hc.tl,W.2.1⟩,W.2.2⟩
    ·exact j.av m a I hm
   ·rcases List.mem_cons.1 hm with hm|hm
    ·cases hm
     refine⟨(hc1 (htlt hl)).ext j.ext,hp1,?_⟩
     obtain⟨U,h1,h2⟩:=O t tk hT
     obtain⟨tk2,h3,h4⟩:=j.keep t U h1
     grind
    ·exact j.cut m t' g' p' I hm hl
   ·rcases List.mem_cons.1 hm with hm|hm
    ·cases hm
     exact j.tm t (C t hTt)
    ·exact j.has m t' g' p' I hm
   ·obtain⟨U,h1,h2⟩:=O t' F h'
    obtain⟨tk2,h3,h4⟩:=j.keep t' U h1
    grind
  | nils=>
   rw [CT] at h
   obtain⟨hn,h⟩:=h
   have G:¬γ.tl n:=fun hl=>by grind
   have hTn:σ.T n=none:=by grind [St.T]
   generalize hσ:({σ with t:=(n,some ⟨[],z,0,.no⟩)::σ.t}:St)=σ1 at h
   have Y:=hs.putTok (t:=n) (tk:=⟨[],z,0,.no⟩) (v:=.slice none 0 0) (fp:=[]) hTn (fun h=>(G h).elim) (Ae.nil ⟨none,rfl⟩) List.nodup_nil (by simp) (fun h=>(G h).elim) (fun h=>(G h).elim)
   have he:Gh.Ext γ (γ.tok w n (.slice none 0 0) [] 0):=Gh.tok_ext fun h=>(G h).elim
   have e1:σ1.T=fun x=>if x=n then some ⟨[],z,0,.no⟩ else σ.T x:=by
    funext x
    rw [← hσ,St.T_mk']
    simp only [AJ]
    split <;> rfl
   have e2:σ1.B=σ.B:=by rw [← hσ]; rfl
   have e3:σ1.b=σ.b:=by rw [← hσ]
   have e4:σ1.s=σ.s:=by rw [← hσ]
   have C:∀x,(look σ.t x).isSome =true→(look σ1.t x).isSome =true:=fun x hx=>by
    rw [← hσ]
    grind [AJ]
   have hnew:(look σ1.t n).isSome =true:=by rw [← hσ]; grind [AJ]
   rw [← e1,← e2] at Y
   obtain⟨σ',γ',hK,j⟩:=Ij Y (fun x hx=>by
    rcases hx with h|rfl
    ·grind
    omega) (fun x hx=>by rw [e3]; exact hbd x hx) h
   refine⟨σ',γ',hK,he.trans j.ext,j.os,j.s.trans e4,j.b.trans e3,j.td,j.bd,fun x hx=>?_,fun x hx=>j.tm x (C x hx),fun m a I hm=>?_,fun m t' g' p' I hm hl=>?_,fun m t' g' p' I hm=>?_,fun t' F h'=>?_,fun x hx=>j.bl x hx⟩
   ·rcases j.new x hx with h|h
    ·rcases h with h|rfl
     ·grind
     grind
    grind [look]
   ·rcases List.mem_cons.1 hm with hm|hm
    ·cases hm
     intro u W
     simp only [VSim] at W ⊢
     have J:(γ.tok w n (.slice none 0 0) [] 0).tl n:=.inr rfl
     have htv:(γ.tok w n (.slice none 0 0) [] 0).tv n= .slice none 0 0:=by show (if n=n then _ else _)=_; rw [if_pos rfl]
     rw [j.ext.tv n J,htv]
     exact⟨⟨j.ext.tl n J,none,0,0,rfl⟩,W⟩
    ·exact j.av m a I hm
   ·rcases List.mem_cons.1 hm with hm|hm
    ·cases hm
    ·exact j.cut m t' g' p' I hm hl
   ·rcases List.mem_cons.1 hm with hm|hm
    ·cases hm
    ·exact j.has m t' g' p' I hm
   ·have h1:σ1.T t'=some F:=by
     rw [e1]
     grind
    exact j.keep t' F h1
  | bsl b m sz=>
   rw [CT] at h
   obtain⟨hm0,hn,h⟩:=h
   subst hm0
   have G:¬γ.tl n:=fun hl=>by grind
   have hTn:σ.T n=none:=by grind [St.T]
   generalize hσ:({σ with t:=(n,some ⟨[],z,0,.no⟩)::σ.t}:St)=σ1 at h
   have Y:=hs.putTok (t:=n) (tk:=⟨[],z,0,.no⟩) (v:=.slice (some ⟨γ.bb b,γ.bo b,none⟩) 0 0) (fp:=[]) hTn (fun h=>(G h).elim) (Ae.nil ⟨_,rfl⟩) List.nodup_nil (by simp) (fun h=>(G h).elim) (fun h=>(G h).elim)
   have he:Gh.Ext γ (γ.tok w n (.slice (some ⟨γ.bb b,γ.bo b,none⟩) 0 0) [] 0):=Gh.tok_ext fun h=>(G h).elim
   have e1:σ1.T=fun x=>if x=n then some ⟨[],z,0,.no⟩ else σ.T x:=by
    funext x
    rw [← hσ,St.T_mk']
    simp only [AJ]
    split <;> rfl
   have e2:σ1.B=σ.B:=by rw [← hσ]; rfl
   have e3:σ1.b=σ.b:=by rw [← hσ]
   have e4:σ1.s=σ.s:=by rw [← hσ]
   have C:∀x,(look σ.t x).isSome =true→(look σ1.t x).isSome =true:=fun x hx=>by
    rw [← hσ]
    grind [AJ]
   have hnew:(look σ1.t n).isSome =true:=by rw [← hσ]; grind [AJ]
   rw [← e1,← e2] at Y
   obtain⟨σ',γ',hK,j⟩:=Ij Y (fun x hx=>by
    rcases hx with h|rfl
    ·grind
    omega) (fun x hx=>by rw [e3]; exact hbd x hx) h
   refine⟨σ',γ',hK,he.trans j.ext,j.os,j.s.trans e4,j.b.trans e3,j.td,j.bd,fun x hx=>?_,fun x hx=>j.tm x (C x hx),fun m a I hm=>?_,fun m t' g' p' I hm hl=>?_,fun m t' g' p' I hm=>?_,fun t' F h'=>?_,fun x hx=>j.bl x hx⟩
   ·rcases j.new x hx with h|h
    ·rcases h with h|rfl
     ·grind
     grind
    grind [look]
   ·rcases List.mem_cons.1 hm with hm|hm
    ·cases hm
     intro u W
     simp only [VSim] at W ⊢
     have J:(γ.tok w n (.slice (some ⟨γ.bb b,γ.bo b,none⟩) 0 0) [] 0).tl n:=.inr rfl
     have htv:(γ.tok w n (.slice (some ⟨γ.bb b,γ.bo b,none⟩) 0 0) [] 0).tv n= .slice (some ⟨γ.bb b,γ.bo b,none⟩) 0 0:=by show (if n=n then _ else _)=_; rw [if_pos rfl]
     rw [j.ext.tv n J,htv]
     exact⟨⟨j.ext.tl n J,_,0,0,rfl⟩,by
      have hb0:γ.bl b:=j.bl b W.1
      rw [W.2.2,j.ext.bb b hb0,j.ext.bo b hb0]; rfl⟩
    ·exact j.av m a I hm
   ·rcases List.mem_cons.1 hm with hm|hm
    ·cases hm
    ·exact j.cut m t' g' p' I hm hl
   ·rcases List.mem_cons.1 hm with hm|hm
    ·cases hm
    ·exact j.has m t' g' p' I hm
   ·have h1:σ1.T t'=some F:=by
     rw [e1]
     grind
    exact j.keep t' F h1
  |_=>simp [CT] at h
structure Mend (cx:Cx) (w:World) (γ:Gh) (σ:St) (γ':Gh) (σ':St):Prop where
 ext:Gh.Ext γ γ'
 os:OSim cx γ' σ'.T σ'.B w
 s:σ'.s=σ.s
 td:∀x,γ'.tl x→(look σ'.t x).isSome =true
 bd:∀x,γ'.bl x→(look σ'.b x).isSome =true
 tl:∀x,γ'.tl x→γ.tl x
 tm:∀x,(look σ.t x).isSome =true→(look σ'.t x).isSome =true
 bm:∀x,(look σ.b x).isSome =true→(look σ'.b x).isSome =true
theorem Mend.trans {γ γ' γ''} {σ σ' σ''} (h:Mend cx w γ σ γ' σ') (k:Mend cx w γ' σ' γ'' σ''):Mend cx w γ σ γ'' σ'':=
 ⟨h.ext.trans k.ext,k.os,k.s.trans h.s,k.td,k.bd,fun x hx=>h.tl x (k.tl x hx),fun x hx=>k.tm x (h.tm x hx),fun x hx=>k.bm x (h.bm x hx)⟩
theorem Mend.drop {γ} {σ} (hs:OSim cx γ σ.T σ.B w) (htd:∀x,γ.tl x→(look σ.t x).isSome =true) (hbd:∀x,γ.bl x→(look σ.b x).isSome =true) (n:Nat):Mend cx w γ σ γ {σ with t:=(n,none)::σ.t}:=by
 have hm:∀x,(look σ.t x).isSome =true→(look ((n,none)::σ.t) x).isSome =true:=fun x hx=>by
  rw [AJ]; grind
 refine⟨Gh.Ext.refl γ,hs.tables (fun x tk _ h=>?_) (fun _ _ _ h=>h),rfl,fun x hx=>hm x (htd x hx),hbd,fun x h=>h,hm,fun x h=>h⟩
 have j:(look ((n,none)::σ.t) x).join =some tk:=h
 rw [AJ] at j
 split at j
 ·cases j
 ·exact j
theorem JF:∀ {cv} {γ} {σ} {K},OSim cx γ σ.T σ.B w→(∀x,γ.tl x→(look σ.t x).isSome =true)→(∀x,γ.bl x→(look σ.b x).isSome =true)→
  (∀n t g p z,(n,.sub t g p,z) ∈ cv→γ.tl t→Carved γ w n t g p)→Bk cv σ K→∃σ' γ',K σ'∧Mend cx w γ σ γ' σ'
 | [],γ,σ,K,hs,htd,hbd,hc,h=>by
  rw [Bk] at h
  exact⟨σ,γ,h,Gh.Ext.refl γ,hs,rfl,htd,hbd,fun x h=>h,fun x h=>h,fun x h=>h⟩
 | (n,a,z)::cv,γ,σ,K,hs,htd,hbd,hc,h=>by
  have q:∀n t g p z,(n,.sub t g p,z) ∈ cv→γ.tl t→Carved γ w n t g p:=fun n t g p z hm=>hc n t g p z (List.mem_cons_of_mem _ hm)
  cases a with
  | sub t g p=>
   rw [Bk] at h
   obtain⟨σ1,γ1,h1,j⟩:=JF hs htd hbd q h
   cases hTn:σ1.T n with
   |none=>
    grind
   | some tn=>
    simp only [hTn] at h1
    obtain⟨tk,I,hp,⟨C,v⟩,h1⟩:=h1
    refine⟨⟨σ1.s,(n,none)::(t,some ⟨putR p tk.rows (.sl tn.rows),tk.sz,if tn.gen=0∧tk.gen=g then g else tk.gen+tn.gen+1,tk.z⟩)::σ1.t,σ1.b⟩,?_⟩
    have F:∀k:Option Tok,(⟨σ1.s,(n,none)::(t,k)::σ1.t,σ1.b⟩:St).T =tset (tset σ1.T t k) n none:=fun k=>by
     funext x
     rw [St.T_mk']
     simp only [AJ,tset]
     by_cases hx:x=n
     ·grind
     ·by_cases hx2:x=t
      ·simp only [if_neg hx,if_pos hx2]; cases k <;> rfl
      ·simp only [if_neg hx,if_neg hx2]; rfl
    have hm:∀k x,(look σ1.t x).isSome =true→(look ((n,none)::(t,k)::σ1.t) x).isSome =true:=fun k x hx=>by
     grind [AJ]
    by_cases htl:γ1.tl t
    ·have u:=(hc n t g p z (by simp) (j.tl t htl)).ext j.ext
     obtain⟨γ2,k1,k2,k3,k4⟩:=j.os.uncarve htl I hTn hp C v u
     refine⟨γ2,h1,j.trans ⟨k1,by rw [F]; exact k2,rfl,fun x hx=>hm _ x (j.td x (k3 x hx)),fun x hx=>j.bd x (k4 x hx),k3,hm _,fun x h=>h⟩⟩
    ·refine⟨γ1,h1,j.trans ⟨Gh.Ext.refl γ1,j.os.tables (fun x J hx G=>?_) (fun _ _ _ h=>h),rfl,fun x hx=>hm _ x (j.td x hx),j.bd,fun x h=>h,hm _,fun x h=>h⟩⟩
     rw [F] at G
     grind [tset]
  | _=>
   rw [Bk] at h
   ·obtain⟨σ1,γ1,h1,j⟩:=JF hs htd hbd q h
    exact⟨_,γ1,h1,j.trans (Mend.drop j.os j.td j.bd n)⟩
   all_goals (intros; simp_all)
theorem Rn {rt}:∀ {cv},MO rt cv=true→∀ {n t g} {p} {z},(n,.sub t g p,z) ∈ cv→inv rt t=none
 | [],_,n,t,g,p,z,hm=>by cases hm
 | (n0,a,z0)::cv,h,n,t,g,p,z,hm=>by
  have rest:MO rt cv=true:=by
   cases a <;> simp_all [MO]
  rcases List.mem_cons.1 hm with hm|hm
  ·cases hm
   simp only [MO,Bool.and_eq_true,List.all_eq_true] at h
   cases hi:inv rt t with
   |none=>rfl
   |some c=>
    have:=h.1 _ (Eo hi)
    grind
  ·exact Rn rest hm
theorem YM {γ:Gh} {σ:St} {f:FuncId} {args:List AV} {us:List Value} {K:AV→St→Prop} (hs:OSim cx γ σ.T σ.B w) (htd:∀x,γ.tl x→(look σ.t x).isSome =true) (hbd:∀x,γ.bl x→(look σ.b x).isSome =true)
  (h:VV cx.P f args σ K) (hv:AH γ.vw γ args us):
  GU cx.P f=true∧Calls cx.P f us.toArray w (fun e w'=>∃v γ' σ' r,e= .returned v∧K r σ'∧VSim γ'.vw γ' r v∧Gh.Ext γ γ'∧OSim cx γ' σ'.T σ'.B w'∧σ'.s=σ.s∧(∀x,γ'.tl x→(look σ'.t x).isSome =true)∧(∀x,γ'.bl x→(look σ'.b x).isSome =true)):=by
 obtain⟨y,as,pt,pb,r,qt,qb,hag,h⟩:=h
 obtain⟨σ1,γ1,⟨hok,hpt,Y,hpa,hqb,⟨hfc,hmz⟩,C,hgv,hun⟩,j⟩:=Ij hs htd hbd h
 have ho:=WayOk.of hok
 have hcv:∀n a z,look y.cv n=some (a,z)→∀u,VSim γ1.vw γ1 a u→VSim γ1.vw γ1 (.own n) u:=fun n a z hl=>j.av n a z (Bd hl)
 unfold fZ at C
 simp only [Bool.and_eq_true,List.all_eq_true,decide_eq_true_eq,Bool.or_eq_true,List.any_eq_true] at C
 have O:=JE j.os ho Y hcv hpa (AH.mono j.ext.vw j.ext hv)
 obtain⟨cxc,e1,e2,e3,e4,e5,e6,J⟩:=dX j.os (fun c hc=>by obtain⟨vs,hk⟩:=Bp hc; exact(C.1 _ (Bd hk)).2) ho hpt Y hcv
 have F:∀b,(look pb b).isSome =true→(γ1.cee σ1 y w).bl b:=fun b hb=>by
  obtain⟨vs,hk⟩:=Bp hb
  rcases (C.1 _ (Bd hk)).1 with h|⟨q,hq,h1,h2⟩
  ·grind [Gs]
  ·obtain⟨b',vs'⟩:=q
   have W:look pb b'=some vs':=EL hok.2.2.2.2.2.2.2.2.2 hq
   obtain⟨us',h3,-⟩:=J.box b' vs' (Gs O h1) W
   grind [Gs]
 have I:∀c,(look pt c).isSome =true→(γ1.cee σ1 y w).tl c:=fun c hc=>by
  obtain⟨tk,hk⟩:=Bp hc
  rcases C.2 _ (Bd hk) with ⟨q,hq,h⟩|h
  ·obtain⟨b,vs⟩:=q
   have W:look pb b=some vs:=EL hok.2.2.2.2.2.2.2.2.2 hq
   obtain⟨us',h1,-⟩:=J.box b vs (F b (by rw [W]; rfl)) W
   exact IA h1 h
  grind [IA]
 refine⟨hag.1,?_⟩
 have hc:=hag.2 cxc (γ1.cee σ1 y w) us e1 e6 (fun t=>⟨fun ht=>by obtain⟨n,hn,-⟩:=ht; exact ho.rt t n (Bd hn),I t⟩) (fun b=>⟨fun hb=>by obtain⟨⟨n,k⟩,hn,-⟩:=hb; exact ho.rb b n k (Bd hn),F b⟩) (by rw [e2]; omega) O
 rw [e2] at hc
 refine hc.mono ?_
 rintro e w' ⟨v,γc,rfl,h1,h2⟩
 have hx:=h1.beg
 rw [e6] at hx
 have h3:∀t,(look pt t).isSome =true→t<1000→(γc.tl t↔(γ1.cee σ1 y w).tl t)∧((γ1.cee σ1 y w).tl t→γc.tv t=(γ1.cee σ1 y w).tv t∧∀tk,look qt t=some tk→tk.gen=0→γc.hv t 0=(γ1.cee σ1 y w).hv t 0):=fun t ht G=>
  ⟨⟨fun _=>I t ht,fun h=>hx.tl t ⟨h,G⟩⟩,fun h=>⟨hx.tv t ⟨h,G⟩,fun _ _ _=>hx.hv t 0 ⟨h,G⟩ rfl⟩⟩
 have h4:∀b,(look pb b).isSome =true→(γc.bl b↔(γ1.cee σ1 y w).bl b)∧((γ1.cee σ1 y w).bl b→γc.bb b=(γ1.cee σ1 y w).bb b∧γc.bo b=(γ1.cee σ1 y w).bo b):=fun b hb=>by
  have G:b<1000:=by
   obtain⟨vs,hk⟩:=Bp hb
   exact(C.1 _ (Bd hk)).2
  exact⟨⟨fun _=>F b hb,fun h=>hx.bl b ⟨h,G⟩⟩,fun h=>⟨hx.bb b ⟨h,G⟩,hx.bo b ⟨h,G⟩⟩⟩
 have hgv':∀c n,(c,n) ∈ y.rt→c<1000∨look qt c=none:=fun c n hm=>by
  rw [List.all_eq_true] at hgv
  have:=hgv _ hm
  simp_all
 have hqb':∀b,(look pb b).isSome =true→(look qb b).isSome =true:=fun b hb=>by
  obtain⟨vs,hvs⟩:=Bp hb
  rw [List.all_eq_true] at hqb
  exact hqb _ (Bd hvs)
 obtain⟨k1,k2,k3,k4,k5,k6⟩:=jb j.os j.td j.bd ho hpt Y e1 e2 e3 e4 e5 h1 hmz hqb' hgv' h3 h4
 have hcar:∀n t g p z,(n,.sub t g p,z) ∈ y.cv→(γ1.aft γc σ1 y).tl t→Carved (γ1.aft γc σ1 y) w' n t g p:=fun n t g p z hm hl=>by
  have U:γ1.tl t:=by
   rcases hl with hl|⟨c,hc,-⟩
   ·exact hl
   ·exfalso
    have hnone:=(ho.nt c t (Eo hc)).2
    have:=j.has n t g p z hm
    rw [hnone] at this; grind
  obtain⟨c1,c2,tk,d,c3,c4⟩:=j.cut n t g p z hm U
  have hi:=Rn hfc hm
  have hl3:(σ1.less y).T t=some tk:=by
   show (look (Rd y.rt σ1.t) t).join =_
   rw [LS,hi]
   exact c3
  have hh:=fV (j.os.tok t tk U c3).own c4 (w':=w') fun x hx=>k6 x ((j.os.tok t tk U c3).lt x hx) (PT j.os ho Y U hl3 x hx)
  have c5:=c1.ext k1
  exact⟨c5.tl,c5.gl,c5.tlt,c5.glt,by rw [k1.tv t U,k1.tv n c1.tl,hh]; exact c1.tv,c5.av,c5.hv⟩
 obtain⟨σ3,γ3,j1,j2⟩:=JF k2 k4 k5 hcar hun
 exact⟨v,γ3,σ3,bak y r,rfl,j1,VSim.mono j2.ext.vw j2.ext (k3 _ _ h2),(j.ext.trans k1).trans j2.ext,j2.os,j2.s.trans j.s,j2.td,j2.bd⟩
end
section
variable {cx:Cx} {w:World}
open Classical in
noncomputable def mix (V w:World) (F:Nat→Prop):World:= {w with heap:=w.heap.mapIdx fun i o=>if F i then o else (V.heap[i]?).getD (.cells #[] 0 (0,0))}
theorem Qq {V w} {F} {k} (h:F k):(mix V w F).heap[k]? =w.heap[k]? :=by
 unfold mix
 simp only [Array.getElem?_mapIdx,if_pos h]
 cases w.heap[k]? <;> rfl
theorem PV {V w} {F} {x} (hk:Keeps V w) (h:¬F x.block):(mix V w F).cell? x=V.cell? x:=by
 unfold World.cell? mix
 simp only [Array.getElem?_mapIdx,if_neg h]
 cases hw:w.heap[x.block]? with
 | none=>
  simp only [Option.map_none]
  cases hv:V.cell? x with
  |none=>grind [World.cell?]
  |some u=>
   have:=hk x u hv
   grind [World.cell?]
 |some o=>
  grind
theorem YN {V w} {F} {k} (h:¬F k) (hv:V.heap[k]? ≠none) (hl:k<w.heap.size):(mix V w F).heap[k]? =V.heap[k]? :=by
 grind [mix]
theorem Vu {V:World} {x:Addr} {u:Value} (h:V.cell? x=some u):V.heap[x.block]? ≠none:=by
 grind [World.cell?]
theorem dY {V w} {F} (hk:Keeps V w):Keeps (mix V w F) w:=by
 refine⟨fun x u j=>?_,fun x u j p=>?_⟩
 ·by_cases h:F x.block
  ·grind [World.cell?,Qq]
  ·rw [PV hk h] at j; exact hk x u j
 ·by_cases h:F x.block
  ·exact p.of (Qq h).symm
  ·rw [PV hk h] at j
   exact hk.pf x u j (p.of (YN h (Vu j) (World.block_lt_of_cell? w x (hk x u j))).symm)
theorem Wn {V w} {F} (hk:Keeps V w) (hd:∀g,F g→∀o,V.cell? ⟨g,o,none⟩=none):Keeps V (mix V w F):=by
 have p:∀x u,V.cell? x=some u→¬F x.block:=fun x u j h=>by
  rw [KS j,hd _ h] at j; cases j
 exact .mk' fun x u j=>YN (p x u j) (Vu j) (World.block_lt_of_cell? w x (hk x u j))
def Gh.grow (γ:Gh) (W:World):Gh:= {γ with vw:=W}
theorem Gh.grow_ext {γ} {W} (h:Keeps γ.vw W):Gh.Ext γ (γ.grow W):=⟨fun _ h=>h,fun _ _=>rfl,fun _ h=>h,fun _ _=>rfl,fun _ _=>rfl,fun _ _ _ h=>h,fun _ _ _ _=>rfl,h⟩
theorem OSim.grow {γ} {T T'} {B B'} {w} (hs:OSim cx γ T B w) {F} (hT:∀t tk,γ.tl t→T' t=some tk→T t=some tk) (hB:∀b vs,γ.bl b→B' b=some vs→B b=some vs)
  (hFv:∀g,F g→∀o,γ.vw.cell? ⟨g,o,none⟩=none) (hFt:∀t tk,γ.tl t→T' t=some tk→∀g ∈ γ.tf t,¬F g) (hFb:∀b vs,γ.bl b→B' b=some vs→¬F (γ.bb b)) (hFf:∀g,F g→cx.we.heap.size≤g∨cx.LF g):
  OSim cx (γ.grow (mix γ.vw w F)) T' B' w:=by
 have h:=hs.tables hT hB
 have hk:=h.vw.k
 have p:=Gh.grow_ext (γ:=γ) (Wn hk hFv)
 refine⟨h.frm,fun t tk h1 h2=>(h.tok t tk h1 h2).mono p.vw,h.tnd,h.tds,fun b vs h1 h2=>?_,h.bds,h.btd,h.tfr,h.bfr,h.hds,h.beg.trans p,⟨dY hk,fun t tk h1 h2 g hg o=>?_,fun b vs h1 h2 o=>?_,fun x u q=>?_⟩⟩
 ·obtain⟨us,h3,v⟩:=h.box b vs h1 h2
  exact⟨us,AH.mono p.vw p h3,v⟩
 ·exact(PV hk (hFt t tk h1 h2 g hg)).trans (h.vw.t t tk h1 h2 g hg o)
 ·exact(PV hk (hFb b vs h1 h2)).trans (h.vw.b b vs h1 h2 o)
 ·by_cases hF:F x.block
  ·grind
  ·have j:(mix γ.vw w F).cell? x=some u:=q
   rw [PV hk hF] at j
   exact h.vw.f x u j
theorem NV {α:Type} {t n:Nat} {x y:α} (h:only t x n=some y):n=t∧x=y:=by
 grind [only]
theorem jc {γ:Gh} {σ:St} {b:Nat} {vs:List AV} (hs:OSim cx γ σ.T σ.B w) (hbd:∀x,γ.bl x→(look σ.b x).isSome =true) (hB:σ.B b=some vs) (hp:1000≤b):
  ∃γ',Gh.Ext γ γ'∧OSim cx γ' (St.T ⟨σ.s,σ.t,(b,none)::σ.b⟩) (St.B ⟨σ.s,σ.t,(b,none)::σ.b⟩) w∧(∀x,γ'.tl x→γ.tl x)∧(∀x,γ'.bl x→(look ((b,none)::σ.b) x).isSome =true)∧∀a u,VSim γ.vw γ a u→VSim γ'.vw γ' (fzA b vs a) u:=by
 have I:∀x,St.B ⟨σ.s,σ.t,(b,none)::σ.b⟩ x=if x=b then none else σ.B x:=fun x=>by
  unfold St.B; simp only [AJ]; split <;> rfl
 have hg:=hs.grow (F:=fun g=>γ.bl b∧g=γ.bb b) (T':=σ.T) (B':=St.B ⟨σ.s,σ.t,(b,none)::σ.b⟩) (fun _ _ _ h=>h) (fun x C _ h=>by rw [I] at h; grind)
  (fun g j=>by rw [j.2]; exact hs.vw.b b vs j.1 hB) (fun x v hx h g hg j=>hs.btd b x vs v j.1 hx hB h (j.2 ▸ hg)) (fun x C hx h j=>by
   rw [I] at h
   split at h
   ·cases h
   ·rename_i G
    exact hs.bds x b C vs G hx j.1 h hB j.2) (fun g j=>by
   rcases hs.bfr b vs j.1 hB with h|⟨h,-⟩
   ·omega
   ·omega)
 generalize hW:mix γ.vw w (fun g=>γ.bl b∧g=γ.bb b)=W at hg
 have hk:Keeps γ.vw W:=by rw [← hW]; exact Wn hs.vw.k fun g j=>by rw [j.2]; exact hs.vw.b b vs j.1 hB
 have q:=Gh.grow_ext (γ:=γ) hk
 have p:VwOk W (γ.grow W) (fun _=>none) (only b vs) W:=by
  refine⟨Keeps.refl _,fun _ _ _ h=>(by cases h),fun x C hx h=>?_,fun _ _ _ h=>(by cases h)⟩
  obtain⟨rfl,rfl⟩:=NV h
  obtain⟨us,h3,O⟩:=hs.box x vs hx hB
  exact⟨us,AH.mono hk q h3,O.keep (by rw [← hW]; exact Qq ⟨hx,rfl⟩)⟩
 have U:∀a u x,VSim (γ.grow W).vw (γ.grow W) a u→cl (fun _=>none) (only b vs) a=some x→VSim (γ.grow W).vw (γ.grow W) x u:=fun a u x hv hx=>
  VSim.mono (Keeps.refl _) (JB _) (JA p hv hx)
 refine⟨γ.grow W,q,hg,fun x h=>h,fun x hx=>?_,fun a u hv=>?_⟩
 ·rw [AJ]; split
  ·rfl
  ·exact hbd x hx
 ·have J:VSim (γ.grow W).vw (γ.grow W) a u:=VSim.mono q.vw q hv
  have key:VSim (γ.grow W).vw (γ.grow W) ((cl (fun _=>none) (only b vs) a).getD a) u:=by
   cases hc:cl (fun _=>none) (only b vs) a with
   |none=>grind
   |some x=>grind
  unfold fzA
  grind
theorem Ro {f} {K} {us}:∀ {bs} {γ} {σ} {j},OSim cx γ σ.T σ.B w→(∀x,γ.tl x→(look σ.t x).isSome =true)→(∀x,γ.bl x→(look σ.b x).isSome =true)→
  FzK bs j σ (fun j σ=>VV cx.P f j σ K)→AH γ.vw γ j us→
  GU cx.P f=true∧Calls cx.P f us.toArray w (fun e w'=>∃v γ' σ' r,e= .returned v∧K r σ'∧VSim γ'.vw γ' r v∧Gh.Ext γ γ'∧OSim cx γ' σ'.T σ'.B w'∧σ'.s=σ.s∧(∀x,γ'.tl x→(look σ'.t x).isSome =true)∧(∀x,γ'.bl x→(look σ'.b x).isSome =true))
 | [],γ,σ,j,hs,htd,hbd,h,hv=>YM hs htd hbd h hv
 | b::bs,γ,σ,j,hs,htd,hbd,h,hv=>by
  obtain⟨vs,G,⟨hp,-⟩,h⟩:=h
  obtain⟨γ1,C,h1,h2,h3,I⟩:=jc hs hbd G hp
  have hm:∀ {l:List AV} {us:List Value},AH γ.vw γ l us→AH γ1.vw γ1 (l.map (fzA b vs)) us:=by
   intro l
   induction l with
   |nil=>grind [AH]
   |cons a l ih=>
    grind [AH]
  obtain⟨k1,k2⟩:=Ro (bs:=bs) (σ:=⟨σ.s,σ.t,(b,none)::σ.b⟩) h1 (fun x hx=>htd x (h2 x hx)) h3 h (hm hv)
  refine⟨k1,k2.mono ?_⟩
  rintro e w' ⟨v,γ',σ',r,rfl,F,q,u,p⟩
  exact⟨v,γ',σ',r,rfl,F,q,C.trans u,p⟩
end
end Go.Proofs.YthenkmapmnkelaaGreatDoor.Ab
