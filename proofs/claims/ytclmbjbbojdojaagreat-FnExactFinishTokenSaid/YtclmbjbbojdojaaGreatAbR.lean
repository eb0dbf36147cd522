/-
  The abstract walk: code ('awp_sound').
-/
import Derived.Test.YtclmbjbbojdojaaGreatAbO
import Derived.Deep.LoopGhost
namespace Go.Proofs.YtclmbjbbojdojaaGreat.Ab
set_option linter.unusedVariables false
set_option maxHeartbeats 1000000
open Go.RowKit
def HA (N:Nat):Code→Bool
 | .region _ ops draw=>ops.toList.all (E9 N)
 | .seq a b=>HA N a&&HA N b
 | .cond _ t f=>HA N t&&HA N f
 | .block _ c=>HA N c
 | .loop c=>HA N c
 |_=>true
def AE.to:AE→Exit
 | .normal =>.normal
 | .exit id=>.exit id
 | .ret =>.ret
def AQ (cx:Cx) (N:Nat) (Q:AE→St→Prop) (e:Exit) (a:Act) (w:World):Prop:=∃q σ,e=AE.to q∧Q q σ∧SimE cx N σ a w
section
variable {cx:Cx} {N:Nat}
def L8 (P:Program) (c:Code) (Q:Exit→Act→World→Prop) (a:Act) (w:World):Prop:=
 ∀ (b:Frame) (k:List Item) (cs:List Frame),∃e a' w',Q e a' w'∧Arrives P (lone (b.at a (.code c:: .inLoop c::k)) cs w) b k cs e a' w'
theorem L8.loop {P} {c} {Q} {a} {w} (h:L8 P c Q a w):(Code.loop c).wp P Q a w:=fun b k cs=>by
 obtain⟨e,a',w',hq,harr⟩:=h b k cs
 exact⟨e,a',w',hq,.of_steps (.one step_loop) harr⟩
theorem L8.of {P} {c} {Q} {a} {w} (h:c.wp P (Exit.then (L8 P c Q) Q) a w):L8 P c Q a w:=by
 intro b k cs
 obtain⟨e,a₁,w₁,hq,harr⟩:=h b (.inLoop c::k) cs
 cases e with
 |normal=>
  obtain⟨e₂,a₂,w₂,hq₂,harr₂⟩:=hq b k cs
  exact⟨e₂,a₂,w₂,hq₂,.of_steps (Steps.trans harr (.one step_inLoop)) harr₂⟩
 |exit id=>exact⟨_,a₁,w₁,hq,.pass (x:=.inLoop c) rfl (fun _ _=>.inl (by simp)) harr⟩
 |goto l=>exact⟨_,a₁,w₁,hq,.pass (x:=.inLoop c) rfl (fun _ _=>.inl (by simp)) harr⟩
 |ret=>exact⟨_,a₁,w₁,hq,.pass (x:=.inLoop c) rfl (fun _ _=>.inl (by simp)) harr⟩
 |panic ch=>exact⟨_,a₁,w₁,hq,.pass (x:=.inLoop c) rfl (fun _ _=>.inl (by simp)) harr⟩
 |outgrown=>exact⟨_,a₁,w₁,hq,.pass (x:=.inLoop c) rfl (fun _ _=>.inl (by simp)) harr⟩
theorem fH {σ} {a} {w} {c} {b} (hs:SimE cx N σ a w) (h:σ.e c= .bool b):a.eval c= .bool b:=by
 obtain⟨γ,hs⟩:=hs
 cases c with
 |tmp t=>
  have:=hs.sl t
  have h':σ.g t= .bool b:=h
  rw [h'] at this
  simp only [VSim] at this
  exact this
 |const v=>
  have h':Bd v= .bool b:=h
  unfold Bd at h'
  split at h' <;> first|(cases h'; rfl)|cases h'
 |func f=>cases h
 |global g=>cases h
theorem QS {σ σ0} {a} {w} (h:Wk σ σ0):SimE cx N σ a w→SimE cx N σ0 a w:=by
 induction h with
 |nil σ=>exact id
 |cons h _ ih=>grind [Z4]
 |fz h _ ih=>grind [J6]
theorem Gz (hm:cx.P.follows .mixedOrders =true):∀ (c:Code) (Q:AE→St→Prop) (σ:St) (a:Act) (w:World),HA N c=true→awp cx.P c Q σ→SimE cx N σ a w→c.wp cx.P (AQ cx N Q) a w
 | .skip,Q,σ,a,w,hc,h,hs=>wp_skip ⟨.normal,σ,rfl,h,hs⟩
 | .exit id,Q,σ,a,w,hc,h,hs=>wp_exit ⟨.exit id,σ,rfl,h,hs⟩
 | .ret,Q,σ,a,w,hc,h,hs=>wp_ret ⟨.ret,σ,rfl,h,hs⟩
 | .region id ops draw,Q,σ,a,w,hc,h,hs=>by
  simp only [HA,List.all_eq_true] at hc
  rw [awp] at h
  unfold cX at h
  cases draw with
  |false=>exact wp_region_list (LV hc h hs fun σ' a' w' hk hs'=>⟨.normal,σ',rfl,hk,hs'⟩)
  | true=>
   rcases h with ⟨E,V,tr,hE,h⟩|h|h
   case inr.inl=>exact Z8 hm hc h hs fun σ' a' w' hk hs'=>⟨.normal,σ',rfl,hk,hs'⟩
   case inr.inr=>
    refine wp_mono (h cx N id a w rfl (fun o ho d hd=>?_) hs) ?_
    ·have h1:=hc o ho
     unfold E9 at h1
     rw [hd] at h1
     simp only [Bool.and_eq_true,decide_eq_true_eq] at h1
     exact h1.2
    rintro e a' w' ⟨rfl,σ',hk,hs'⟩
    exact⟨.normal,σ',rfl,hk,hs'⟩
   exact Z7 hm hc (fun c a w ⟨q,σ,h,_⟩=>by cases q <;> cases h) hE h hs fun σ' a' w' hk hs'=>⟨.normal,σ',rfl,hk,hs'⟩
 | .seq x y,Q,σ,a,w,hc,h,hs=>by
  simp only [HA,Bool.and_eq_true] at hc
  refine wp_seq (wp_mono (Gz hm x _ σ a w hc.1 h hs) ?_)
  rintro e a' w' ⟨q,σ',rfl,hq,hs'⟩
  cases q with
  | normal=>
   have hq':seqW (Jy x) (awp cx.P y Q) σ':=hq
   unfold seqW at hq'
   split at hq'
   ·exact Gz hm y Q σ' a' w' hc.2 hq' hs'
   ·obtain⟨σ1,h1,h2⟩:=hq'
    exact Gz hm y Q σ1 a' w' hc.2 h2 (QS h1 hs')
  |exit id=>exact⟨.exit id,σ',rfl,hq,hs'⟩
  |ret=>exact⟨.ret,σ',rfl,hq,hs'⟩
 | .cond c x y,Q,σ,a,w,hc,h,hs=>by
  simp only [HA,Bool.and_eq_true] at hc
  obtain⟨b,hb,ht,hf⟩:=h
  exact wp_cond_split (fH hs hb) (fun e=>Gz hm x Q σ a w hc.1 (ht e) hs) fun e=>Gz hm y Q σ a w hc.2 (hf e) hs
 | .block id c,Q,σ,a,w,hc,h,hs=>by
  refine wp_block (wp_mono (Gz hm c _ σ a w hc h hs) ?_)
  rintro e a' w' ⟨q,σ',rfl,hq,hs'⟩
  cases q with
  |normal=>exact⟨.normal,σ',rfl,hq,hs'⟩
  |exit i=>
   simp only [AE.inBlock] at hq
   simp only [AE.to,Exit.inBlock]
   by_cases hi:i=id
   ·rw [if_pos hi] at hq ⊢; exact⟨.normal,σ',rfl,hq,hs'⟩
   ·rw [if_neg hi] at hq ⊢; exact⟨.exit i,σ',rfl,hq,hs'⟩
  |ret=>exact⟨.ret,σ',rfl,hq,hs'⟩
 | .loop c,Q,σ,a,w,hc,h,hs=>by
  have hL:∀σ,awp cx.P c (AE.then (fun σ'=>∃σ1,Wk σ' σ1∧∀a w,SimE cx N σ1 a w→L8 cx.P c (AQ cx N Q) a w) Q) σ→∀a w,SimE cx N σ a w→L8 cx.P c (AQ cx N Q) a w:=by
   intro σ hσ a w hs
   refine L8.of (wp_mono (Gz hm c _ σ a w hc hσ hs) ?_)
   rintro e a' w' ⟨q,σ',rfl,hq,hs'⟩
   cases q with
   |normal=>
    obtain⟨σ1,h1,h2⟩:=hq
    exact h2 a' w' (QS h1 hs')
   |exit id=>exact⟨.exit id,σ',rfl,hq,hs'⟩
   |ret=>exact⟨.ret,σ',rfl,hq,hs'⟩
  obtain⟨σ0,hw0,h0⟩:=h (fun σ=>∀a w,SimE cx N σ a w→L8 cx.P c (AQ cx N Q) a w) hL
  exact(h0 a w (QS hw0 hs)).loop
end
end Go.Proofs.YtclmbjbbojdojaaGreat.Ab
