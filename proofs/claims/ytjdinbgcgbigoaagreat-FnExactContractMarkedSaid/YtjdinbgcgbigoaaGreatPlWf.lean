/-
  Core terms with their variables replaced keep the right form,and no free variable is too great. No program is in sight.
-/
import Derived.Test.YtjdinbgcgbigoaaGreatPlSh
namespace Go.Proofs.YtjdinbgcgbigoaaGreat.Ab
set_option linter.unusedVariables false
set_option linter.unusedSimpArgs false
open Go.RowKit
theorem nodeOk_len {k v : Int} {d : List Int} {a b : List Core} (h : a.length = b.length) : nodeOk ⟨k,v,d,a⟩ = nodeOk ⟨k,v,d,b⟩ := by
 unfold nodeOk valOk
 simp only [h]
theorem nodeOk_varC {v : Int} (h0 : 0 ≤ v) (h1 : v ≤ 255) : nodeOk (varC v) = true := by
 unfold nodeOk valOk varC shape
 simp
 omega
theorem wf_varC {v : Int} (h0 : 0 ≤ v) (h1 : v ≤ 255) : (varC v).wf = true := by
 rw [Core.wf_eq,nodeOk_varC h0 h1]
 simp [varC,Core.wfs]
theorem above_varC {v : Int} {n : Nat} (h : v < (n : Int)) : (varC v).above n = false := by
 rw [Core.above_eq,if_pos (by rfl)]
 show decide ((n : Int) ≤ v) = false
 simpa using h
theorem var_below {c : Core} {n : Nat} (h1 : c.kind = 1) (h : c.above n = false) : c.value < (n : Int) := by
 rw [Core.above_eq,if_pos h1] at h
 simp at h; omega
theorem wfs_all : ∀ {l : List Core},(∀ x ∈ l,x.wf = true) → Core.wfs l = true
 | [],_ => by rw [Core.wfs]
 | c :: cs,h => by rw [Core.wfs,h c (by simp),wfs_all fun x hx => h x (by simp [hx])]; rfl
theorem kid_depth {x : Core} : ∀ {l : List Core},x ∈ l → x.depth ≤ Core.depths l
 | c :: cs,h => by
  rw [Core.depths]
  rcases List.mem_cons.1 h with rfl | h
  ·omega
  ·have := kid_depth h; omega
theorem len_nodess : ∀ l : List Core,l.length ≤ Core.nodess l
 | [] => by simp
 | c :: cs => by rw [Core.nodess,List.length_cons]; have := c.nodes_pos; have := len_nodess cs; omega
theorem nodess_mem {x : Core} : ∀ {l : List Core},x ∈ l → x.nodes ≤ Core.nodess l
 | c :: cs,h => by
  rw [Core.nodess]
  rcases List.mem_cons.1 h with rfl | h
  ·omega
  ·have := nodess_mem h; omega
theorem small_of_wf : ∀ (c : Core),c.wf = true → c.nodes ≤ Big → c.Small := by
 refine Core.ind fun c ih hw hn => ?_
 obtain ⟨hno,hwk⟩ := nodeOk_of hw
 rw [Core.nodes_eq] at hn
 have hd : c.data.length ≤ 4 := by
  unfold nodeOk at hno
  simp only [Bool.and_eq_true] at hno
  exact nodeOk_data hno.1.1.2
 have := len_nodess c.kids
 exact ⟨c,by unfold Big at *; omega,by omega,fun k hk => ih k hk (wfs_mem hk hwk) (by have := nodess_mem hk; omega)⟩
theorem not_great : ∀ (c : Core),c.wf = true → c.anyC great = false := by
 refine Core.ind fun c ih hw => ?_
 obtain ⟨hno,hwk⟩ := nodeOk_of hw
 rw [Core.anyC_eq,Core.anysC_any]
 have h1 : great c = false := by
  unfold great
  by_cases h : c.kind = 1
  ·have := (var_val hno h).2; simp; omega
  ·simp [h]
 have h2 : c.kids.any (Core.anyC great) = false := by
  rw [List.any_eq_false]
  intro x hx
  rw [ih x hx (wfs_mem hx hwk)]; simp
 rw [h1,h2]; rfl
mutual
theorem sh_wf (A b : Nat) : ∀ (c : Core) (n : Nat),c.wf = true → c.above (A + n) = false → A + b + n + c.depth ≤ 256 → (c.mv (shF b) n).wf = true
 | ⟨k,v,d,ks⟩,n,h,ha,hd => by
  obtain ⟨hno,hwk⟩ := nodeOk_of h
  rw [Core.depth] at hd
  rw [Core.mv]
  by_cases h1 : k = 1
  ·have h2 := var_below (c := ⟨k,v,d,ks⟩) h1 ha
   have h3 := var_val hno h1
   rw [if_pos h1]
   unfold shF
   simp only at h2 h3 ⊢
   split
   ·exact wf_varC (by omega) (by omega)
   ·exact wf_varC (by omega) (by omega)
  ·rw [if_neg h1,Core.wf,nodeOk_len (Core.mvs_len _ _ _ _ _)]
   rw [Core.above,if_neg h1] at ha
   have hno' : nodeOk ⟨k,v,d,ks⟩ = true := hno
   rw [hno',shs_wf A b k ks 0 n hwk ha (by omega)]; rfl
theorem shs_wf (A b : Nat) (k : Int) : ∀ (l : List Core) (i n : Nat),Core.wfs l = true → Core.aboves k l i (A + n) = false → A + b + n + Core.depths l + 1 ≤ 256 → Core.wfs (Core.mvs (shF b) k l i n) = true
 | [],_,_,_,_,_ => by rw [Core.mvs,Core.wfs]
 | c :: cs,i,n,h,ha,hd => by
  rw [Core.wfs,Bool.and_eq_true] at h
  rw [Core.aboves,Bool.or_eq_false_iff] at ha
  rw [Core.depths] at hd
  have hb := bnd_le k i
  rw [Core.mvs,Core.wfs,sh_wf A b c (n + bnd k i) h.1 (by rw [← Nat.add_assoc]; exact ha.1) (by omega),shs_wf A b k cs (i + 1) n h.2 ha.2 (by omega)]; rfl
end
mutual
theorem sh_above (A b : Nat) : ∀ (c : Core) (n : Nat),c.above (A + n) = false → (c.mv (shF b) n).above (A + b + n) = false
 | ⟨k,v,d,ks⟩,n,ha => by
  rw [Core.mv]
  by_cases h1 : k = 1
  ·have h2 := var_below (c := ⟨k,v,d,ks⟩) h1 ha
   rw [if_pos h1]
   unfold shF
   simp only at h2 ⊢
   split
   ·exact above_varC (by omega)
   ·exact above_varC (by omega)
  ·rw [if_neg h1,Core.above,if_neg h1]
   rw [Core.above,if_neg h1] at ha
   exact shs_above A b k ks 0 n ha
theorem shs_above (A b : Nat) (k : Int) : ∀ (l : List Core) (i n : Nat),Core.aboves k l i (A + n) = false → Core.aboves k (Core.mvs (shF b) k l i n) i (A + b + n) = false
 | [],_,_,_ => by rw [Core.mvs,Core.aboves]
 | c :: cs,i,n,ha => by
  rw [Core.aboves,Bool.or_eq_false_iff] at ha
  rw [Core.mvs,Core.aboves,Bool.or_eq_false_iff]
  refine ⟨?_,shs_above A b k cs (i + 1) n ha.2⟩
  have := sh_above A b c (n + bnd k i) (by rw [← Nat.add_assoc]; exact ha.1)
  rw [Nat.add_assoc]; exact this
end
mutual
theorem put_wf (A : Nat) (t : Core) (ht : t.wf = true) (hta : t.above A = false) (hA : A + t.depth ≤ 170) : ∀ (c : Core) (n : Nat),c.wf = true → c.above (A + 1 + n) = false → n + c.depth ≤ 85 → (c.mv (putF t) n).wf = true
 | ⟨k,v,d,ks⟩,n,h,ha,hd => by
  obtain ⟨hno,hwk⟩ := nodeOk_of h
  rw [Core.depth] at hd
  rw [Core.mv]
  by_cases h1 : k = 1
  ·have h2 := var_below (c := ⟨k,v,d,ks⟩) h1 ha
   have h3 := var_val hno h1
   rw [if_pos h1]
   unfold putF
   simp only at h2 h3 ⊢
   split
   ·exact sh_wf A n t 0 ht hta (by omega)
   ·split
    ·exact wf_varC (by omega) (by omega)
    ·exact wf_varC (by omega) (by omega)
  ·rw [if_neg h1,Core.wf,nodeOk_len (Core.mvs_len _ _ _ _ _)]
   rw [Core.above,if_neg h1] at ha
   have hno' : nodeOk ⟨k,v,d,ks⟩ = true := hno
   rw [hno',puts_wf A t ht hta hA k ks 0 n hwk ha (by omega)]; rfl
theorem puts_wf (A : Nat) (t : Core) (ht : t.wf = true) (hta : t.above A = false) (hA : A + t.depth ≤ 170) (k : Int) : ∀ (l : List Core) (i n : Nat),Core.wfs l = true → Core.aboves k l i (A + 1 + n) = false → n + Core.depths l + 1 ≤ 85 → Core.wfs (Core.mvs (putF t) k l i n) = true
 | [],_,_,_,_,_ => by rw [Core.mvs,Core.wfs]
 | c :: cs,i,n,h,ha,hd => by
  rw [Core.wfs,Bool.and_eq_true] at h
  rw [Core.aboves,Bool.or_eq_false_iff] at ha
  rw [Core.depths] at hd
  have hb := bnd_le k i
  rw [Core.mvs,Core.wfs,put_wf A t ht hta hA c (n + bnd k i) h.1 (by rw [← Nat.add_assoc]; exact ha.1) (by omega),puts_wf A t ht hta hA k cs (i + 1) n h.2 ha.2 (by omega)]; rfl
end
mutual
theorem put_above (A : Nat) (t : Core) (hta : t.above A = false) : ∀ (c : Core) (n : Nat),c.above (A + 1 + n) = false → (c.mv (putF t) n).above (A + n) = false
 | ⟨k,v,d,ks⟩,n,ha => by
  rw [Core.mv]
  by_cases h1 : k = 1
  ·have h2 := var_below (c := ⟨k,v,d,ks⟩) h1 ha
   rw [if_pos h1]
   unfold putF
   simp only at h2 ⊢
   split
   ·exact sh_above A n t 0 hta
   ·split
    ·exact above_varC (by omega)
    ·exact above_varC (by omega)
  ·rw [if_neg h1,Core.above,if_neg h1]
   rw [Core.above,if_neg h1] at ha
   exact puts_above A t hta k ks 0 n ha
theorem puts_above (A : Nat) (t : Core) (hta : t.above A = false) (k : Int) : ∀ (l : List Core) (i n : Nat),Core.aboves k l i (A + 1 + n) = false → Core.aboves k (Core.mvs (putF t) k l i n) i (A + n) = false
 | [],_,_,_ => by rw [Core.mvs,Core.aboves]
 | c :: cs,i,n,ha => by
  rw [Core.aboves,Bool.or_eq_false_iff] at ha
  rw [Core.mvs,Core.aboves,Bool.or_eq_false_iff]
  refine ⟨?_,puts_above A t hta k cs (i + 1) n ha.2⟩
  have := put_above A t hta c (n + bnd k i) (by rw [← Nat.add_assoc]; exact ha.1)
  rw [Nat.add_assoc]; exact this
end
end Go.Proofs.YtjdinbgcgbigoaaGreat.Ab
