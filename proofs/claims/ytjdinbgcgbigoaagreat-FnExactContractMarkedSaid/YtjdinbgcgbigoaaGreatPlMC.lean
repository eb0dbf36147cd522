/-
  Core terms,marked and found marked again. No program is in sight.
-/
import Derived.Test.YtjdinbgcgbigoaaGreatPlM
import Derived.Test.YtjdinbgcgbigoaaGreatMod
import Derived.Test.YtjdinbgcgbigoaaGreatAbZ
namespace Go.Proofs.YtjdinbgcgbigoaaGreat.Ab
set_option linter.unusedVariables false
set_option linter.unusedSimpArgs false
open Go.RowKit
theorem markInt64S_eq (l : List Int) (k : Nat) (h : l.length ≤ Big) (hk : k + cnts one l ≤ KB) : l_markInt64S l (k : Int) = some (((k + cnts one l : Nat) : Int),mks mkI one k l) := by
 unfold l_markInt64S
 refine gMark (fun n l k i => l_markInt64S_l1 n l k i) mkI one (fun _ => True) ?_ ?_ l k (fun _ _ => trivial) h hk
 ·intro n pre post x k hx hk hp
  have e : k + one x = k + 1 := by rfl
  rw [e] at hk ⊢
  rw [l_markInt64S_l1,if_pos lt_mid]
  simp (disch := omega) only [at_mid,set_mid,bind_some',wk,wrap_len]
  rfl
 ·intro n l k; rw [l_markInt64S_l1,if_neg (by rw [ge_len]; decide)]
theorem heldInt64S_eq (l : List Int) (k : Nat) (h : l.length ≤ Big) (hk : k + cnts one l ≤ KB) : l_heldInt64S (mks mkI one k l) (k : Int) = some ((k + cnts one l : Nat) : Int) := by
 unfold l_heldInt64S
 refine gHeld (fun n l k i => l_heldInt64S_l1 n l k i) mkI one (fun _ => True) ?_ ?_ l k (fun _ _ => trivial) h hk
 ·intro n pre post x k hx hk hp
  have e : k + one x = k + 1 := by rfl
  rw [e] at hk ⊢
  rw [l_heldInt64S_l1,if_pos lt_mid]
  simp (disch := omega) only [mkI,at_mid,bind_some',wk,wrap_len,eq_self,decide_true,Bool.not_true,Bool.false_eq_true,reduceIte]
 ·intro n l k; rw [l_heldInt64S_l1,if_neg (by rw [ge_len]; decide)]
theorem Core.fits_ok : ∀ (c : Core),oksC (Core.ds c) → c.Fits := by
 refine Core.ind fun c ih h => ?_
 rw [Core.ds_eq] at h
 simp only [oksC,D.ok,List.length_map] at h
 obtain ⟨-,-,⟨hd,-⟩,⟨hk,hr⟩,-⟩ := h
 exact ⟨c,hd,hk,fun k hkk => ih k hkk (oksR_mem hr hkk)⟩
mutual
def Core.cnt : Core → Nat
 | ⟨_,_,d,ks⟩ => 1 + 1 + Ab.cnts one d + Core.cnts ks
def Core.cnts : List Core → Nat
 | [] => 0
 | c :: cs => Core.cnt c + Core.cnts cs
end
theorem Core.cnt_eq (c : Core) : c.cnt = 1 + 1 + Ab.cnts one c.data + Core.cnts c.kids := by cases c; rw [Core.cnt]
mutual
def Core.mk1 : Nat → Core → Core
 | k,⟨_,_,d,ks⟩ => ⟨(k : Int),((k + 1 : Nat) : Int),Ab.mks mkI one (k + 1 + 1) d,Core.mks (k + 1 + 1 + Ab.cnts one d) ks⟩
def Core.mks : Nat → List Core → List Core
 | _,[] => []
 | k,c :: cs => Core.mk1 k c :: Core.mks (k + Core.cnt c) cs
end
theorem Core.mk1_eq (k : Nat) (c : Core) : Core.mk1 k c = ⟨(k : Int),((k + 1 : Nat) : Int),Ab.mks mkI one (k + 1 + 1) c.data,Core.mks (k + 1 + 1 + Ab.cnts one c.data) c.kids⟩ := by cases c; rw [Core.mk1]
mutual
theorem Core.cnt_le : ∀ c : Core,c.cnt ≤ 2 + 2 * c.sz
 | ⟨k,v,d,ks⟩ => by
  rw [Core.cnt,Core.sz]
  have := cnts_flat (c := one) (b := 1) (l := d) (fun x => one_le)
  have := Core.cnts_le ks
  omega
theorem Core.cnts_le : ∀ l : List Core,Core.cnts l ≤ 2 * Core.szs l
 | [] => by simp [Core.cnts,Core.szs]
 | c :: cs => by
  rw [Core.cnts,Core.szs]
  have := Core.cnt_le c
  have := Core.cnts_le cs
  omega
end
theorem markCore_all : ∀ n : Nat,(∀ (l : List Core) (k : Nat),2 * Core.szs l + 2 ≤ n → Core.szs l ≤ Big → k + Core.cnts l ≤ KB → l_markCoreS n l (k : Int) = some (((k + Core.cnts l : Nat) : Int),Core.mks k l)) ∧
  (∀ (pre post : List Core) (k : Nat),2 * Core.szs post + 1 ≤ n → pre.length + post.length ≤ Big → Core.szs post ≤ Big → k + Core.cnts post ≤ KB →
   l_markCoreS_l1 n (pre ++ post) (k : Int) ((List.length pre : Nat) : Int) = some (((k + Core.cnts post : Nat) : Int),pre ++ Core.mks k post)) := by
 intro n
 induction n with
 | zero => exact ⟨fun l k h => by omega,fun pre post k h => by omega⟩
 | succ n ih =>
  refine ⟨fun l k h hs hk => ?_,fun pre post k h hl hs hk => ?_⟩
  ·rw [l_markCoreS]
   exact ih.2 [] l k (by omega) (by have := Core.len_szs l; simp; omega) hs hk
  ·cases post with
   | nil => rw [List.append_nil,l_markCoreS_l1,if_neg (by rw [ge_len]; decide),Core.cnts,Core.mks,List.append_nil]; rfl
   | cons x post =>
    rw [Core.szs] at h hs
    rw [Core.cnts] at hk ⊢
    rw [List.length_cons] at hl
    have e : k + (Core.cnt x + Core.cnts post) = k + 1 + 1 + Ab.cnts one x.data + Core.cnts x.kids + Core.cnts post := by rw [Core.cnt_eq]; omega
    rw [e] at hk ⊢
    rw [Core.sz_eq] at h hs
    rw [l_markCoreS_l1,if_pos lt_mid]
    simp (disch := omega) only [at_mid,set_mid,bind_some',wk,wrap_len,markInt64S_eq,ih.1]
    have hx : Core.mk1 k x = ⟨(k : Int),((k + 1 : Nat) : Int),Ab.mks mkI one (k + 1 + 1) x.data,Core.mks (k + 1 + 1 + Ab.cnts one x.data) x.kids⟩ := Core.mk1_eq k x
    rw [← hx]
    have := ih.2 (pre ++ [Core.mk1 k x]) post (k + 1 + 1 + Ab.cnts one x.data + Core.cnts x.kids) (by omega) (by simp; omega) (by omega) (by omega)
    rw [List.append_assoc,List.append_assoc,List.length_append] at this
    simp only [List.cons_append,List.nil_append,List.length_cons,List.length_nil,Nat.zero_add] at this
    rw [this,Core.mks,show k + Core.cnt x = k + 1 + 1 + Ab.cnts one x.data + Core.cnts x.kids from by rw [Core.cnt_eq]; omega]
theorem heldCore_all : ∀ n : Nat,(∀ (l : List Core) (k : Nat),2 * Core.szs l + 2 ≤ n → Core.szs l ≤ Big → k + Core.cnts l ≤ KB → l_heldCoreS n (Core.mks k l) (k : Int) = some ((k + Core.cnts l : Nat) : Int)) ∧
  (∀ (pre post : List Core) (k : Nat),2 * Core.szs post + 1 ≤ n → pre.length + post.length ≤ Big → Core.szs post ≤ Big → k + Core.cnts post ≤ KB →
   l_heldCoreS_l1 n (pre ++ Core.mks k post) (k : Int) ((List.length pre : Nat) : Int) = some ((k + Core.cnts post : Nat) : Int)) := by
 intro n
 induction n with
 | zero => exact ⟨fun l k h => by omega,fun pre post k h => by omega⟩
 | succ n ih =>
  refine ⟨fun l k h hs hk => ?_,fun pre post k h hl hs hk => ?_⟩
  ·rw [l_heldCoreS]
   exact ih.2 [] l k (by omega) (by have := Core.len_szs l; simp; omega) hs hk
  ·cases post with
   | nil => rw [Core.mks,List.append_nil,l_heldCoreS_l1,if_neg (by rw [ge_len]; decide),Core.cnts]; rfl
   | cons x post =>
    rw [Core.szs] at h hs
    rw [Core.cnts] at hk ⊢
    rw [List.length_cons] at hl
    have e : k + (Core.cnt x + Core.cnts post) = k + 1 + 1 + Ab.cnts one x.data + Core.cnts x.kids + Core.cnts post := by rw [Core.cnt_eq]; omega
    rw [e] at hk ⊢
    rw [Core.sz_eq] at h hs
    rw [Core.mks,l_heldCoreS_l1,if_pos lt_mid]
    have hx : Core.mk1 k x = ⟨(k : Int),((k + 1 : Nat) : Int),Ab.mks mkI one (k + 1 + 1) x.data,Core.mks (k + 1 + 1 + Ab.cnts one x.data) x.kids⟩ := Core.mk1_eq k x
    have h1 : (Core.mk1 k x).kind = (k : Int) := by rw [hx]
    have h2 : (Core.mk1 k x).value = ((k + 1 : Nat) : Int) := by rw [hx]
    have h3 : (Core.mk1 k x).data = Ab.mks mkI one (k + 1 + 1) x.data := by rw [hx]
    have h4 : (Core.mk1 k x).kids = Core.mks (k + 1 + 1 + Ab.cnts one x.data) x.kids := by rw [hx]
    simp (disch := omega) only [at_mid,bind_some',h1,h2,h3,h4,wk,wrap_len,nneg,eq_self,decide_true,Bool.not_true,Bool.false_eq_true,reduceIte,heldInt64S_eq,ih.1]
    have := ih.2 (pre ++ [Core.mk1 k x]) post (k + 1 + 1 + Ab.cnts one x.data + Core.cnts x.kids) (by omega) (by simp; omega) (by omega) (by omega)
    rw [List.append_assoc,List.length_append] at this
    simp only [List.cons_append,List.nil_append,List.length_cons,List.length_nil,Nat.zero_add] at this
    rw [show k + Core.cnt x = k + 1 + 1 + Ab.cnts one x.data + Core.cnts x.kids from by rw [Core.cnt_eq]; omega]
    exact this
theorem markCoreS_eq (l : List Core) (k : Nat) (h : Core.szs l ≤ Big) (hk : k + Core.cnts l ≤ KB) : l_markCoreS fuel l (k : Int) = some (((k + Core.cnts l : Nat) : Int),Core.mks k l) :=
 (markCore_all fuel).1 l k (by rw [fuel_eq]; unfold Big at h; omega) h hk
theorem heldCoreS_eq (l : List Core) (k : Nat) (h : Core.szs l ≤ Big) (hk : k + Core.cnts l ≤ KB) : l_heldCoreS fuel (Core.mks k l) (k : Int) = some ((k + Core.cnts l : Nat) : Int) :=
 (heldCore_all fuel).1 l k (by rw [fuel_eq]; unfold Big at h; omega) h hk
def Core.mkV (k : Nat) (c : Core) : Core := ⟨c.kind,c.value,Ab.mks mkI one k c.data,Core.mks (k + Ab.cnts one c.data) c.kids⟩
def Core.cntV (c : Core) : Nat := Ab.cnts one c.data + Core.cnts c.kids
theorem Core.cntV_le (c : Core) : c.cntV ≤ 2 * c.sz := by
 rw [Core.cntV,Core.sz_eq]
 have := cnts_flat (c := one) (b := 1) (l := c.data) (fun x => one_le)
 have := Core.cnts_le c.kids
 omega
theorem markCore_eq (c : Core) (k : Nat) (h : c.sz ≤ Big) (hk : k + c.cntV ≤ KB) : l_markCore c (k : Int) = some (((k + c.cntV : Nat) : Int),(Core.mkV k c).data,(Core.mkV k c).kids) := by
 have h1 := Core.cntV_le c
 rw [Core.cntV] at h1
 have h2 := Core.sz_eq c
 rw [Core.cntV] at hk
 unfold l_markCore
 rw [markInt64S_eq _ _ (by omega) (by omega),bind_some',markCoreS_eq _ _ (by omega) (by omega),bind_some']
 simp only [Core.mkV,Core.cntV,Nat.add_assoc]
theorem heldCore_eq (c : Core) (k : Nat) (h : c.sz ≤ Big) (hk : k + c.cntV ≤ KB) : l_heldCore (Core.mkV k c) (k : Int) = some ((k + c.cntV : Nat) : Int) := by
 have h1 := Core.cntV_le c
 rw [Core.cntV] at h1
 have h2 := Core.sz_eq c
 rw [Core.cntV] at hk
 unfold l_heldCore Core.mkV
 rw [heldInt64S_eq _ _ (by omega) (by omega),bind_some',if_neg (by rw [nneg]; decide),heldCoreS_eq _ _ (by omega) (by omega),bind_some',if_neg (by rw [nneg]; decide)]
 simp only [Core.cntV,Nat.add_assoc]
end Go.Proofs.YtjdinbgcgbigoaaGreat.Ab
