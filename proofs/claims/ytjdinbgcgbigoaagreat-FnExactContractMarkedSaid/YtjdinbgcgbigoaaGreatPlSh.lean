/-
  Core terms with their variables replaced: shifting,instantiating. No program is in sight.
-/
import Derived.Test.YtjdinbgcgbigoaaGreatPlC
import Derived.Test.YtjdinbgcgbigoaaGreatModI
namespace Go.Proofs.YtjdinbgcgbigoaaGreat.Ab
set_option linter.unusedVariables false
set_option linter.unusedSimpArgs false
open Go.RowKit
mutual
def Core.mv (F : Core → Nat → Core) : Core → Nat → Core
 | ⟨k,v,d,ks⟩,n => if k = 1 then F ⟨k,v,d,ks⟩ n else ⟨k,v,d,Core.mvs F k ks 0 n⟩
def Core.mvs (F : Core → Nat → Core) (k : Int) : List Core → Nat → Nat → List Core
 | [],_,_ => []
 | c :: cs,i,n => Core.mv F c (n + bnd k i) :: Core.mvs F k cs (i + 1) n
end
theorem Core.mv_eq (F : Core → Nat → Core) (c : Core) (n : Nat) : c.mv F n = if c.kind = 1 then F c n else ⟨c.kind,c.value,c.data,Core.mvs F c.kind c.kids 0 n⟩ := by cases c; rw [Core.mv]
def varC (v : Int) : Core := ⟨1,v,[],[]⟩
def shF (b : Nat) (x : Core) (n : Nat) : Core := varC (if (n : Int) ≤ x.value then x.value + b else x.value)
def putF (a : Core) (x : Core) (n : Nat) : Core := if x.value = (n : Int) then a.mv (shF n) 0 else varC (if (n : Int) < x.value then x.value - 1 else x.value)
mutual
def Core.occ : Core → Nat → Nat
 | ⟨k,v,_,ks⟩,n => if k = 1 then (if v = (n : Int) then 1 else 0) else Core.occs k ks 0 n
def Core.occs (k : Int) : List Core → Nat → Nat → Nat
 | [],_,_ => 0
 | c :: cs,i,n => Core.occ c (n + bnd k i) + Core.occs k cs (i + 1) n
end
theorem Core.occ_eq (c : Core) (n : Nat) : c.occ n = if c.kind = 1 then (if c.value = (n : Int) then 1 else 0) else Core.occs c.kind c.kids 0 n := by cases c; rw [Core.occ]
theorem var_data {c : Core} (h : nodeOk c = true) (h1 : c.kind = 1) : c.data = [] := by
 unfold nodeOk shape at h
 rw [h1] at h
 simp at h
 exact h.1.1.2
theorem var_val {c : Core} (h : nodeOk c = true) (h1 : c.kind = 1) : 0 ≤ c.value ∧ c.value ≤ 255 := by
 unfold nodeOk valOk at h
 rw [h1] at h
 simp at h
 exact h.1.2
theorem nodeOk_of {c : Core} (h : c.wf = true) : nodeOk c = true ∧ Core.wfs c.kids = true := by
 rw [Core.wf_eq,Bool.and_eq_true] at h; exact h
theorem own_eq (l : List Int) (h : l.length ≤ Big) : s_l00Own l = some l := by
 unfold s_l00Own
 rw [app_ok (by simpa using h),bind_some']; simp
theorem cloneInt_eq (l : List Int) (h : l.length ≤ Big) : g_Clone_sint64 l = some l := by
 unfold g_Clone_sint64
 rw [app_ok (by simpa using h),bind_some']; simp
theorem l06Shift_eq (b : Nat) (hb : b ≤ Big) : ∀ (c : Core),c.Small → c.wf = true → ∀ (f n : Nat),f + c.depth ≤ Big → 16 * c.nodes ≤ n → s_l06Shift n c b f = some (c.mv (shF b) f) := by
 refine Core.ind fun c ih hs hw f n ha hn => ?_
 obtain ⟨_,hdl,hk,hf⟩ := hs
 obtain ⟨hno,hwk⟩ := nodeOk_of hw
 rw [Core.nodes_eq] at hn
 rw [Core.depth_eq] at ha
 obtain ⟨n,rfl⟩ : ∃ m,n = m + 3 := ⟨n - 3,by omega⟩
 have loop : ∀ (v : Int) (post pre acc : List Core) (n : Nat),c.kids = pre ++ post → acc.length = pre.length → 16 * Core.nodess post + 1 ≤ n → Core.depths post + f + 1 ≤ Big →
   s_l06Shift_l4 n c b f v c.data acc ((List.length pre : Nat) : Int) = some ⟨c.kind,v,c.data,acc ++ Core.mvs (shF b) c.kind post pre.length f⟩ := by
  intro v post
  induction post with
  | nil =>
   intro pre acc n h _ hn _
   obtain ⟨n,rfl⟩ : ∃ m,n = m + 1 := ⟨n - 1,by omega⟩
   rw [s_l06Shift_l4,ge_app h,if_neg (by simp),Core.mvs,List.append_nil]
  | cons x post ihp =>
   intro pre acc n h hal hn hB
   rw [Core.nodess] at hn
   rw [Core.depths] at hB
   have := x.nodes_pos
   have hb' := bnd_le c.kind pre.length
   obtain ⟨n,rfl⟩ : ∃ m,n = m + 1 := ⟨n - 1,by omega⟩
   have hx : x ∈ c.kids := by rw [h]; simp
   have hpl : pre.length + 1 ≤ c.kids.length := by rw [h]; simp
   rw [s_l06Shift_l4,if_pos (lt_app h),at_app h,bind_some',l06Binds_eq,bind_some',w64nn (by omega),ih x hx (hf x hx) (wfs_mem hx hwk) _ n (by omega) (by omega),bind_some',
    app_ok (by simp; omega),bind_some',wrap_app h hk,ihp (pre ++ [x]) (acc ++ [x.mv (shF b) (f + bnd c.kind pre.length)]) n (next_app h) (by simp [hal]) (by omega) (by omega),Core.mvs]
   simp
 have tail : ∀ v : Int,s_l06Shift_j2 (n + 1) c b f c.data v = some ⟨c.kind,v,c.data,Core.mvs (shF b) c.kind c.kids 0 f⟩ := by
  intro v
  rw [s_l06Shift_j2]
  have := loop v c.kids [] [] n (by simp) rfl (by omega) (by omega)
  simpa using this
 rw [s_l06Shift,own_eq _ hdl,bind_some',Core.mv_eq]
 by_cases h1 : c.kind = 1
 ·obtain ⟨v1,v2⟩ := var_val hno h1
  have hk0 := var_kids hno h1
  have hd0 := var_data hno h1
  rw [if_pos (by simpa using h1),s_l06Shift_j1,if_pos h1]
  unfold shF varC
  unfold Big at *
  by_cases h2 : (f : Int) ≤ c.value
  ·rw [if_pos (by simpa using h2),tail,w64 (by omega) (by omega),if_pos h2,h1,hd0,hk0,Core.mvs]
  ·rw [if_neg (by simpa using h2),tail,if_neg h2,h1,hd0,hk0,Core.mvs]
 ·rw [if_neg (by simpa using h1),s_l06Shift_j1,if_neg (by simp),tail,if_neg h1]
theorem mapVars_gen (F : Core → Nat → Core) (f : Core → Int → Option Core) (f0 D : Nat) (hD : D ≤ Big) (hF : ∀ (x : Core) (d : Nat),nodeOk x = true → x.kind = 1 → d ≤ D → f x (d : Int) = some (F x (f0 + d))) :
  ∀ (c : Core),c.Small → c.wf = true → ∀ (d n : Nat),d + c.depth ≤ D → 16 * c.nodes ≤ n → i_mapVars n c d f = some (c.mv F (f0 + d)) := by
 refine Core.ind fun c ih hs hw d n ha hn => ?_
 obtain ⟨_,hdl,hk,hf⟩ := hs
 obtain ⟨hno,hwk⟩ := nodeOk_of hw
 rw [Core.nodes_eq] at hn
 rw [Core.depth_eq] at ha
 obtain ⟨n,rfl⟩ : ∃ m,n = m + 1 := ⟨n - 1,by omega⟩
 rw [i_mapVars,Core.mv_eq]
 by_cases h1 : c.kind = 1
 ·rw [if_pos (by simpa using h1),hF c d hno h1 (by omega),bind_some',if_pos h1]
 rw [if_neg (by simpa using h1),cloneInt_eq _ hdl,bind_some',if_neg h1]
 have loop : ∀ (post pre acc : List Core) (n : Nat),c.kids = pre ++ post → acc.length = pre.length → 16 * Core.nodess post + 1 ≤ n → d + Core.depths post + 1 ≤ D →
   i_mapVars_l2 n c d c.data acc ((List.length pre : Nat) : Int) f = some ⟨c.kind,c.value,c.data,acc ++ Core.mvs F c.kind post pre.length (f0 + d)⟩ := by
  intro post
  induction post with
  | nil =>
   intro pre acc n h _ hn _
   obtain ⟨n,rfl⟩ : ∃ m,n = m + 1 := ⟨n - 1,by omega⟩
   rw [i_mapVars_l2,ge_app h,if_neg (by simp),Core.mvs,List.append_nil]
  | cons x post ihp =>
   intro pre acc n h hal hn hB
   rw [Core.nodess] at hn
   rw [Core.depths] at hB
   have := x.nodes_pos
   have hb' := bnd_le c.kind pre.length
   obtain ⟨n,rfl⟩ : ∃ m,n = m + 1 := ⟨n - 1,by omega⟩
   have hx : x ∈ c.kids := by rw [h]; simp
   have hpl : pre.length + 1 ≤ c.kids.length := by rw [h]; simp
   rw [i_mapVars_l2,if_pos (lt_app h),at_app h,bind_some',binds_eq,bind_some',w64nn (by omega),ih x hx (hf x hx) (wfs_mem hx hwk) _ n (by omega) (by omega),bind_some',
    app_ok (by simp; omega),bind_some',wrap_app h hk,ihp (pre ++ [x]) (acc ++ [x.mv F (f0 + (d + bnd c.kind pre.length))]) n (next_app h) (by simp [hal]) (by omega) (by omega),Core.mvs,← Nat.add_assoc]
   simp
 have := loop c.kids [] [] n (by simp) rfl (by omega) (by omega)
 simpa using this
theorem shift1_eq (b f d : Nat) (hb : b ≤ Big) (hd : d + f ≤ Big) (c : Core) (hno : nodeOk c = true) (h1 : c.kind = 1) : i_shift_1 c d f b = some (shF b c (f + d)) := by
 have hk := var_kids hno h1
 have hda := var_data hno h1
 obtain ⟨v1,v2⟩ := var_val hno h1
 unfold i_shift_1 shF varC
 rw [w64nn hd,hk,hda]
 by_cases h2 : ((d + f : Nat) : Int) ≤ c.value
 ·unfold Big at *
  rw [if_pos (by simpa using h2),w64 (by omega) (by omega),if_pos (by omega)]
  simp [emp?,h1]
 ·rw [if_neg (by simpa using h2),if_neg (by omega)]
  cases c
  simp only at hk hda h1
  subst hk hda h1
  simp [emp?]
theorem i_shift_eq (b f : Nat) (hb : b ≤ Big) (c : Core) (hs : c.Small) (hw : c.wf = true) (hN : c.nodes ≤ Big) (hf : f + c.depth ≤ Big) : i_shift c b f = some (c.mv (shF b) f) := by
 unfold i_shift
 have := mapVars_gen (shF b) (fun y0 y1 => i_shift_1 y0 y1 (f : Int) (b : Int)) f c.depth (by omega) (fun x d hno h1 hd => shift1_eq b f d hb (by omega) x hno h1) c hs hw 0 fuel (by omega) (fuel_nodes hN)
 rw [show ((0 : Nat) : Int) = 0 from rfl] at this
 rw [this,bind_some',Nat.add_zero]
theorem inst1_eq (a : Core) (has : a.Small) (haw : a.wf = true) (haN : a.nodes ≤ Big) (d : Nat) (hd : d ≤ Big) (had : a.depth ≤ Big) (c : Core) (hno : nodeOk c = true) (h1 : c.kind = 1) : i_instantiate_1 c d a = some (putF a c d) := by
 have hk := var_kids hno h1
 have hda := var_data hno h1
 obtain ⟨v1,v2⟩ := var_val hno h1
 unfold i_instantiate_1 putF
 have hsh := i_shift_eq d 0 hd a has haw haN (by omega)
 rw [show ((0 : Nat) : Int) = 0 from rfl] at hsh
 by_cases h2 : c.value = (d : Int)
 ·rw [if_pos (by simpa using h2),if_pos h2,hsh,bind_some']
 rw [if_neg (by simpa using h2),if_neg h2,hk,hda]
 unfold varC
 by_cases h3 : (d : Int) < c.value
 ·rw [if_pos (by simpa using h3),if_pos h3,w64 (by omega) (by omega)]
  simp [emp?,h1]
 ·rw [if_neg (by simpa using h3),if_neg h3]
  cases c
  simp only at hk hda h1
  subst hk hda h1
  simp [emp?]
theorem i_instantiate_eq (c a : Core) (hs : c.Small) (hw : c.wf = true) (hN : c.nodes ≤ Big) (has : a.Small) (haw : a.wf = true) (haN : a.nodes ≤ Big) : i_instantiate c a = some (c.mv (putF a) 0) := by
 unfold i_instantiate
 have hd := Core.depth_le c
 have := mapVars_gen (putF a) (fun y0 y1 => i_instantiate_1 y0 y1 a) 0 c.depth (by omega) (fun x d hno h1 hd' => by
  rw [Nat.zero_add]; exact inst1_eq a has haw haN d (by omega) (by have := Core.depth_le a; omega) x hno h1) c hs hw 0 fuel (by omega) (fuel_nodes hN)
 rw [show ((0 : Nat) : Int) = 0 from rfl] at this
 rw [this,bind_some',Nat.add_zero]
theorem l06Put_eq (a : Core) (has : a.Small) (haw : a.wf = true) (haN : a.nodes ≤ Big) : ∀ (c : Core),c.Small → c.wf = true → ∀ (d n : Nat),d + c.depth ≤ Big → 16 * c.nodes ≤ n → s_l06Put n c a d = some (c.mv (putF a) d) := by
 refine Core.ind fun c ih hs hw d n ha hn => ?_
 obtain ⟨_,hdl,hk,hf⟩ := hs
 obtain ⟨hno,hwk⟩ := nodeOk_of hw
 rw [Core.nodes_eq] at hn
 rw [Core.depth_eq] at ha
 obtain ⟨n,rfl⟩ : ∃ m,n = m + 1 := ⟨n - 1,by omega⟩
 rw [s_l06Put,Core.mv_eq]
 by_cases h1 : c.kind = 1
 ·have hda := Core.depth_le a
  rw [if_pos (by simpa using h1),if_pos h1]
  obtain ⟨v1,v2⟩ := var_val hno h1
  unfold putF varC
  by_cases h2 : c.value = (d : Int)
  ·have hsh := l06Shift_eq d (by omega) a has haw 0 fuel (by omega) (fuel_nodes haN)
   rw [show ((0 : Nat) : Int) = 0 from rfl] at hsh
   rw [if_pos (by simpa using h2),if_pos h2,hsh,bind_some']
  ·rw [if_neg (by simpa using h2),if_neg h2]
   by_cases h3 : (d : Int) < c.value
   ·rw [if_pos (by simpa using h3),if_pos h3,w64 (by omega) (by omega)]
   ·rw [if_neg (by simpa using h3),if_neg h3]
 rw [if_neg (by simpa using h1),own_eq _ hdl,bind_some',if_neg h1]
 have loop : ∀ (post pre acc : List Core) (n : Nat),c.kids = pre ++ post → acc.length = pre.length → 16 * Core.nodess post + 1 ≤ n → Core.depths post + d + 1 ≤ Big →
   s_l06Put_l2 n c a d c.data acc ((List.length pre : Nat) : Int) = some ⟨c.kind,c.value,c.data,acc ++ Core.mvs (putF a) c.kind post pre.length d⟩ := by
  intro post
  induction post with
  | nil =>
   intro pre acc n h _ hn _
   obtain ⟨n,rfl⟩ : ∃ m,n = m + 1 := ⟨n - 1,by omega⟩
   rw [s_l06Put_l2,ge_app h,if_neg (by simp),Core.mvs,List.append_nil]
  | cons x post ihp =>
   intro pre acc n h hal hn hB
   rw [Core.nodess] at hn
   rw [Core.depths] at hB
   have := x.nodes_pos
   have hb' := bnd_le c.kind pre.length
   obtain ⟨n,rfl⟩ : ∃ m,n = m + 1 := ⟨n - 1,by omega⟩
   have hx : x ∈ c.kids := by rw [h]; simp
   have hpl : pre.length + 1 ≤ c.kids.length := by rw [h]; simp
   rw [s_l06Put_l2,if_pos (lt_app h),at_app h,bind_some',l06Binds_eq,bind_some',w64nn (by omega),ih x hx (hf x hx) (wfs_mem hx hwk) _ n (by omega) (by omega),bind_some',
    app_ok (by simp; omega),bind_some',wrap_app h hk,ihp (pre ++ [x]) (acc ++ [x.mv (putF a) (d + bnd c.kind pre.length)]) n (next_app h) (by simp [hal]) (by omega) (by omega),Core.mvs]
   simp
 have := loop c.kids [] [] n (by simp) rfl (by omega) (by omega)
 simpa using this
mutual
theorem Core.occ_le : ∀ (c : Core) (n : Nat),c.occ n ≤ c.nodes
 | ⟨k,v,d,ks⟩,n => by
  rw [Core.occ,Core.nodes]
  have := Core.occs_le k ks 0 n
  split
  ·split <;> omega
  ·omega
theorem Core.occs_le (k : Int) : ∀ (l : List Core) (i n : Nat),Core.occs k l i n ≤ Core.nodess l
 | [],_,_ => by rw [Core.occs]; omega
 | c :: cs,i,n => by
  rw [Core.occs,Core.nodess]
  have := Core.occ_le c (n + bnd k i)
  have := Core.occs_le k cs (i + 1) n
  omega
end
theorem l06Count_eq : ∀ (c : Core),c.Small → c.nodes ≤ Big → ∀ (d n : Nat),d + c.depth ≤ Big → 16 * c.nodes ≤ n → s_l06Count n c d = some ((c.occ d : Nat) : Int) := by
 refine Core.ind fun c ih hs hN d n ha hn => ?_
 obtain ⟨_,hdl,hk,hf⟩ := hs
 rw [Core.nodes_eq] at hn hN
 rw [Core.depth_eq] at ha
 obtain ⟨n,rfl⟩ : ∃ m,n = m + 1 := ⟨n - 1,by omega⟩
 rw [s_l06Count,Core.occ_eq]
 by_cases h1 : c.kind = 1
 ·rw [if_pos (by simpa using h1),if_pos h1]
  by_cases h2 : c.value = (d : Int)
  ·rw [if_pos (by simpa using h2),if_pos h2]; rfl
  ·rw [if_neg (by simpa using h2),if_neg h2]; rfl
 rw [if_neg (by simpa using h1),if_neg h1]
 have loop : ∀ (post pre : List Core) (m n : Nat),c.kids = pre ++ post → 16 * Core.nodess post + 1 ≤ n → Core.depths post + d + 1 ≤ Big → m + Core.nodess post ≤ Big →
   s_l06Count_l1 n c d (m : Int) ((List.length pre : Nat) : Int) = some ((m + Core.occs c.kind post pre.length d : Nat) : Int) := by
  intro post
  induction post with
  | nil =>
   intro pre m n h hn _ _
   obtain ⟨n,rfl⟩ : ∃ m,n = m + 1 := ⟨n - 1,by omega⟩
   rw [s_l06Count_l1,ge_app h,if_neg (by simp),Core.occs,Nat.add_zero]
  | cons x post ihp =>
   intro pre m n h hn hB hm
   rw [Core.nodess] at hn hm
   rw [Core.depths] at hB
   have := x.nodes_pos
   have hb' := bnd_le c.kind pre.length
   obtain ⟨n,rfl⟩ : ∃ m,n = m + 1 := ⟨n - 1,by omega⟩
   have hx : x ∈ c.kids := by rw [h]; simp
   have ho := Core.occ_le x (d + bnd c.kind pre.length)
   rw [s_l06Count_l1,if_pos (lt_app h),at_app h,bind_some',l06Binds_eq,bind_some',w64nn (by omega),ih x hx (hf x hx) (by omega) _ n (by omega) (by omega),bind_some',
    w64nn (by omega),wrap_app h hk,ihp (pre ++ [x]) _ n (next_app h) (by omega) (by omega) (by omega),Core.occs,Nat.add_assoc]
   simp
 have := loop c.kids [] 0 n (by simp) (by omega) (by omega) (by omega)
 simpa using this
theorem l00Max_eq (a b : Nat) : s_l00Max (a : Int) (b : Int) = some ((max a b : Nat) : Int) := by
 unfold s_l00Max
 by_cases h : (b : Int) < (a : Int)
 ·rw [if_pos (by simpa using h)]; congr 1; omega
 ·rw [if_neg (by simpa using h)]; congr 1; omega
theorem l06Depth_eq : ∀ (c : Core),c.Small → c.nodes ≤ Big → ∀ (n : Nat),16 * c.nodes ≤ n → s_l06Depth n c = some ((c.depth : Nat) : Int) := by
 refine Core.ind fun c ih hs hN n hn => ?_
 obtain ⟨_,hdl,hk,hf⟩ := hs
 have hdn := Core.depth_le c
 rw [Core.depth_eq] at hdn ⊢
 rw [Core.nodes_eq] at hn hN hdn
 obtain ⟨n,rfl⟩ : ∃ m,n = m + 1 := ⟨n - 1,by omega⟩
 rw [s_l06Depth]
 have loop : ∀ (post pre : List Core) (m n : Nat),c.kids = pre ++ post → 16 * Core.nodess post + 1 ≤ n → m + 1 ≤ Big → Core.nodess post + 1 ≤ Big →
   s_l06Depth_l1 n c (m : Int) ((List.length pre : Nat) : Int) = some ((max m (Core.depths post) + 1 : Nat) : Int) := by
  intro post
  induction post with
  | nil =>
   intro pre m n h hn hm _
   obtain ⟨n,rfl⟩ : ∃ m,n = m + 1 := ⟨n - 1,by omega⟩
   rw [s_l06Depth_l1,ge_app h,if_neg (by simp),Core.depths,w64n1 (by omega),Nat.max_zero]
  | cons x post ihp =>
   intro pre m n h hn hm hN
   rw [Core.nodess] at hn hN
   have := x.nodes_pos
   have hxd := Core.depth_le x
   obtain ⟨n,rfl⟩ : ∃ m,n = m + 1 := ⟨n - 1,by omega⟩
   have hx : x ∈ c.kids := by rw [h]; simp
   rw [s_l06Depth_l1,if_pos (lt_app h),at_app h,bind_some',ih x hx (hf x hx) (by omega) n (by omega),bind_some',l00Max_eq,bind_some',wrap_app h hk,ihp (pre ++ [x]) _ n (next_app h) (by omega) (by omega) (by omega),Core.depths,Nat.max_assoc]
 have := loop c.kids [] 0 n (by simp) (by omega) (by unfold Big; omega) (by omega)
 rw [Nat.zero_max] at this
 exact this
theorem varC_small (v : Int) : (varC v).Small := ⟨_,by simp [varC,Big],by simp [varC,Big],fun k h => by simp [varC] at h⟩
theorem Core.mvs_len (F : Core → Nat → Core) (k : Int) : ∀ (l : List Core) (i n : Nat),(Core.mvs F k l i n).length = l.length
 | [],_,_ => by rw [Core.mvs]
 | c :: cs,i,n => by rw [Core.mvs,List.length_cons,List.length_cons,Core.mvs_len F k cs]
theorem Core.mvs_mem {F : Core → Nat → Core} {k : Int} {x : Core} : ∀ {l : List Core} {i n : Nat},x ∈ Core.mvs F k l i n → ∃ y ∈ l,∃ j,x = y.mv F j
 | [],_,_,h => by rw [Core.mvs] at h; cases h
 | c :: cs,i,n,h => by
  rw [Core.mvs] at h
  rcases List.mem_cons.1 h with rfl | h
  ·exact ⟨c,by simp,_,rfl⟩
  ·obtain ⟨y,hy,j,rfl⟩ := Core.mvs_mem h
   exact ⟨y,by simp [hy],j,rfl⟩
theorem mv_small (F : Core → Nat → Core) (hF : ∀ x n,(F x n).Small) : ∀ (c : Core),c.Small → ∀ n,(c.mv F n).Small := by
 refine Core.ind fun c ih hs n => ?_
 obtain ⟨_,hdl,hk,hf⟩ := hs
 rw [Core.mv_eq]
 split
 ·exact hF c n
 ·refine ⟨_,hdl,by rw [Core.mvs_len]; exact hk,fun x hx => ?_⟩
  obtain ⟨y,hy,j,rfl⟩ := Core.mvs_mem hx
  exact ih y hy (hf y hy) j
theorem sh_small {b : Nat} {c : Core} (h : c.Small) (n : Nat) : (c.mv (shF b) n).Small := mv_small _ (fun x n => varC_small _) c h n
theorem put_small {a c : Core} (ha : a.Small) (h : c.Small) (n : Nat) : (c.mv (putF a) n).Small := mv_small _ (fun x n => by
 unfold putF
 split
 ·exact sh_small ha 0
 ·exact varC_small _) c h n
mutual
theorem sh_nodes (b : Nat) : ∀ (c : Core) (n : Nat),c.wf = true → (c.mv (shF b) n).nodes = c.nodes
 | ⟨k,v,d,ks⟩,n,h => by
  obtain ⟨hno,hwk⟩ := nodeOk_of h
  rw [Core.mv]
  by_cases h1 : k = 1
  ·rw [if_pos h1]
   have hk : ks = [] := var_kids hno h1
   subst hk
   simp only [shF,varC]
   rw [Core.nodes,Core.nodes]
  ·rw [if_neg h1,Core.nodes,Core.nodes,shs_nodes b k ks 0 n hwk]
theorem shs_nodes (b : Nat) (k : Int) : ∀ (l : List Core) (i n : Nat),Core.wfs l = true → Core.nodess (Core.mvs (shF b) k l i n) = Core.nodess l
 | [],_,_,_ => by rw [Core.mvs]
 | c :: cs,i,n,h => by
  rw [Core.wfs,Bool.and_eq_true] at h
  rw [Core.mvs,Core.nodess,Core.nodess,sh_nodes b c _ h.1,shs_nodes b k cs _ n h.2]
end
mutual
theorem put_nodes (a : Core) (ha : a.wf = true) : ∀ (c : Core) (n : Nat),c.wf = true → (c.mv (putF a) n).nodes + c.occ n = c.nodes + c.occ n * a.nodes
 | ⟨k,v,d,ks⟩,n,h => by
  obtain ⟨hno,hwk⟩ := nodeOk_of h
  rw [Core.mv,Core.occ]
  by_cases h1 : k = 1
  ·rw [if_pos h1,if_pos h1]
   have hk : ks = [] := var_kids hno h1
   subst hk
   simp only [putF]
   by_cases h2 : v = (n : Int)
   ·rw [if_pos h2,if_pos h2,sh_nodes n a 0 ha,Core.nodes,Core.nodess]; omega
   ·rw [if_neg h2,if_neg h2]
    simp only [varC]
    rw [Core.nodes,Core.nodes]; omega
  ·rw [if_neg h1,if_neg h1,Core.nodes,Core.nodes]
   have := puts_nodes a ha k ks 0 n hwk
   omega
theorem puts_nodes (a : Core) (ha : a.wf = true) (k : Int) : ∀ (l : List Core) (i n : Nat),Core.wfs l = true → Core.nodess (Core.mvs (putF a) k l i n) + Core.occs k l i n = Core.nodess l + Core.occs k l i n * a.nodes
 | [],_,_,_ => by rw [Core.mvs,Core.occs]; omega
 | c :: cs,i,n,h => by
  rw [Core.wfs,Bool.and_eq_true] at h
  have h1 := put_nodes a ha c (n + bnd k i) h.1
  have h2 := puts_nodes a ha k cs (i + 1) n h.2
  rw [Core.mvs,Core.occs,Core.nodess,Core.nodess,Nat.add_mul]
  omega
end
def great (c : Core) : Bool := decide (c.kind = 1) && decide (255 < c.value)
theorem highest_eq : ∀ (c : Core),c.Small → ∀ n,16 * c.nodes ≤ n → ∃ m : Int,s_l06Highest n c = some m ∧ (255 < m ↔ c.anyC great = true) := by
 refine Core.ind fun c ih hs n hn => ?_
 obtain ⟨_,hdl,hk,hf⟩ := hs
 rw [Core.nodes_eq] at hn
 obtain ⟨n,rfl⟩ : ∃ m,n = m + 2 := ⟨n - 2,by omega⟩
 have loop : ∀ (post pre : List Core) (n : Nat) (m : Int),c.kids = pre ++ post → 16 * Core.nodess post + 1 ≤ n →
   ∃ m' : Int,s_l06Highest_l2 n c m ((List.length pre : Nat) : Int) = some m' ∧ (255 < m' ↔ 255 < m ∨ Core.anysC great post = true) := by
  intro post
  induction post with
  | nil =>
   intro pre n m h hn
   obtain ⟨n,rfl⟩ : ∃ m,n = m + 1 := ⟨n - 1,by omega⟩
   exact ⟨m,by rw [s_l06Highest_l2,ge_app h,if_neg (by simp)],by simp [Core.anysC]⟩
  | cons x post ihp =>
   intro pre n m h hn
   rw [Core.nodess] at hn
   have := x.nodes_pos
   obtain ⟨n,rfl⟩ : ∃ m,n = m + 1 := ⟨n - 1,by omega⟩
   have hx : x ∈ c.kids := by rw [h]; simp
   obtain ⟨mx,h1,h2⟩ := ih x hx (hf x hx) n (by omega)
   obtain ⟨m',h3,h4⟩ := ihp (pre ++ [x]) n (if mx < m then m else mx) (next_app h) (by omega)
   refine ⟨m',?_,?_⟩
   ·rw [s_l06Highest_l2,if_pos (lt_app h),at_app h,bind_some',h1,bind_some']
    unfold s_l00Max
    by_cases h5 : mx < m
    ·rw [if_pos h5] at h3
     rw [if_pos (by simpa using h5),bind_some',wrap_app h hk,h3]
    ·rw [if_neg h5] at h3
     rw [if_neg (by simpa using h5),bind_some',wrap_app h hk,h3]
   ·rw [h4,Core.anysC,Bool.or_eq_true,← h2,← or_assoc]
    refine or_congr ?_ Iff.rfl
    split <;> omega
 rw [s_l06Highest,Core.anyC_eq]
 unfold great
 by_cases h1 : c.kind = 1
 ·obtain ⟨m',h3,h4⟩ := loop c.kids [] n c.value (by simp) (by omega)
  rw [if_pos (by simpa using h1),s_l06Highest_j1]
  exact ⟨m',h3,by rw [h4]; simp [h1]; rfl⟩
 ·obtain ⟨m',h3,h4⟩ := loop c.kids [] n (-1) (by simp) (by omega)
  rw [if_neg (by simpa using h1),s_l06Highest_j1]
  exact ⟨m',h3,by rw [h4]; simp [h1]; rfl⟩
def noCore : Core := ⟨0,0,[],[]⟩
theorem noCore_sz : noCore.sz = 0 := by unfold noCore; rw [Core.sz]; simp [Core.szs]
theorem valid_parts {c : Core} (h : c.valid = true) : c.wf = true ∧ c.depth ≤ 80 ∧ c.nodes ≤ 400 := by
 unfold Core.valid at h
 simp at h
 omega
theorem l06Instance_eq (c a : Core) (hs : c.Small) (has : a.Small) (hw : c.wf = true) (haw : a.wf = true) (hd : c.depth ≤ 80) (hn : c.nodes ≤ 400) (had : a.depth ≤ 80) (han : a.nodes ≤ 400) :
  s_l06Instance c a = some (if (c.mv (putF a) 0).depth ≤ 80 ∧ (c.mv (putF a) 0).nodes ≤ 400 then (if (c.mv (putF a) 0).anyC great = true then (noCore,2) else (c.mv (putF a) 0,0)) else (noCore,4)) := by
 have hN : c.nodes ≤ Big := by unfold Big; omega
 have haN : a.nodes ≤ Big := by unfold Big; omega
 have hap := a.nodes_pos
 have ho := Core.occ_le c 0
 have hpn := put_nodes a haw c 0 hw
 have hmul : c.occ 0 * a.nodes ≤ 160000 := Nat.le_trans (Nat.mul_le_mul (show c.occ 0 ≤ 400 by omega) han) (by decide)
 have hps := put_small has hs 0
 have hpN : (c.mv (putF a) 0).nodes ≤ Big := by unfold Big; omega
 have e1 := l06Count_eq c hs hN 0 fuel (by unfold Big; omega) (fuel_nodes hN)
 have e2 := l06Put_eq a has haw haN c hs hw 0 fuel (by unfold Big; omega) (fuel_nodes hN)
 rw [show ((0 : Nat) : Int) = 0 from rfl] at e1 e2
 have e3 := l06Nodes_eq c hs 80 400 fuel (by unfold Big; omega) (by unfold Big; omega) (fuel_nodes hN)
 have e4 := l06Nodes_eq a has 80 400 fuel (by unfold Big; omega) (by unfold Big; omega) (fuel_nodes haN)
 rw [if_pos ⟨hw,hd,hn⟩] at e3
 rw [if_pos ⟨haw,had,han⟩] at e4
 rw [show ((80 : Nat) : Int) = 80 from rfl,show ((400 : Nat) : Int) = 400 from rfl] at e3 e4
 have e5 := l06Depth_eq _ hps hpN fuel (fuel_nodes hpN)
 obtain ⟨m,e6,e7⟩ := highest_eq _ hps fuel (fuel_nodes hpN)
 have e8 : IntKind.i64.wrap ((c.nodes : Int) + IntKind.i64.wrap ((c.occ 0 : Int) * IntKind.i64.wrap ((a.nodes : Int) - 1))) = ((c.mv (putF a) 0).nodes : Int) := by
  have m1 : (c.occ 0 : Int) * (a.nodes : Int) = ((c.occ 0 * a.nodes : Nat) : Int) := by simp
  have m2 : (c.occ 0 : Int) * ((a.nodes : Int) - 1) = ((c.occ 0 * a.nodes : Nat) : Int) - (c.occ 0 : Int) := by rw [Int.mul_sub,m1,Int.mul_one]
  have m3 : c.occ 0 ≤ c.occ 0 * a.nodes := Nat.le_mul_of_pos_right _ hap
  rw [w64 (n := (a.nodes : Int) - 1) (by omega) (by omega),m2,w64 (n := ((c.occ 0 * a.nodes : Nat) : Int) - (c.occ 0 : Int)) (by omega) (by omega),w64 (by omega) (by omega)]
  omega
 unfold s_l06Instance
 rw [e1,bind_some',e3,bind_some',e4,bind_some',e8]
 generalize hp : c.mv (putF a) 0 = p at *
 by_cases h1 : p.nodes ≤ 400
 ·rw [if_neg (by simp; omega),e2,bind_some',e5,bind_some']
  by_cases h2 : p.depth ≤ 80
  ·have hr : ∀ (x y : Core × Int),(if p.depth ≤ 80 ∧ p.nodes ≤ 400 then x else y) = x := fun x y => if_pos ⟨h2,h1⟩
   rw [if_neg (by simp; omega),e6,bind_some',hr]
   by_cases h3 : 255 < m
   ·rw [if_pos (by simpa using h3),if_pos (e7.1 h3)]; rfl
   ·rw [if_neg (by simpa using h3),if_neg (fun h => h3 (e7.2 h))]
  ·rw [if_pos (by simp; omega),if_neg (fun h => h2 h.1)]; rfl
 ·rw [if_pos (by simp; omega),if_neg (fun h => h1 h.2)]; rfl
end Go.Proofs.YtjdinbgcgbigoaaGreat.Ab
