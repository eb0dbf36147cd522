/-
  The law on ContractMarked, from what both sides give. Printed by wip/ab/genplain.py. No program is in sight.
-/
import Derived.Test.YtjdinbgcgbigoaaGreatPlG
import Derived.Test.YtjdinbgcgbigoaaGreatPlMC
import Derived.Test.YtjdinbgcgbigoaaGreatModD
import Derived.Test.YtjdinbgcgbigoaaGreatPlDx
import Derived.Test.YtjdinbgcgbigoaaGreatModM
import Derived.Test.YtjdinbgcgbigoaaGreatAbZ
namespace Go.Proofs.YtjdinbgcgbigoaaGreat.Ab
set_option linter.unusedVariables false
set_option linter.unusedSimpArgs false
open Go.RowKit
def Book.sz (b : Book) : Nat := Core.szs b.defs
theorem Book.parts (b : Book) (h : oksC (Book.ds b)) : b.defs.length ≤ 9223372036854775807 ∧ ∀ x ∈ b.defs,x.Fits := by
 rw [Book.ds_eq] at h
 simp only [oksC,D.ok,List.length_map] at h
 obtain ⟨⟨hk,hr⟩,-⟩ := h
 exact ⟨hk,fun x hx => x.fits_ok (oksR_mem hr hx)⟩
theorem szBook_e (b : Book) (h : oksC (Book.ds b)) (left : Nat) (h1 : left ≤ 1048576) : l_szBook b left = some (szr b.sz left) := by
 obtain ⟨hk,hf⟩ := b.parts h
 unfold l_szBook Book.sz
 rw [szCoreS_eq b.defs hk hf left fuel h1 (by rw [fuel_eq]; omega),bind_some',szr_neg]
 by_cases h2 : left < Core.szs b.defs
 ·rw [if_pos (by simpa using h2),szr_gt h2]
 ·rw [if_neg (by simpa using h2)]
theorem toBook_eq (b : Book) (h : b.sz ≤ Big) : l_toBook b = some b := by
 unfold l_toBook
 rw [toCoreS_e b.defs h,bind_some']
theorem eqBook_refl (b : Book) (h : b.sz ≤ Big) : l_eqBook b b = some true := by
 unfold l_eqBook
 rw [eqCoreS_e b.defs h,bind_some',if_neg (by simp)]
def Book.cntV (b : Book) : Nat := Core.cnts b.defs
def Book.mkV (k : Nat) (b : Book) : Book := ⟨Core.mks k b.defs⟩
theorem Book.cntV_le (b : Book) : b.cntV ≤ 2 * b.sz := Core.cnts_le b.defs
theorem markBook_eq (b : Book) (k : Nat) (h : b.sz ≤ Big) (hk : k + b.cntV ≤ KB) : l_markBook b (k : Int) = some (((k + b.cntV : Nat) : Int),(Book.mkV k b).defs) := by
 unfold l_markBook
 rw [markCoreS_eq _ _ h hk,bind_some']
 rfl
end Go.Proofs.YtjdinbgcgbigoaaGreat.Ab
namespace Go.Proofs.YtjdinbgcgbigoaaGreat.Ab
set_option linter.unusedVariables false
set_option linter.unusedSimpArgs false
open Go.RowKit
theorem closed_parts {c : Core} (h : c.closed = true) : c.valid = true ∧ c.above 0 = false := by
 unfold Core.closed at h
 simp at h
 exact h
theorem data_le {c : Core} (h : nodeOk c = true) : c.data.length ≤ 4 := by
 unfold nodeOk at h
 simp only [Bool.and_eq_true] at h
 exact nodeOk_data h.1.1.2
theorem sz_wf : ∀ (c : Core),c.wf = true → c.sz + 1 ≤ 5 * c.nodes := by
 refine Core.ind fun c ih hw => ?_
 obtain ⟨hno,hwk⟩ := nodeOk_of hw
 rw [Core.sz_eq,Core.nodes_eq]
 have hd := data_le hno
 have key : ∀ l : List Core,(∀ x ∈ l,x.sz + 1 ≤ 5 * x.nodes) → Core.szs l ≤ 5 * Core.nodess l := by
  intro l
  induction l with
  | nil => intro _; simp [Core.szs]
  | cons x xs ihl =>
   intro h
   rw [Core.szs,Core.nodess]
   have := h x (by simp)
   have := ihl fun y hy => h y (by simp [hy])
   omega
 have := key c.kids fun x hx => ih x hx (wfs_mem hx hwk)
 omega
theorem mv0 : ∀ c : Core,c.wf = true → ∀ n,c.mv (shF 0) n = c := by
 refine Core.ind fun c ih hw n => ?_
 obtain ⟨hno,hwk⟩ := nodeOk_of hw
 rw [Core.mv_eq]
 by_cases h1 : c.kind = 1
 ·rw [if_pos h1]
  have hk := var_kids hno h1
  have hd := var_data hno h1
  unfold shF varC
  cases c
  simp only at h1 hk hd
  subst h1 hk hd
  congr 1
  split <;> simp
 ·rw [if_neg h1]
  have key : ∀ (l : List Core) (i : Nat),(∀ x ∈ l,∀ n,x.mv (shF 0) n = x) → Core.mvs (shF 0) c.kind l i n = l := by
   intro l
   induction l with
   | nil => intro i _; rw [Core.mvs]
   | cons x xs ihl =>
    intro i h
    rw [Core.mvs,h x (by simp),ihl (i + 1) fun y hy => h y (by simp [hy])]
  rw [key c.kids 0 fun x hx => ih x hx (wfs_mem hx hwk)]
  cases c; rfl
theorem iCopyCore_eq : ∀ c : Core,c.Small → ∀ n,16 * c.nodes ≤ n → i_copyCore n c = some c := by
 refine Core.ind fun c ih hs n hn => ?_
 obtain ⟨_,hdl,hk,hf⟩ := hs
 rw [Core.nodes_eq] at hn
 obtain ⟨n,rfl⟩ : ∃ m,n = m + 1 := ⟨n - 1,by omega⟩
 have hclone : g_Clone_sint64 c.data = some c.data := by unfold g_Clone_sint64; rw [app_ok (by simpa using hdl)]; rfl
 rw [i_copyCore,hclone,bind_some']
 have loop : ∀ (post pre : List Core) (n : Nat),c.kids = pre ++ post → 16 * Core.nodess post + 1 ≤ n → i_copyCore_l2 n c c.data pre ((List.length pre : Nat) : Int) = some c := by
  intro post
  induction post with
  | nil =>
   intro pre n h hn
   obtain ⟨n,rfl⟩ : ∃ m,n = m + 1 := ⟨n - 1,by omega⟩
   rw [i_copyCore_l2,ge_app h,if_neg (by simp)]
   have hk0 : c.kids = pre := by rw [h,List.append_nil]
   rw [← hk0,core_eta]
  | cons x post ihp =>
   intro pre n h hn
   rw [Core.nodess] at hn
   have := x.nodes_pos
   obtain ⟨n,rfl⟩ : ∃ m,n = m + 1 := ⟨n - 1,by omega⟩
   have hx : x ∈ c.kids := by rw [h]; simp
   have hpl : pre.length + [x].length ≤ Big := by rw [h] at hk; simp at hk ⊢; omega
   rw [i_copyCore_l2,if_pos (lt_app h),at_app h,bind_some',ih x hx (hf x hx) n (by omega),bind_some',app_ok hpl,bind_some',wrap_app h hk]
   exact ihp (pre ++ [x]) n (next_app h) (by omega)
 exact loop c.kids [] n (by simp) (by omega)
def stB (b : Book) (c : Core) : Bool := b.valid && (c.closed && !c.anyC boxLet && !c.anyC (names b.defs.length)) && b.defs.all fun d => !d.anyC boxLet
theorem def_parts {b : Book} (hv : b.valid = true) {d : Core} (hd : d ∈ b.defs) : d.closed = true := by
 unfold Book.valid at hv
 rw [Bool.and_eq_true,List.all_eq_true] at hv
 have := hv.2 d hd
 unfold defOk at this
 rw [Bool.and_eq_true] at this
 exact this.1
theorem sState_eq (b : Book) (c : Core) (hl : b.defs.length ≤ Big) (hs : ∀ d ∈ b.defs,d.Small ∧ d.nodes ≤ Big) (hc : c.Small) (hN : c.nodes ≤ Big) : s_l08State b c = some (stB b c) := by
 unfold s_l08State stB
 have j1 : s_l08State_j1 b true = some false := by unfold s_l08State_j1; rw [if_pos rfl]
 rw [l06Book_eq b hl hs,bind_some']
 cases hv : b.valid with
 | false => rw [Bool.not_false,if_pos rfl,j1]; rfl
 | true =>
  rw [Bool.not_true,if_neg (by simp),l06Closed_eq c hc hN,bind_some']
  cases hcl : c.closed with
  | false => rw [Bool.not_false,if_pos rfl,j1]; rfl
  | true =>
   have hw := closed_wf hcl
   rw [Bool.not_true,if_neg (by simp),l06Erased_eq c hc fuel (fuel_nodes hN),bind_some']
   cases c.anyC boxLet with
   | true => rw [Bool.not_true,Bool.not_false,if_pos rfl,j1]; rfl
   | false =>
    rw [Bool.not_false,Bool.not_true,if_neg (by simp),l06Refs_eq b.defs.length c hc hw fuel (fuel_nodes hN),bind_some']
    cases c.anyC (names b.defs.length) with
    | true => rw [Bool.not_true,Bool.not_false,j1]; rfl
    | false =>
     rw [Bool.not_false,Bool.not_true]
     unfold s_l08State_j1
     rw [if_neg (by simp)]
     have loop : ∀ (post pre : List Core) (n : Nat),b.defs = pre ++ post → post.length < n → s_l08State_l2 n b ((List.length pre : Nat) : Int) = some (post.all fun d => !d.anyC boxLet) := by
      intro post
      induction post with
      | nil =>
       intro pre n h hn
       obtain ⟨n,rfl⟩ : ∃ m,n = m + 1 := ⟨n - 1,by omega⟩
       rw [s_l08State_l2,ge_app h,if_neg (by simp)]; rfl
      | cons x post ih =>
       intro pre n h hn
       rw [List.length_cons] at hn
       obtain ⟨n,rfl⟩ : ∃ m,n = m + 1 := ⟨n - 1,by omega⟩
       have hx : x ∈ b.defs := by rw [h]; simp
       rw [s_l08State_l2,if_pos (lt_app h),at_app h,bind_some',l06Erased_eq x (hs x hx).1 fuel (fuel_nodes (hs x hx).2),bind_some',List.all_cons]
       cases x.anyC boxLet with
       | true => rfl
       | false =>
        rw [Bool.not_false,Bool.not_true,if_neg (by simp),wrap_app h hl]
        exact ih (pre ++ [x]) n (next_app h) (by omega)
     exact loop b.defs [] fuel rfl (by rw [fuel_eq]; unfold Big at hl; omega)
theorem iState_eq (b : Book) (c : Core) (hl : b.defs.length ≤ Big) (hs : ∀ d ∈ b.defs,d.Small ∧ d.nodes ≤ Big) (hc : c.Small) (hN : c.nodes ≤ Big) : i_isMachineState b c = some (stB b c) := by
 unfold i_isMachineState i_isErasedBook i_isErasedTerm stB
 rw [ValidBook_eq b hl hs,bind_some']
 cases hv : b.valid with
 | false => rfl
 | true =>
  have hcf : g_ContainsFunc_simpl_Core b.defs (fun y0 => i_isErasedBook_1 y0) = some (b.defs.any fun d => !(d.valid && !d.anyC boxLet)) := by
   refine containsCore b.defs _ _ hl fun d hd => ?_
   unfold i_isErasedBook_1
   rw [IsErased_eq d (hs d hd).1 (hs d hd).2,bind_some']
  have hall : (b.defs.any fun d => !(d.valid && !d.anyC boxLet)) = !(b.defs.all fun d => !d.anyC boxLet) := by
   rw [← List.not_any_eq_all_not,Bool.not_not]
   have : ∀ l : List Core,(∀ d ∈ l,d.valid = true) → (l.any fun d => !(d.valid && !d.anyC boxLet)) = l.any fun d => d.anyC boxLet := by
    intro l
    induction l with
    | nil => intro _; rfl
    | cons x xs ih =>
     intro h
     rw [List.any_cons,List.any_cons,ih fun y hy => h y (by simp [hy]),h x (by simp),Bool.true_and,Bool.not_not]
   exact this b.defs fun d hd => (closed_parts (def_parts hv hd)).1
  rw [if_pos rfl,hcf,bind_some',hall,Bool.not_not,bind_some']
  cases (b.defs.all fun d => !d.anyC boxLet) with
  | false => simp
  | true =>
   rw [if_pos rfl,IsClosed_eq c hc hN,bind_some']
   cases hcl : c.closed with
   | false => rfl
   | true =>
    rw [if_pos rfl,IsErased_eq c hc hN,bind_some',(closed_parts hcl).1,Bool.true_and]
    cases c.anyC boxLet with
    | true => rfl
    | false =>
     rw [Bool.not_false,if_pos rfl,namesOnly_eq c _ hc hN,bind_some',bind_some']
     simp
theorem env_of {b : Book} (hv : b.valid = true) : EnvOk ⟨b.defs,opF⟩ := by
 refine ⟨fun d hd => ?_,fun o x y => opF_range o x y⟩
 obtain ⟨h1,h2⟩ := closed_parts (def_parts hv hd)
 obtain ⟨w,dp,nd⟩ := valid_parts h1
 exact ⟨w,h2,nd,dp⟩
end Go.Proofs.YtjdinbgcgbigoaaGreat.Ab
namespace Go.Proofs.YtjdinbgcgbigoaaGreat.Ab
set_option linter.unusedVariables false
set_option linter.unusedSimpArgs false
open Go.RowKit
def inP (marks : List Int) : Nat → Bool := fun p => decide ((p : Int) ∈ marks)
theorem sHas_eq (l : List Int) (v : Int) (hl : l.length ≤ Big) : s_l00Has l v = some (decide (v ∈ l)) := by
 have loop : ∀ (post pre : List Int) (n : Nat),l = pre ++ post → v ∉ pre → post.length < n → s_l00Has_l1 n l v ((List.length pre : Nat) : Int) = some (decide (v ∈ l)) := by
  intro post
  induction post with
  | nil =>
   intro pre n h hv hn
   obtain ⟨n,rfl⟩ : ∃ m,n = m + 1 := ⟨n - 1,by omega⟩
   rw [s_l00Has_l1,ge_app h,if_neg (by simp)]
   rw [List.append_nil] at h
   rw [h,decide_eq_false hv]
  | cons x post ih =>
   intro pre n h hv hn
   rw [List.length_cons] at hn
   obtain ⟨n,rfl⟩ : ∃ m,n = m + 1 := ⟨n - 1,by omega⟩
   rw [s_l00Has_l1,if_pos (lt_app h),at_app h,bind_some']
   by_cases hx : x = v
   ·rw [decide_eq_true hx,if_pos rfl,decide_eq_true (by rw [h,← hx]; simp)]
   ·rw [decide_eq_false hx,if_neg (by simp),wrap_app h hl]
    exact ih (pre ++ [x]) n (next_app h) (by simp; exact ⟨hv,fun e => hx e.symm⟩) (by omega)
 exact loop l [] fuel rfl (by simp) (by rw [fuel_eq]; unfold Big at hl; omega)
theorem gContains_eq (l : List Int) (v : Int) (hl : l.length ≤ Big) : g_Contains_sint64 l v = some (decide (v ∈ l)) := by
 unfold g_Contains_sint64 g_Index_sint64
 have loop : ∀ (post pre : List Int) (n : Nat),l = pre ++ post → v ∉ pre → post.length < n → ∃ i,g_Index_sint64_l1 n l v ((List.length pre : Nat) : Int) = some i ∧ decide (0 ≤ i) = decide (v ∈ l) := by
  intro post
  induction post with
  | nil =>
   intro pre n h hv hn
   obtain ⟨n,rfl⟩ : ∃ m,n = m + 1 := ⟨n - 1,by omega⟩
   rw [g_Index_sint64_l1,ge_app h,if_neg (by simp)]
   rw [List.append_nil] at h
   exact ⟨-1,rfl,by rw [h,decide_eq_false hv]; rfl⟩
  | cons x post ih =>
   intro pre n h hv hn
   rw [List.length_cons] at hn
   obtain ⟨n,rfl⟩ : ∃ m,n = m + 1 := ⟨n - 1,by omega⟩
   rw [g_Index_sint64_l1,if_pos (lt_app h),at_app h,bind_some']
   by_cases hx : v = x
   ·rw [decide_eq_true hx,if_pos rfl]
    exact ⟨_,rfl,by rw [decide_eq_true (show v ∈ l by rw [h,hx]; simp),decide_eq_true (by omega)]⟩
   ·rw [decide_eq_false hx,if_neg (by simp),wrap_app h hl]
    exact ih (pre ++ [x]) n (next_app h) (by simp; exact ⟨hv,hx⟩) (by omega)
 obtain ⟨i,h1,h2⟩ := loop l [] fuel rfl (by simp) (by rw [fuel_eq]; unfold Big at hl; omega)
 rw [show (0 : Int) = ((List.length ([] : List Int) : Nat) : Int) by simp,h1,bind_some',show ((List.length ([] : List Int) : Nat) : Int) = 0 by simp,h2]
mutual
def Core.rps : Core → Nat → List Int
 | ⟨k,v,d,ks⟩,p => (if rk ⟨k,v,d,ks⟩ = 0 then [] else [(p : Int)]) ++ Core.rpss ks (p + 1)
def Core.rpss : List Core → Nat → List Int
 | [],_ => []
 | c :: cs,p => Core.rps c p ++ Core.rpss cs (p + c.nodes)
end
theorem Core.rps_eq (c : Core) (p : Nat) : c.rps p = (if rk c = 0 then [] else [(p : Int)]) ++ Core.rpss c.kids (p + 1) := by cases c; rw [Core.rps]
mutual
theorem Core.rps_mem : ∀ (c : Core) (p : Nat) (q : Int),q ∈ c.rps p → (p : Int) ≤ q ∧ q < ((p + c.nodes : Nat) : Int)
 | ⟨k,v,d,ks⟩,p,q,h => by
  rw [Core.rps,List.mem_append] at h
  rw [Core.nodes]
  rcases h with h | h
  ·split at h
   ·simp at h
   ·simp at h; omega
  ·have := Core.rpss_mem ks _ q h; omega
theorem Core.rpss_mem : ∀ (l : List Core) (p : Nat) (q : Int),q ∈ Core.rpss l p → (p : Int) ≤ q ∧ q < ((p + Core.nodess l : Nat) : Int)
 | [],p,q,h => by rw [Core.rpss] at h; simp at h
 | c :: cs,p,q,h => by
  rw [Core.rpss,List.mem_append] at h
  rw [Core.nodess]
  rcases h with h | h
  ·have := Core.rps_mem c _ q h; omega
  ·have := Core.rpss_mem cs _ q h; omega
end
mutual
theorem Core.rps_len : ∀ (c : Core) (p : Nat),(c.rps p).length ≤ c.nodes
 | ⟨k,v,d,ks⟩,p => by
  rw [Core.rps,Core.nodes,List.length_append]
  have := Core.rpss_len ks (p + 1)
  split <;> simp <;> omega
theorem Core.rpss_len : ∀ (l : List Core) (p : Nat),(Core.rpss l p).length ≤ Core.nodess l
 | [],p => by rw [Core.rpss]; simp
 | c :: cs,p => by
  rw [Core.rpss,Core.nodess,List.length_append]
  have := Core.rps_len c p
  have := Core.rpss_len cs (p + c.nodes)
  omega
end
theorem rpss_app {x : Core} {post : List Core} : ∀ {pre : List Core} {p : Nat},Core.rpss (pre ++ x :: post) p = Core.rpss pre p ++ (x.rps (p + Core.nodess pre) ++ Core.rpss post (p + Core.nodess pre + x.nodes))
 | [],p => by rw [List.nil_append,Core.rpss,Core.rpss,Core.nodess]; rfl
 | c :: cs,p => by
  rw [List.cons_append,Core.rpss,Core.rpss,Core.nodess,rpss_app,List.append_assoc]
  rw [show p + c.nodes + Core.nodess cs = p + (c.nodes + Core.nodess cs) by omega]
theorem rpss_snoc {x : Core} {pre : List Core} {p : Nat} : Core.rpss (pre ++ [x]) p = Core.rpss pre p ++ x.rps (p + Core.nodess pre) := by
 rw [rpss_app,Core.rpss,List.append_nil]
theorem nodess_snoc' {x : Core} {pre : List Core} : Core.nodess (pre ++ [x]) = Core.nodess pre + x.nodes := by
 rw [nodess_app,Core.nodess]; omega
theorem iPos_eq : ∀ (c : Core),c.Small → c.wf = true → ∀ (p n : Nat) (acc : List Int),16 * c.nodes ≤ n → p + c.nodes ≤ Big → acc.length + c.nodes ≤ Big → i_redexPositions n c (p : Int) acc = some (acc ++ c.rps p,((p + c.nodes : Nat) : Int)) := by
 refine Core.ind fun c ih hs hw p n acc hn hp ha => ?_
 obtain ⟨_,hdl,hk,hf⟩ := hs
 obtain ⟨hno,hwk⟩ := nodeOk_of hw
 rw [Core.nodes_eq] at hn hp ha ⊢
 rw [Core.rps_eq]
 obtain ⟨n,rfl⟩ : ∃ m,n = m + 1 := ⟨n - 1,by omega⟩
 obtain ⟨n,rfl⟩ : ∃ m,n = m + 1 := ⟨n - 1,by omega⟩
 have loop : ∀ (post pre : List Core) (n : Nat) (a0 : List Int),c.kids = pre ++ post → a0.length ≤ acc.length + 1 → 16 * Core.nodess post + 1 ≤ n →
   i_redexPositions_l3 n c ((p + 1 + Core.nodess pre : Nat) : Int) (a0 ++ Core.rpss pre (p + 1)) ((List.length pre : Nat) : Int) = some (a0 ++ Core.rpss c.kids (p + 1),((p + 1 + Core.nodess c.kids : Nat) : Int)) := by
  intro post
  induction post with
  | nil =>
   intro pre n a0 h h0 hn
   obtain ⟨n,rfl⟩ : ∃ m,n = m + 1 := ⟨n - 1,by omega⟩
   have hk0 : c.kids = pre := by rw [h,List.append_nil]
   rw [i_redexPositions_l3,ge_app h,if_neg (by simp),hk0]
  | cons x post ihp =>
   intro pre n a0 h h0 hn
   rw [Core.nodess] at hn
   have := x.nodes_pos
   obtain ⟨n,rfl⟩ : ∃ m,n = m + 1 := ⟨n - 1,by omega⟩
   have hx : x ∈ c.kids := by rw [h]; simp
   have hnn : Core.nodess c.kids = Core.nodess pre + (x.nodes + Core.nodess post) := by rw [h,nodess_app]
   have hlen := Core.rpss_len pre (p + 1)
   rw [i_redexPositions_l3,if_pos (lt_app h),at_app h,bind_some',ih x hx (hf x hx) (wfs_mem hx hwk) (p + 1 + Core.nodess pre) n _ (by omega) (by omega) (by rw [List.length_append]; omega),bind_some',wrap_app h hk,List.append_assoc,← rpss_snoc]
   have := ihp (pre ++ [x]) n a0 (next_app h) h0 (by omega)
   rw [nodess_snoc',← Nat.add_assoc] at this
   exact this
 rw [i_redexPositions,iRedexKind_eq c hno,bind_some']
 have go : ∀ a0 : List Int,a0.length ≤ acc.length + 1 → i_redexPositions_j1 (n + 1) c (p : Int) a0 = some (a0 ++ Core.rpss c.kids (p + 1),((p + (1 + Core.nodess c.kids) : Nat) : Int)) := fun a0 h0 => by
  rw [i_redexPositions_j1,w64n1 (by omega)]
  have := loop c.kids [] n a0 (by simp) h0 (by omega)
  rw [Core.rpss,List.append_nil,Core.nodess,Nat.add_zero] at this
  rw [show p + (1 + Core.nodess c.kids) = p + 1 + Core.nodess c.kids by omega]
  exact this
 by_cases hr : rk c = 0
 ·rw [decide_eq_true hr,Bool.not_true,if_neg (by simp),if_pos hr,List.nil_append]
  exact go acc (by omega)
 ·rw [decide_eq_false hr,Bool.not_false,if_pos rfl,if_neg hr,app_ok (by simp; omega),bind_some',← List.append_assoc]
  exact go (acc ++ [(p : Int)]) (by simp)
theorem sPos_eq : ∀ (c : Core),c.Small → c.wf = true → ∀ (p n : Nat) (acc : List Int),16 * c.nodes ≤ n → p + c.nodes ≤ Big → acc.length + c.nodes ≤ Big → s_l18Redexes n c (p : Int) acc = some (acc ++ c.rps p,((p + c.nodes : Nat) : Int)) := by
 refine Core.ind fun c ih hs hw p n acc hn hp ha => ?_
 obtain ⟨_,hdl,hk,hf⟩ := hs
 obtain ⟨hno,hwk⟩ := nodeOk_of hw
 rw [Core.nodes_eq] at hn hp ha ⊢
 rw [Core.rps_eq]
 obtain ⟨n,rfl⟩ : ∃ m,n = m + 1 := ⟨n - 1,by omega⟩
 obtain ⟨n,rfl⟩ : ∃ m,n = m + 1 := ⟨n - 1,by omega⟩
 have loop : ∀ (post pre : List Core) (n : Nat) (a0 : List Int),c.kids = pre ++ post → a0.length ≤ acc.length + 1 → 16 * Core.nodess post + 1 ≤ n →
   s_l18Redexes_l3 n c ((p + 1 + Core.nodess pre : Nat) : Int) (a0 ++ Core.rpss pre (p + 1)) ((List.length pre : Nat) : Int) = some (a0 ++ Core.rpss c.kids (p + 1),((p + 1 + Core.nodess c.kids : Nat) : Int)) := by
  intro post
  induction post with
  | nil =>
   intro pre n a0 h h0 hn
   obtain ⟨n,rfl⟩ : ∃ m,n = m + 1 := ⟨n - 1,by omega⟩
   have hk0 : c.kids = pre := by rw [h,List.append_nil]
   rw [s_l18Redexes_l3,ge_app h,if_neg (by simp),hk0]
  | cons x post ihp =>
   intro pre n a0 h h0 hn
   rw [Core.nodess] at hn
   have := x.nodes_pos
   obtain ⟨n,rfl⟩ : ∃ m,n = m + 1 := ⟨n - 1,by omega⟩
   have hx : x ∈ c.kids := by rw [h]; simp
   have hnn : Core.nodess c.kids = Core.nodess pre + (x.nodes + Core.nodess post) := by rw [h,nodess_app]
   have hlen := Core.rpss_len pre (p + 1)
   rw [s_l18Redexes_l3,if_pos (lt_app h),at_app h,bind_some',ih x hx (hf x hx) (wfs_mem hx hwk) (p + 1 + Core.nodess pre) n _ (by omega) (by omega) (by rw [List.length_append]; omega),bind_some',wrap_app h hk,List.append_assoc,← rpss_snoc]
   have := ihp (pre ++ [x]) n a0 (next_app h) h0 (by omega)
   rw [nodess_snoc',← Nat.add_assoc] at this
   exact this
 rw [s_l18Redexes,sKind_eq c hno,bind_some']
 have go : ∀ a0 : List Int,a0.length ≤ acc.length + 1 → s_l18Redexes_j1 (n + 1) c (p : Int) a0 = some (a0 ++ Core.rpss c.kids (p + 1),((p + (1 + Core.nodess c.kids) : Nat) : Int)) := fun a0 h0 => by
  rw [s_l18Redexes_j1,w64n1 (by omega)]
  have := loop c.kids [] n a0 (by simp) h0 (by omega)
  rw [Core.rpss,List.append_nil,Core.nodess,Nat.add_zero] at this
  rw [show p + (1 + Core.nodess c.kids) = p + 1 + Core.nodess c.kids by omega]
  exact this
 by_cases hr : rk c = 0
 ·rw [decide_eq_true hr,Bool.not_true,if_neg (by simp),if_pos hr,List.nil_append]
  exact go acc (by omega)
 ·rw [decide_eq_false hr,Bool.not_false,if_pos rfl,if_neg hr,app_ok (by simp; omega),bind_some',← List.append_assoc]
  exact go (acc ++ [(p : Int)]) (by simp)
end Go.Proofs.YtjdinbgcgbigoaaGreat.Ab
namespace Go.Proofs.YtjdinbgcgbigoaaGreat.Ab
set_option linter.unusedVariables false
set_option linter.unusedSimpArgs false
open Go.RowKit
theorem j4_same : s_l18Contract_j4 = s_l08Develop_j4 := rfl
section
variable {defs : List Core} {b : Book} (hb : b.defs = defs) {marks : List Int}
theorem sTail0_eq (hE : EnvOk ⟨defs,opF⟩) {P : Nat → Bool} (c : Core) (hw : c.wf = true) (hnm : c.anyC (names defs.length) = false) (hN : c.nodes ≤ 400) (A p : Nat) (hA : A + c.depth ≤ 81) (ha : c.above A = false) {acc : List Core} (hacc : Core.dms ⟨defs,opF⟩ P c.kids (p + 1) = some acc) (q : Int) :
  s_l18Contract_j4 q c.kind c.value c.data acc 0 = some (dvN ⟨defs,opF⟩ c false acc,(if (dvN ⟨defs,opF⟩ c false acc).fit = true then 0 else 4),q) := by
 have hN' := hN
 rw [Core.nodes_eq] at hN'
 have hkl : c.kids.length ≤ 400 := by have := len_nodess c.kids; omega
 have hnk : ∀ x ∈ c.kids,x.kind = 11 → x.value < (defs.length : Int) := fun x hx hk => names_ref (names_kid hnm hx) hk
 obtain ⟨k1,k2,k3,k4,k5,k6⟩ := kids_dv hE c hw hnm A p hA ha (fun x hx hwx => dm_good hE x hwx (names_kid hnm hx)) hacc false
 have hNd := dvN_nodes hE c hw hnk false acc k1 hkl k2 k3
 have hsm := small_of_wf _ k5 hNd
 have e : dvN ⟨defs,opF⟩ c false acc = ⟨c.kind,c.value,c.data,acc⟩ := dvN_0 (by simp)
 rw [e] at hsm hNd ⊢
 unfold s_l18Contract_j4 s_l18Contract_j5 s_l18Contract_j6
 rw [decide_eq_true rfl,if_pos rfl,l08Fits_eq _ hsm hNd,bind_some']
 cases (⟨c.kind,c.value,c.data,acc⟩ : Core).fit <;> rfl
include hb
theorem sMark_eq (hE : EnvOk ⟨defs,opF⟩) (hml : marks.length ≤ Big) : ∀ (c : Core),c.Small → c.wf = true → c.nodes ≤ 400 → c.anyC (names defs.length) = false → ∀ (A p n : Nat),A + c.depth ≤ 81 → c.above A = false → 16 * c.nodes ≤ n → p + c.nodes ≤ Big →
  ∃ x code at',s_l18Contract n b c (p : Int) marks = some (x,code,at') ∧ (match c.dm ⟨defs,opF⟩ (inP marks) p with | some e => x = e ∧ code = 0 ∧ at' = ((p + c.nodes : Nat) : Int) | none => code = 4) := by
 refine Core.ind fun c ih hs hw hN hnm A p n hA ha hn hq => ?_
 have hs' := hs
 obtain ⟨_,hdl,hk,hf⟩ := hs'
 obtain ⟨hno,hwk⟩ := nodeOk_of hw
 have hN' := hN
 rw [Core.nodes_eq] at hn hN' hq
 have hA' := hA
 rw [Core.depth_eq] at hA'
 have hkl : c.kids.length ≤ 400 := by have := len_nodess c.kids; omega
 obtain ⟨n,rfl⟩ : ∃ m,n = m + 1 := ⟨n - 1,by omega⟩
 obtain ⟨n,rfl⟩ : ∃ m,n = m + 1 := ⟨n - 1,by omega⟩
 have loop : ∀ (post pre acc : List Core) (n i : Nat),c.kids = pre ++ post → pre.length = i → Core.dms ⟨defs,opF⟩ (inP marks) pre (p + 1) = some acc → acc.length = pre.length → 16 * Core.nodess post + 1 ≤ n → (post = [] ∨ Core.aboves c.kind post i A = false) →
   ∃ x code at',s_l18Contract_l3 n b c marks (if inP marks p = true then rk c else 0) ((p + 1 + Core.nodess pre : Nat) : Int) acc ((List.length pre : Nat) : Int) = some (x,code,at') ∧ (match c.dm ⟨defs,opF⟩ (inP marks) p with | some e => x = e ∧ code = 0 ∧ at' = ((p + c.nodes : Nat) : Int) | none => code = 4) := by
  intro post
  induction post with
  | nil =>
   intro pre acc n i h hi hacc hal hn _
   obtain ⟨n,rfl⟩ : ∃ m,n = m + 1 := ⟨n - 1,by omega⟩
   have hk0 : c.kids = pre := by rw [h,List.append_nil]
   rw [s_l18Contract_l3,ge_app h,if_neg (by simp)]
   rw [← hk0] at hacc hal ⊢
   have fin : ∀ x,((dvN ⟨defs,opF⟩ c (inP marks p) acc).fit = true → x = dvN ⟨defs,opF⟩ c (inP marks p) acc) → (match c.dm ⟨defs,opF⟩ (inP marks) p with | some e => x = e ∧ (if (dvN ⟨defs,opF⟩ c (inP marks p) acc).fit = true then (0 : Int) else 4) = 0 ∧ ((p + 1 + Core.nodess c.kids : Nat) : Int) = ((p + c.nodes : Nat) : Int) | none => (if (dvN ⟨defs,opF⟩ c (inP marks p) acc).fit = true then (0 : Int) else 4) = 4) := fun x t2 => by
    rw [Core.dm_eq,hacc]
    show (match fitO (dvN ⟨defs,opF⟩ c (inP marks p) acc) with | some e => _ | none => _)
    unfold fitO
    cases hfit : (dvN ⟨defs,opF⟩ c (inP marks p) acc).fit with
    | true =>
     rw [if_pos rfl]
     refine ⟨t2 hfit,rfl,?_⟩
     rw [c.nodes_eq]
     omega
    | false => rw [if_neg (by simp)]; rfl
   cases hm : inP marks p with
   | true =>
    rw [hm] at fin
    obtain ⟨x,t1,t2⟩ := sTail_eq hb hE c hw hnm hN A p hA ha hacc ((p + 1 + Core.nodess c.kids : Nat) : Int)
    rw [if_pos rfl,j4_same]
    exact ⟨_,_,_,t1,fin x t2⟩
   | false =>
    rw [hm] at fin
    rw [show (if (false : Bool) = true then rk c else 0) = (0 : Int) from if_neg (by simp),decide_eq_false (by omega),if_neg (by simp),decide_eq_false (by omega),if_neg (by simp),decide_eq_false (by omega),if_neg (by simp),sTail0_eq hE c hw hnm hN A p hA ha hacc]
    exact ⟨_,_,_,rfl,fin _ fun _ => rfl⟩
  | cons x post ihp =>
   intro pre acc n i h hi hacc hal hn hab
   replace hab := hab.resolve_left (by simp)
   rw [Core.aboves,Bool.or_eq_false_iff] at hab
   rw [Core.nodess] at hn
   have := x.nodes_pos
   obtain ⟨n,rfl⟩ : ∃ m,n = m + 1 := ⟨n - 1,by omega⟩
   have hx : x ∈ c.kids := by rw [h]; simp
   have hxd := kid_depth hx
   have hxn := nodess_mem hx
   have hbd := bnd_le c.kind i
   have hpl : pre.length + 1 ≤ c.kids.length := by rw [h]; simp
   have hnn : Core.nodess c.kids = Core.nodess pre + (x.nodes + Core.nodess post) := by rw [h,nodess_app]
   obtain ⟨y,code,at',h1,h2⟩ := ih x hx (hf x hx) (wfs_mem hx hwk) (by omega) (names_kid hnm hx) (A + bnd c.kind i) (p + 1 + Core.nodess pre) n (by omega) hab.1 (by omega) (by omega)
   rw [s_l18Contract_l3,if_pos (lt_app h),at_app h,bind_some',h1,bind_some']
   cases hxe : x.dm ⟨defs,opF⟩ (inP marks) (p + 1 + Core.nodess pre) with
   | none =>
    rw [hxe] at h2
    subst h2
    refine ⟨⟨0,0,[],[]⟩,4,at',rfl,?_⟩
    rw [Core.dm_eq,h,dms_append hacc,hxe]; rfl
   | some e =>
    rw [hxe] at h2
    obtain ⟨rfl,rfl,rfl⟩ := h2
    rw [if_neg (by simp),app_ok (by unfold Big; simp; omega),bind_some',wrap_app h hk]
    have := ihp (pre ++ [x]) (acc ++ [y]) n (i + 1) (next_app h) (by simp [hi]) (dms_snoc hacc hxe) (by simp [hal]) (by omega) (.inr hab.2)
    rw [nodess_snoc',← Nat.add_assoc] at this
    exact this
 have hend := loop c.kids [] [] n 0 (by simp) rfl (by rw [Core.dms]) rfl (by omega) (by
  by_cases h1 : c.kind = 1
  ·exact .inl (var_kids hno h1)
  ·rw [Core.above_eq,if_neg h1] at ha; exact .inr ha)
 rw [Core.nodess,Nat.add_zero] at hend
 rw [s_l18Contract,sHas_eq marks (p : Int) hml,bind_some']
 have go : ∀ v,s_l18Contract_j1 (n + 1) b c (p : Int) marks v = s_l18Contract_l3 n b c marks v ((p + 1 : Nat) : Int) [] ((List.length ([] : List Core) : Nat) : Int) := fun v => by
  rw [s_l18Contract_j1,w64n1 (by omega)]; rfl
 show ∃ x code at',(if inP marks p = true then _ else _) = _ ∧ _
 cases hm : inP marks p with
 | true =>
  rw [hm,if_pos rfl] at hend
  rw [if_pos rfl,sKind_eq c hno,bind_some',go]
  exact hend
 | false =>
  rw [hm,if_neg (by simp)] at hend
  rw [if_neg (by simp),go]
  exact hend
theorem iMark_eq (hE : EnvOk ⟨defs,opF⟩) (hml : marks.length ≤ Big) : ∀ (c : Core),c.Small → c.wf = true → c.nodes ≤ 400 → c.anyC (names defs.length) = false → ∀ (A p n : Nat),A + c.depth ≤ 81 → c.above A = false → 16 * c.nodes ≤ n → p + c.nodes ≤ Big → (∀ q ∈ marks,(p : Int) ≤ q → q < ((p + c.nodes : Nat) : Int) → q ∈ c.rps p) →
  ∃ x ok m,i_marker_contract n ⟨b,marks,(p : Int)⟩ c = some (x,ok,m) ∧ (match c.dm ⟨defs,opF⟩ (inP marks) p with | some e => x = e ∧ ok = true ∧ m = ⟨b,marks,((p + c.nodes : Nat) : Int)⟩ | none => ok = false) := by
 refine Core.ind fun c ih hs hw hN hnm A p n hA ha hn hq H => ?_
 have hs' := hs
 obtain ⟨_,hdl,hk,hf⟩ := hs'
 obtain ⟨hno,hwk⟩ := nodeOk_of hw
 have hN' := hN
 rw [Core.nodes_eq] at hn hN' hq H
 have hA' := hA
 rw [Core.depth_eq] at hA'
 have hkl : c.kids.length ≤ 400 := by have := len_nodess c.kids; omega
 have hnk : ∀ x ∈ c.kids,x.kind = 11 → x.value < (defs.length : Int) := fun x hx hk => names_ref (names_kid hnm hx) hk
 obtain ⟨n,rfl⟩ : ∃ m,n = m + 1 := ⟨n - 1,by omega⟩
 have hclone : g_Clone_sint64 c.data = some c.data := by unfold g_Clone_sint64; rw [app_ok (by simpa using hdl)]; rfl
 rw [i_marker_contract]
 dsimp only
 rw [gContains_eq marks (p : Int) hml,bind_some',hclone,bind_some',w64n1 (by omega)]
 show ∃ x ok m,i_marker_contract_l2 n ⟨b,marks,(p : Int)⟩ c (inP marks p) c.data _ _ _ = _ ∧ _
 have loop : ∀ (post pre acc : List Core) (n i : Nat),c.kids = pre ++ post → pre.length = i → Core.dms ⟨defs,opF⟩ (inP marks) pre (p + 1) = some acc → acc.length = pre.length → 16 * Core.nodess post + 1 ≤ n → (post = [] ∨ Core.aboves c.kind post i A = false) →
   ∃ x ok m,i_marker_contract_l2 n ⟨b,marks,(p : Int)⟩ c (inP marks p) c.data ((p + 1 + Core.nodess pre : Nat) : Int) acc ((List.length pre : Nat) : Int) = some (x,ok,m) ∧ (match c.dm ⟨defs,opF⟩ (inP marks) p with | some e => x = e ∧ ok = true ∧ m = ⟨b,marks,((p + c.nodes : Nat) : Int)⟩ | none => ok = false) := by
  intro post
  induction post with
  | nil =>
   intro pre acc n i h hi hacc hal hn _
   obtain ⟨n,rfl⟩ : ∃ m,n = m + 1 := ⟨n - 1,by omega⟩
   have hk0 : c.kids = pre := by rw [h,List.append_nil]
   rw [i_marker_contract_l2,ge_app h,if_neg (by simp)]
   rw [← hk0] at hacc hal ⊢
   obtain ⟨k1,k2,k3,k4,k5,k6⟩ := kids_dv hE c hw hnm A p hA ha (fun x hx hwx => dm_good hE x hwx (names_kid hnm hx)) hacc (inP marks p)
   have hNd := dvN_nodes hE c hw hnk (inP marks p) acc k1 hkl k2 k3
   have hsm := small_of_wf _ k5 hNd
   have fin : ∃ x ok m,i_marker_contract_j3 ⟨b,marks,(p : Int)⟩ ((p + 1 + Core.nodess c.kids : Nat) : Int) (dvN ⟨defs,opF⟩ c (inP marks p) acc).kind (dvN ⟨defs,opF⟩ c (inP marks p) acc).value (dvN ⟨defs,opF⟩ c (inP marks p) acc).data (dvN ⟨defs,opF⟩ c (inP marks p) acc).kids = some (x,ok,m) ∧ (match c.dm ⟨defs,opF⟩ (inP marks) p with | some e => x = e ∧ ok = true ∧ m = ⟨b,marks,((p + c.nodes : Nat) : Int)⟩ | none => ok = false) := by
    unfold i_marker_contract_j3
    rw [core_eta,coreFits_fit _ hsm hNd]
    refine ⟨_,_,_,rfl,?_⟩
    rw [Core.dm_eq,hacc]
    show (match fitO (dvN ⟨defs,opF⟩ c (inP marks p) acc) with | some e => _ | none => _)
    unfold fitO
    cases hfit : (dvN ⟨defs,opF⟩ c (inP marks p) acc).fit with
    | true =>
     rw [if_pos rfl]
     refine ⟨rfl,rfl,?_⟩
     rw [c.nodes_eq,Nat.add_assoc]
    | false => rw [if_neg (by simp)]
   cases hm : inP marks p with
   | true =>
    have hmem : (p : Int) ∈ marks := by unfold inP at hm; simpa using hm
    have hr : rk c ≠ 0 := fun hr0 => by
     have := H (p : Int) hmem (by omega) (by omega)
     rw [Core.rps_eq,if_pos hr0,List.nil_append] at this
     have := Core.rpss_mem _ _ _ this
     omega
    rw [hm] at fin
    rw [if_pos rfl,iRedexKind_eq c hno,bind_some',iContract_eq hb hE c hw hnk acc k1 k3 k4 hr,bind_some']
    exact fin
   | false =>
    have e : dvN ⟨defs,opF⟩ c false acc = ⟨c.kind,c.value,c.data,acc⟩ := dvN_0 (by simp)
    rw [hm,e] at fin
    rw [if_neg (by simp)]
    exact fin
  | cons x post ihp =>
   intro pre acc n i h hi hacc hal hn hab
   replace hab := hab.resolve_left (by simp)
   rw [Core.aboves,Bool.or_eq_false_iff] at hab
   rw [Core.nodess] at hn
   have := x.nodes_pos
   obtain ⟨n,rfl⟩ : ∃ m,n = m + 1 := ⟨n - 1,by omega⟩
   have hx : x ∈ c.kids := by rw [h]; simp
   have hxd := kid_depth hx
   have hxn := nodess_mem hx
   have hbd := bnd_le c.kind i
   have hpl : pre.length + 1 ≤ c.kids.length := by rw [h]; simp
   have hnn : Core.nodess c.kids = Core.nodess pre + (x.nodes + Core.nodess post) := by rw [h,nodess_app]
   have Hx : ∀ q ∈ marks,((p + 1 + Core.nodess pre : Nat) : Int) ≤ q → q < ((p + 1 + Core.nodess pre + x.nodes : Nat) : Int) → q ∈ x.rps (p + 1 + Core.nodess pre) := fun q hq h1 h2 => by
    have := H q hq (by omega) (by omega)
    rw [Core.rps_eq,h,rpss_app,List.mem_append,List.mem_append,List.mem_append] at this
    rcases this with t | t | t | t
    ·split at t
     ·simp at t
     ·simp at t; omega
    ·have := Core.rpss_mem _ _ _ t; omega
    ·exact t
    ·have := Core.rpss_mem _ _ _ t; omega
   obtain ⟨y,ok,m,h1,h2⟩ := ih x hx (hf x hx) (wfs_mem hx hwk) (by omega) (names_kid hnm hx) (A + bnd c.kind i) (p + 1 + Core.nodess pre) n (by omega) hab.1 (by omega) (by omega) Hx
   rw [i_marker_contract_l2,if_pos (lt_app h),at_app h,bind_some']
   dsimp only
   rw [h1,bind_some']
   cases hxe : x.dm ⟨defs,opF⟩ (inP marks) (p + 1 + Core.nodess pre) with
   | none =>
    rw [hxe] at h2
    subst h2
    refine ⟨⟨0,0,[],[]⟩,false,_,rfl,?_⟩
    rw [Core.dm_eq,h,dms_append hacc,hxe]; rfl
   | some e =>
    rw [hxe] at h2
    obtain ⟨rfl,rfl,rfl⟩ := h2
    rw [if_neg (by simp),app_ok (by unfold Big; simp; omega),bind_some',wrap_app h hk]
    have := ihp (pre ++ [x]) (acc ++ [y]) n (i + 1) (next_app h) (by simp [hi]) (dms_snoc hacc hxe) (by simp [hal]) (by omega) (.inr hab.2)
    rw [nodess_snoc',← Nat.add_assoc] at this
    exact this
 refine loop c.kids [] [] n 0 (by simp) rfl (by rw [Core.dms]) rfl (by omega) ?_
 by_cases h1 : c.kind = 1
 ·exact .inl (var_kids hno h1)
 ·rw [Core.above_eq,if_neg h1] at ha; exact .inr ha
end
def incM : Option Int → List Int → Bool
 | _,[] => true
 | none,x :: xs => incM (some x) xs
 | some y,x :: xs => decide (y < x) && incM (some x) xs
def okM (R : List Int) (o : Option Int) (l : List Int) : Bool := incM o l && !(l.any fun y => !decide (y ∈ R))
theorem iInc_eq (l : List Int) (hl : l.length ≤ Big) : i_isIncreasing l = some (incM none l) := by
 unfold i_isIncreasing
 have loop : ∀ (post pre : List Int) (y : Int) (n : Nat),l = pre ++ y :: post → post.length < n → i_isIncreasing_l1 n l ((pre.length : Int) + 1) = some (incM (some y) post) := by
  intro post
  induction post with
  | nil =>
   intro pre y n h hn
   obtain ⟨n,rfl⟩ : ∃ m,n = m + 1 := ⟨n - 1,by omega⟩
   rw [i_isIncreasing_l1,decide_eq_false (by rw [h]; simp),if_neg (by simp),incM]
  | cons x post ih =>
   intro pre y n h hn
   rw [List.length_cons] at hn
   obtain ⟨n,rfl⟩ : ∃ m,n = m + 1 := ⟨n - 1,by omega⟩
   have h' : l = (pre ++ [y]) ++ x :: post := by rw [h]; simp
   have hlen : ((pre.length : Int) + 1) = ((List.length (pre ++ [y]) : Nat) : Int) := by simp
   have hpl : pre.length + 1 ≤ Big := by rw [h] at hl; simp at hl; omega
   rw [i_isIncreasing_l1,show (pre.length : Int) + 1 - 1 = (pre.length : Int) by omega,w64 (by omega) (by unfold Big at hpl; omega),at_app h,bind_some']
   rw [hlen,if_pos (lt_app h'),at_app h',bind_some',incM]
   by_cases hxy : x ≤ y
   ·rw [decide_eq_true hxy,if_pos rfl,decide_eq_false (by omega)]; rfl
   ·rw [decide_eq_false hxy,if_neg (by simp),wrap_app h' hl,decide_eq_true (show y < x by omega),Bool.true_and]
    have := ih (pre ++ [y]) x n h' (by omega)
    rw [show ((List.length (pre ++ [y]) : Nat) : Int) + 1 = ((List.length (pre ++ [y] ++ [x]) : Nat) : Int) by simp; omega] at this
    exact this
 cases l with
 | nil =>
  obtain ⟨n,hn⟩ : ∃ m,fuel = m + 1 := ⟨fuel - 1,by rw [fuel_eq]⟩
  rw [hn,i_isIncreasing_l1,decide_eq_false (by simp),if_neg (by simp),incM]
 | cons y post =>
  have := loop post [] y fuel rfl (by rw [fuel_eq]; unfold Big at hl; simp at hl; omega)
  rw [incM]
  exact this
theorem sChk_eq (b : Book) (c : Core) (l : List Int) (v : List Int × Int) (hl : l.length ≤ Big) (hv : v.1.length ≤ Big) : ∀ (post pre : List Int) (n : Nat),l = pre ++ post → 2 * post.length + 2 ≤ n →
  s_l18Marked_l7 n b c l v ((List.length pre : Nat) : Int) = if okM v.1 pre.getLast? post = true then (Option.bind (s_l18Contract fuel b c 0 l) fun v12003 => (if (!decide (v12003.2.1 = 0)) = true then (some ((⟨0,0,[],[]⟩ : Core),v12003.2.1)) else (Option.bind (s_l06Own v12003.1) fun v15000 => (some (v15000,0))))) else some ((⟨0,0,[],[]⟩ : Core),2) := by
 intro post
 induction post with
 | nil =>
  intro pre n h hn
  obtain ⟨n,rfl⟩ : ∃ m,n = m + 1 := ⟨n - 1,by omega⟩
  rw [s_l18Marked_l7,ge_app h,if_neg (by simp),if_pos (by simp [okM,incM])]
 | cons x post ih =>
  intro pre n h hn
  rw [List.length_cons] at hn
  obtain ⟨n,rfl⟩ : ∃ m,n = m + 1 := ⟨n - 1,by omega⟩
  obtain ⟨n,rfl⟩ : ∃ m,n = m + 1 := ⟨n - 1,by omega⟩
  have hi := ih (pre ++ [x]) n (next_app h) (by omega)
  rw [List.getLast?_concat] at hi
  have bad : ∀ q : Int,s_l18Marked_j8 (n + 1) b c l q v true = some ((⟨0,0,[],[]⟩ : Core),2) := fun q => by rw [s_l18Marked_j8,if_pos rfl]
  have good : s_l18Marked_j8 (n + 1) b c l ((List.length pre : Nat) : Int) v false = s_l18Marked_l7 n b c l v ((List.length (pre ++ [x]) : Nat) : Int) := by
   rw [s_l18Marked_j8,if_neg (by simp),wrap_app h hl]
  have mem : ∀ o,(match o with | none => true | some y => decide (y < x)) = true → s_l18Marked_j8 (n + 1) b c l ((List.length pre : Nat) : Int) v (!decide (x ∈ v.1)) = if okM v.1 o (x :: post) = true then (Option.bind (s_l18Contract fuel b c 0 l) fun v12003 => (if (!decide (v12003.2.1 = 0)) = true then (some ((⟨0,0,[],[]⟩ : Core),v12003.2.1)) else (Option.bind (s_l06Own v12003.1) fun v15000 => (some (v15000,0))))) else some ((⟨0,0,[],[]⟩ : Core),2) := fun o ho => by
   have e : okM v.1 o (x :: post) = (decide (x ∈ v.1) && okM v.1 (some x) post) := by
    unfold okM
    have e1 : incM o (x :: post) = incM (some x) post := by
     cases o with
     | none => rw [incM]
     | some y => rw [incM,show decide (y < x) = true from ho,Bool.true_and]
    rw [e1,List.any_cons]
    cases incM (some x) post <;> cases decide (x ∈ v.1) <;> simp
   rw [e]
   by_cases hx : x ∈ v.1
   ·rw [decide_eq_true hx,Bool.not_true,Bool.true_and,good,hi]
   ·rw [decide_eq_false hx,Bool.not_false,Bool.false_and,bad,if_neg (by simp)]
  rw [s_l18Marked_l7,if_pos (lt_app h),at_app h]
  simp only [bind_some']
  rw [sHas_eq v.1 x hv]
  simp only [bind_some']
  rcases pre.eq_nil_or_concat with h0 | ⟨pre',y,h0⟩
  ·rw [if_neg (by rw [h0]; simp),mem none rfl,h0]; rfl
  ·have hpl : pre'.length + 1 ≤ Big := by rw [h,h0] at hl; simp at hl; omega
   have ha : at? l (IntKind.i64.wrap (((List.length pre : Nat) : Int) - 1)) = some y := by
    rw [show ((List.length pre : Nat) : Int) - 1 = ((List.length pre' : Nat) : Int) by rw [h0]; simp,w64 (by omega) (by unfold Big at hpl; omega)]
    exact at_app (show l = pre' ++ y :: (x :: post) by rw [h,h0]; simp)
   rw [if_pos (by rw [h0]; simp),ha,bind_some']
   have hgl : pre.getLast? = some y := by rw [h0,List.concat_eq_append,List.getLast?_concat]
   rw [hgl]
   by_cases hxy : x ≤ y
   ·rw [decide_eq_true hxy,if_pos rfl,bad,if_neg (by
     unfold okM
     rw [incM,decide_eq_false (by omega)]
     simp)]
   ·rw [decide_eq_false hxy,if_neg (by simp)]
    exact mem (some y) (decide_eq_true (by omega))
theorem ContractMarked_same (b : Book) (c : Core) (l : List Int) (hb : b.sz ≤ 1048576) (hc : c.sz ≤ 1048576) (hll : l.length ≤ 1048576) : ∃ r,s_ContractMarked b c l = some r ∧ i_ContractMarked b c l = some r ∧ r.1.sz ≤ Big := by
 obtain ⟨hl,hs,-⟩ := szs_small (l := b.defs) hb
 have hml : l.length ≤ Big := by unfold Big; omega
 have hcs := Core.small_of c (by unfold Big; omega)
 have hN : c.nodes ≤ Big := by have := Core.nodes_le c; unfold Big; omega
 have hz : noCore.sz ≤ Big := by rw [noCore_sz]; omega
 unfold s_ContractMarked s_l18Marked i_ContractMarked
 rw [sState_eq b c hl hs hcs hN,iState_eq b c hl hs hcs hN,bind_some',bind_some']
 cases hst : stB b c with
 | false => exact ⟨(noCore,1),rfl,rfl,hz⟩
 | true =>
  unfold stB at hst
  simp only [Bool.and_eq_true,Bool.not_eq_true'] at hst
  obtain ⟨⟨hv,⟨hcl,-⟩,hnm⟩,-⟩ := hst
  obtain ⟨hcv,hab⟩ := closed_parts hcl
  obtain ⟨hw,hd,hn⟩ := valid_parts hcv
  have hE := env_of hv
  have hR : (c.rps 0).length ≤ Big := by have := c.rps_len 0; omega
  have q1 := sPos_eq c hcs hw 0 fuel [] (fuel_nodes hN) (by omega) (by simp; exact hN)
  have q2 := iPos_eq c hcs hw 0 fuel [] (fuel_nodes hN) (by omega) (by simp; exact hN)
  rw [List.nil_append] at q1 q2
  have q1' : s_l18Redexes fuel c 0 [] = some (c.rps 0,((0 + c.nodes : Nat) : Int)) := q1
  have q2' : i_redexPositions fuel c 0 [] = some (c.rps 0,((0 + c.nodes : Nat) : Int)) := q2
  have hch := sChk_eq b c l (c.rps 0,((0 + c.nodes : Nat) : Int)) hml hR l [] fuel rfl (by rw [fuel_eq]; unfold Big at hml; omega)
  have hch' : s_l18Marked_l7 fuel b c l (c.rps 0,((0 + c.nodes : Nat) : Int)) 0 = _ := hch
  have hcf : g_ContainsFunc_sint64 l (fun y0 => i_ContractMarked_1 y0 (c.rps 0)) = some (l.any fun y => !decide (y ∈ c.rps 0)) := by
   refine containsInt l _ _ hml fun y hy => ?_
   unfold i_ContractMarked_1
   rw [gContains_eq _ _ hR,bind_some']
  rw [Bool.not_true,if_neg (by simp),if_neg (by simp),q1',bind_some',q2',bind_some',hch',iInc_eq l hml,bind_some']
  dsimp only
  have bad : i_ContractMarked_j1 b c l true = some (noCore,2) := by unfold i_ContractMarked_j1; rw [if_pos rfl]; rfl
  rw [hcf]
  show ∃ r,(Option.bind (if okM (c.rps 0) none l = true then _ else _) _) = _ ∧ _
  have hok : okM (c.rps 0) none l = (incM none l && !(l.any fun y => !decide (y ∈ c.rps 0))) := rfl
  cases hinc : incM none l with
  | false =>
   rw [hinc,Bool.false_and] at hok
   rw [hok,if_neg (by simp),Bool.not_false,if_pos rfl,bad]
   exact ⟨(noCore,2),rfl,rfl,hz⟩
  | true =>
   rw [hinc,Bool.true_and] at hok
   rw [Bool.not_true,if_neg (show ¬ ((false : Bool) = true) by simp),bind_some']
   cases hany : l.any fun y => !decide (y ∈ c.rps 0) with
   | true =>
    rw [hany] at hok
    rw [hok,if_neg (by simp),bad]
    exact ⟨(noCore,2),rfl,rfl,hz⟩
   | false =>
    rw [hany] at hok
    rw [hok,if_pos (by rfl)]
    have H : ∀ q ∈ l,((0 : Nat) : Int) ≤ q → q < ((0 + c.nodes : Nat) : Int) → q ∈ c.rps 0 := fun q hq _ _ => by
     rw [List.any_eq_false] at hany
     simpa using hany q hq
    obtain ⟨x,ok,m,h1,h2⟩ := iMark_eq (b := b) rfl hE hml c hcs hw hn hnm 0 0 fuel (by omega) hab (fuel_nodes hN) (by omega) H
    obtain ⟨y,code,at',h3,h4⟩ := sMark_eq (b := b) rfl hE hml c hcs hw hn hnm 0 0 fuel (by omega) hab (fuel_nodes hN) (by omega)
    have h1' : i_marker_contract fuel ⟨b,l,0⟩ c = some (x,ok,m) := h1
    have h3' : s_l18Contract fuel b c 0 l = some (y,code,at') := h3
    unfold i_ContractMarked_j1
    rw [if_neg (by simp),h1',h3',bind_some',bind_some']
    cases hdm : c.dm ⟨b.defs,opF⟩ (inP l) 0 with
    | none =>
     rw [hdm] at h2 h4
     subst h2 h4
     exact ⟨(noCore,4),rfl,rfl,hz⟩
    | some e =>
     rw [hdm] at h2 h4
     obtain ⟨e1,rfl,-⟩ := h2
     obtain ⟨e2,rfl,-⟩ := h4
     have e3 : e = x := e1.symm
     have e4 : e = y := e2.symm
     clear e1 e2
     subst e3 e4
     have g := dm_good hE c hw hnm 0 0 (by omega) hab _ hdm
     have gp := g.parts
     have gN : e.nodes ≤ Big := by unfold Big; omega
     have hsh := l06Shift_eq 0 (by omega) e g.small g.wf 0 fuel (by unfold Big; omega) (fuel_nodes gN)
     rw [mv0 e g.wf] at hsh
     have hsh' : s_l06Shift fuel e 0 0 = some e := hsh
     unfold s_l06Own
     refine ⟨(e,0),?_,?_,?_⟩
     ·simp only [decide_true,Bool.not_true,Bool.false_eq_true,reduceIte,hsh',bind_some']
      try rfl
     ·simp only [Bool.not_true,Bool.false_eq_true,reduceIte,iCopyCore_eq e g.small fuel (fuel_nodes gN),bind_some']
      try rfl
     ·have := sz_wf e g.wf
      show e.sz ≤ Big
      unfold Big; omega
end Go.Proofs.YtjdinbgcgbigoaaGreat.Ab
namespace Go.Proofs.YtjdinbgcgbigoaaGreat.Ab
set_option linter.unusedVariables false
set_option linter.unusedSimpArgs false
open Go.RowKit

theorem law_len {n : Nat} {K : Option Bool} (h : n ≤ 1048576 → K = some true) : (if (decide ((1048576 : Int) < ((n : Nat) : Int))) = true then some true else K) = some true := by
  by_cases h1 : n ≤ 1048576
  · rw [decide_eq_false (by omega), if_neg (by simp)]; exact h h1
  · rw [decide_eq_true (by omega), if_pos rfl]
theorem ContractMarked_plain (a0 : Book) (h0 : oksC (Book.ds a0)) (a1 : Core) (h1 : oksC (Core.ds a1)) (a2 : List Int) (h2 : oksC ((slD i64D a2))) : l_FnExactContractMarked a0 a1 a2 = some true := by
  unfold l_FnExactContractMarked
  refine law_len (n := a2.length) fun z2 => ?_
  refine law_sz (szBook_e a0 h0 (1048576) (by omega)) fun z0 => ?_
  refine law_sz (szCore_eq a1 (Core.fits_ok a1 h1) (1048576 - a0.sz) fuel (by omega) (by rw [fuel_eq]; omega)) fun z1 => ?_
  have b0 : a0.sz ≤ Big := by unfold Big; omega
  have b1 : a1.sz ≤ Big := by unfold Big; omega
  have b2 : a2.length ≤ Big := by unfold Big; omega
  obtain ⟨r, hs, hi, hr⟩ := ContractMarked_same a0 a1 a2 (by omega) (by omega) (by omega)
  have ft0 : l_toBook a0 = some a0 := toBook_eq a0 b0
  have fe0 : l_eqBook a0 a0 = some true := eqBook_refl a0 b0
  have ft1 : l_toCore fuel a1 = some a1 := toCore_e a1 b1
  have fe1 : l_eqCore fuel a1 a1 = some true := eqCore_e a1 b1
  have ft2 : l_toInt64S a2 = some a2 := toInt64S_eq a2 b2
  have fe2 : l_eqInt64S a2 a2 = some true := (eqInt64S_tells a2 a2 b2).true rfl
  have br0 := hr
  have ge0 : l_eqCore fuel r.1 r.1 = some true := eqCore_e r.1 br0
  have fm0 : l_markBook a0 1 = some (((1 + a0.cntV : Nat) : Int), (Book.mkV (1) a0).defs) := markBook_eq a0 (1) b0 (by have := Book.cntV_le a0; have := b0; unfold Big KB at *; omega)
  have fm1 : l_markCore a1 ((1 + a0.cntV : Nat) : Int) = some (((1 + a0.cntV + a1.cntV : Nat) : Int), (Core.mkV (1 + a0.cntV) a1).data, (Core.mkV (1 + a0.cntV) a1).kids) := markCore_eq a1 (1 + a0.cntV) b1 (by have := Book.cntV_le a0; have := b0; have := Core.cntV_le a1; have := b1; unfold Big KB at *; omega)
  have fm2 : l_markInt64S a2 ((1 + a0.cntV + a1.cntV : Nat) : Int) = some (((1 + a0.cntV + a1.cntV + cnts one a2 : Nat) : Int), mks mkI one (1 + a0.cntV + a1.cntV) a2) := markInt64S_eq a2 (1 + a0.cntV + a1.cntV) b2 (by have := Book.cntV_le a0; have := b0; have := Core.cntV_le a1; have := b1; have := cnts_flat (c := one) (b := 1) (l := a2) (fun x => one_le); have := b2; unfold Big KB at *; omega)
  have gm0 : l_markCore r.1 1 = some (((1 + r.1.cntV : Nat) : Int), (Core.mkV (1) r.1).data, (Core.mkV (1) r.1).kids) := markCore_eq r.1 (1) br0 (by have := Core.cntV_le r.1; have := br0; unfold Big KB at *; omega)
  have gh0 : l_heldCore ⟨r.1.kind, r.1.value, (Core.mkV (1) r.1).data, (Core.mkV (1) r.1).kids⟩ 1 = some (((1 + r.1.cntV : Nat) : Int)) := heldCore_eq r.1 (1) br0 (by have := Core.cntV_le r.1; have := br0; unfold Big KB at *; omega)
  simp only [bind_some', hs, hi, ft0, fe0, ft1, fe1, ft2, fe2, ge0, fm0, fm1, fm2, gm0, gh0, l_FnExactContractMarked_j3, l_FnExactContractMarked_j2, l_FnExactContractMarked_j1, sameStr_self, beq_self_eq_true, nneg, eq_self, decide_true, decide_false, Bool.not_true, Bool.not_false, Bool.false_eq_true, reduceIte]
end Go.Proofs.YtjdinbgcgbigoaaGreat.Ab
