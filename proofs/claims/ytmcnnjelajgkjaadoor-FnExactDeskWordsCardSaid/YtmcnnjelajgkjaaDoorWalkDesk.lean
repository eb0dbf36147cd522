/-
  The walk of the law FnExactDeskWords.
-/
import Derived.Test.YtmcnnjelajgkjaaDoorRows
import Derived.Test.YtmcnnjelajgkjaaDoorDesk
namespace Go.Proofs.YtmcnnjelajgkjaaDoor.lawDeskWords
set_option linter.unusedVariables false
open Go.RowKit

theorem shaped_below {P : Program} {w w' : World} (h : w.ShapedOpen P) (hb : Below w.heap.size w w') : w'.ShapedOpen P :=
  h.keptBut (hb.frame (fun _ => False)) (fun _ h => h.elim)

set_option maxRecDepth 8000 in
set_option maxHeartbeats 1000000 in
theorem walk (w : World) (hsh : w.ShapedOpen Tryd.prog) :
    Calls Tryd.prog 3 #[] w fun e w' => e = .returned (.bool true) ∧ Below w.heap.size w w' := by
  have HS := Lib.hid hsh; clear hsh
  go_enter Tryd.func3, Tryd.ntmps3
  go_wp2_with fail
  refine (specDesk_any _).mono ?_
  rintro e w1 ⟨a1, n1, c1, f1, rfl, ho1, hf1, hb1⟩
  have O1 := Lib.hid ho1.rep; clear ho1 hf1
  go_wp2_with fail
  refine (implDesk_any w1 (shaped_below HS.out hb1)).mono ?_
  rintro e w2 ⟨a2, n2, c2, f2, rfl, ho2, hf2, hb2⟩
  have O2 := Lib.hid ho2; clear ho2
  have F2 := Lib.hid hf2; clear hf2
  have H2 := bnext hb1 hb2
  have O12 : Hid (Rep w2 (strs dw) (.slice a1 n1 c1)) := O1.out.below hb2
  go_wp2_with fail
  refine (eqStrS_any dw _ _ w2 O2.out.rep O12.out).mono ?_
  rintro e w3 ⟨rfl, hb3⟩
  have O23 : Hid (Own w3 (strs dw) (.slice a2 n2 c2) f2) := O2.out.keep fun g hg => hb3.block g (O2.out.lt g hg)
  have O13 : Hid (Rep w3 (strs dw) (.slice a1 n1 c1)) := O12.out.below hb3
  have H3 := bnext H2 hb3
  have HO : Hid (∀ g ∈ f2, w1.heap.size ≤ g) := fun g hg => F2.out.1 g hg
  go_wp2_with fail
  refine (markStringS_any dw _ f2 1 w3 O23.out (by decide)).mono ?_
  rintro e w4 ⟨rfl, ho4, hon⟩
  have O4 := Lib.hid ho4; clear ho4
  have H34 : Below w1.heap.size w3 w4 := hon.below (Nat.le_trans hb2.size hb3.size) HO.out
  have H14 : Below w1.heap.size w1 w4 := ((hb2.trans (hb3.mono hb2.size)).trans H34)
  have O14 : Hid (Rep w4 (strs dw) (.slice a1 n1 c1)) := O1.out.below H14
  have H4 := bnext hb1 H14
  clear hon
  go_wp2_with fail
  refine (heldStringS_any dw.length 1 _ w4 O4.out.rep (by decide)).mono ?_
  rintro e w5 ⟨rfl, hb5⟩
  have H5 := bnext H4 hb5
  go_wp2_with fail
  refine (implDesk_any w5 (shaped_below HS.out H5)).mono ?_
  rintro e w6 ⟨a6, n6, c6, f6, rfl, ho6, hf6, hb6⟩
  have O6 := Lib.hid ho6.rep; clear ho6 hf6
  have H6 := bnext H5 hb6
  have B46 := bnext hb5 hb6
  go_wp2_with fail
  refine (eqStrS_any dw _ _ w6 O6.out (O14.out.below B46)).mono ?_
  rintro e w7 ⟨rfl, hb7⟩
  have H7 := bnext H6 hb7
  go_wp2_with fail
  refine (heldStringS_any dw.length 1 _ w7 (O4.out.rep.below (bnext B46 hb7)) (by decide)).mono ?_
  rintro e w8 ⟨rfl, hb8⟩
  have H8 := bnext H7 hb8
  go_wp2_with fail
  go_ret
  exact ⟨rfl, H8⟩
end Go.Proofs.YtmcnnjelajgkjaaDoor.lawDeskWords
