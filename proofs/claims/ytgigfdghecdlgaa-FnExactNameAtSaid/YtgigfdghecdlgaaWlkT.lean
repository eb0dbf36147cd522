/-
  The functions do what their models say. Printed by wip/ab/gen.py.
-/
import Derived.Test.YtgigfdghecdlgaaModT
import Derived.Test.YtgigfdghecdlgaaTi2
import Derived.Test.YtgigfdghecdlgaaWlk
namespace Go.Proofs.Ytgigfdghecdlgaa.Ab
set_option linter.unusedVariables false
set_option linter.unusedSimpArgs false
set_option maxRecDepth 20000
set_option maxHeartbeats 4000000
open Go.RowKit

theorem i_Labelled_tree_all (n : Nat) : (∀ (a0 : Labelled) (a1 : Core) (a2 : Int) (r : LabelNode × Int), i_Labelled_tree n a0 a1 a2 = some r → AG Try.prog 51 [.agg [.int .i64 a0.term.kind, .int .i64 a0.term.value, .ro (List.map i64D a0.term.data), .ro (List.map Core.ds a0.term.kids), .ro (List.map strD a0.labels)], .agg [.int .i64 a1.kind, .int .i64 a1.value, .ro (List.map i64D a1.data), .ro (List.map Core.ds a1.kids)], .box 1 0] [] [(1, [.int .i64 a2])] (.rop [.int .i64 r.1.core.kind, .int .i64 r.1.core.value, .ro (List.map i64D r.1.core.data), .ro (List.map Core.ds r.1.core.kids), .str r.1.label, .int .i64 r.1.att, .ro (List.map (pD LabelNode.ds) r.1.kids)] 0) [] [(1, [.int .i64 r.2])]) ∧
    (∀ (a0 : Labelled) (a1 : Core) (a2 : Int) (v2006 : ByteArray) (p1_0 : Int) (p1_1 : List LabelNode) (p1_2 : Int) (r : LabelNode × Int), i_Labelled_tree_l2 n a0 a1 a2 v2006 p1_0 p1_1 p1_2 = some r → posG Try.prog Try.f51 [1, 1, 1, 0, 1, 0] (.rop [.int .i64 r.1.core.kind, .int .i64 r.1.core.value, .ro (List.map i64D r.1.core.data), .ro (List.map Core.ds r.1.core.kids), .str r.1.label, .int .i64 r.1.att, .ro (List.map (pD LabelNode.ds) r.1.kids)] 0) [] [(1, [.int .i64 r.2])] ⟨[(2, .box 1 0), (3, .box 1000001500 0), (7, .box 1000001501 0), (29, .ro (List.map Core.ds a1.kids)), (30, .int .i64 ((List.length a1.kids : Nat) : Int)), (31, .int .i64 p1_2)], [(1000001000, some ⟨List.map (pD LabelNode.ds) p1_1, some 1, 0, true⟩)], [(1, some [.int .i64 p1_0]), (1000001500, some [.int .i64 a0.term.kind, .int .i64 a0.term.value, .ro (List.map i64D a0.term.data), .ro (List.map Core.ds a0.term.kids), .ro (List.map strD a0.labels)]), (1000001501, some [.int .i64 a1.kind, .int .i64 a1.value, .ro (List.map i64D a1.data), .ro (List.map Core.ds a1.kids), .str v2006, .int .i64 a2, .own 1000001000])]⟩) := by
  induction n with
  | zero => exact ⟨(fun _ _ _ _ h => by rw [i_Labelled_tree] at h; cases h), (fun _ _ _ _ _ _ _ _ h => by rw [i_Labelled_tree_l2] at h; cases h)⟩
  | succ n ih =>
    obtain ⟨ih0, ih1⟩ := ih
    refine ⟨?_, ?_⟩
    · intro a0 a1 a2 r h
      rw [i_Labelled_tree] at h
      refine ag_fn mixed Try.func51 rfl rfl rfl (by kernel_rfl) (by kernel_rfl) ?_
      try simp only [go_sem]
      refine draw_i [] .fin (by kernel_rfl) ?_
      try simp only [go_sem]
      replace h := bindE h
      obtain ⟨v2006, hv2006, h⟩ := h
      refine idx_m hv2006 rfl ?_
      try simp only [go_sem]
      refine seq_go ?_
      try simp only [go_sem]
      have hj := posG_to rfl rfl (ih1 a0 a1 a2 v2006 (IntKind.i64.wrap (a2 + 1)) [] 0 _ h)
      refine loop_to hj (.one ⟨_, .cell 2012 6 2000000000 (some 1) true _ (by simp only [go_sem]; rfl) (by rfl) (by simp only [go_sem]) (.done _), [(1000001000, 2000000000)], [(1, 1), (1000001500, 1000), (1000001501, 2012)], ?_⟩)
      clear hj
      simp only [go_sem]
      all_goals try rfl
    · intro a0 a1 a2 v2006 p1_0 p1_1 p1_2 r h
      rw [i_Labelled_tree_l2] at h
      refine posG_of rfl rfl ?_
      try simp only [go_sem]
      refine loop_i ?_
      try simp only [go_sem]
      refine cond_i (fun hb1 => ?_) (fun hb1 => ?_)
      · replace h := ifT (c := (decide (p1_2 < ((List.length a1.kids : Nat) : Int)))) hb1 h
        try simp only [go_sem]
        refine seq_go ?_
        try simp only [go_sem]
        replace h := bindE h
        obtain ⟨v6000, hv6000, h⟩ := h
        refine idx_m hv6000 (Core.ds_len _) ?_
        try simp only [go_sem]
        refine seq_go ?_
        try simp only [go_sem]
        replace h := bindE h
        obtain ⟨v7008, hv7008, h⟩ := h
        replace h := bindE h
        obtain ⟨v7010, hv7010, h⟩ := h
        refine draw_i [false, false, true, true, true, true, true, false, true, true, true, true, true, true] (.br 2 (Tr.sq [3] (.br 4 (.br 5 (Tr.sq [6, 8, 9, 10, 11, 12, 13] .fin) (.br 6 (Tr.sq [5, 8, 9, 10, 11, 12, 13] .fin) .stop)) (.br 5 (.br 4 (Tr.sq [6, 8, 9, 10, 11, 12, 13] .fin) (.br 6 (.br 4 (Tr.sq [8, 9, 10, 11, 12, 13] .fin) (.br 8 (.br 4 (Tr.sq [9, 10, 11, 12, 13] .fin) (.br 9 (Tr.sq [4, 10, 11, 12, 13] .fin) .stop)) .stop)) .stop)) (.br 6 (.br 4 (Tr.sq [5, 8, 9, 10, 11, 12, 13] .fin) (.br 5 (.br 4 (Tr.sq [8, 9, 10, 11, 12, 13] .fin) (.br 8 (.br 4 (Tr.sq [9, 10, 11, 12, 13] .fin) (.br 9 (Tr.sq [4, 10, 11, 12, 13] .fin) .stop)) .stop)) .stop)) .stop)))) (.br 5 (.br 2 (Tr.sq [3] (.br 4 (Tr.sq [6, 8, 9, 10, 11, 12, 13] .fin) (.br 6 (.br 4 (Tr.sq [8, 9, 10, 11, 12, 13] .fin) (.br 8 (.br 4 (Tr.sq [9, 10, 11, 12, 13] .fin) (.br 9 (Tr.sq [4, 10, 11, 12, 13] .fin) .stop)) .stop)) .stop))) (.br 6 (.br 2 (Tr.sq [3] (.br 4 (Tr.sq [8, 9, 10, 11, 12, 13] .fin) (.br 8 (.br 4 (Tr.sq [9, 10, 11, 12, 13] .fin) (.br 9 (Tr.sq [4, 10, 11, 12, 13] .fin) .stop)) .stop))) (.br 8 (.br 2 (Tr.sq [3] (.br 4 (Tr.sq [9, 10, 11, 12, 13] .fin) (.br 9 (Tr.sq [4, 10, 11, 12, 13] .fin) .stop))) (.br 9 (Tr.sq [2, 3, 4, 10, 11, 12, 13] .fin) .stop)) .stop)) .stop)) (.br 6 (.br 2 (Tr.sq [3] (.br 4 (Tr.sq [5, 8, 9, 10, 11, 12, 13] .fin) (.br 5 (.br 4 (Tr.sq [8, 9, 10, 11, 12, 13] .fin) (.br 8 (.br 4 (Tr.sq [9, 10, 11, 12, 13] .fin) (.br 9 (Tr.sq [4, 10, 11, 12, 13] .fin) .stop)) .stop)) .stop))) (.br 5 (.br 2 (Tr.sq [3] (.br 4 (Tr.sq [8, 9, 10, 11, 12, 13] .fin) (.br 8 (.br 4 (Tr.sq [9, 10, 11, 12, 13] .fin) (.br 9 (Tr.sq [4, 10, 11, 12, 13] .fin) .stop)) .stop))) (.br 8 (.br 2 (Tr.sq [3] (.br 4 (Tr.sq [9, 10, 11, 12, 13] .fin) (.br 9 (Tr.sq [4, 10, 11, 12, 13] .fin) .stop))) (.br 9 (Tr.sq [2, 3, 4, 10, 11, 12, 13] .fin) .stop)) .stop)) .stop)) .stop))) (by kernel_rfl) ?_
        try simp only [go_sem]
        try simp only [go_sem]
        refine alt_i ?_ ?_
        · try simp only [go_sem]
          try simp only [go_sem]
          refine alt_i ?_ ?_
          · try simp only [go_sem]
            try simp only [go_sem]
            refine alt_i ?_ ?_
            · try simp only [go_sem]
              refine call_g ⟨[], [], [(1, 1, 0)], [], [], true⟩ (by kernel_rfl) (ih0 _ _ _ _ hv7008) (by kernel_rfl) ?_
              try simp only [go_sem]
              have hq_ := app_some hv7010
              obtain ⟨hv7010a, hv7010b⟩ := hq_
              refine zed_i true ?_
              try simp only [go_sem]
              refine and_i (by refine ⟨?_, ?_⟩ <;> (try simp only [List.length_map, List.length_append, List.length_cons, List.length_nil] at *) <;> (try unfold maxLen) <;> omega) ?_
              try simp only [go_sem]
              refine row_i (List.map (pD LabelNode.ds) v7010) (by rw [← hv7010b]; simp only [List.map_append, List.map_cons, List.map_nil, List.nil_append, List.append_nil, go_sem, pD, LabelNode.ds_eq]) ?_
              try simp only [go_sem]
              refine seq_go ?_
              try simp only [go_sem]
              have hj := posG_to rfl rfl (ih1 a0 a1 a2 v2006 v7008.2 v7010 (IntKind.i64.wrap (p1_2 + 1)) _ h)
              refine lp_to hj (.one ⟨_, .done _, [(1000001000, 112160)], [(1, 1), (1000001500, 1000001500), (1000001501, 1000001501)], ?_⟩)
              clear hj
              try simp only [go_sem]
            · try simp only [go_sem]
              refine call_g ⟨[], [], [(1, 1, 0)], [], [], true⟩ (by kernel_rfl) (ih0 _ _ _ _ hv7008) (by kernel_rfl) ?_
              try simp only [go_sem]
              have hq_ := app_some hv7010
              obtain ⟨hv7010a, hv7010b⟩ := hq_
              refine zed_i true ?_
              try simp only [go_sem]
              refine and_i (by refine ⟨?_, ?_⟩ <;> (try simp only [List.length_map, List.length_append, List.length_cons, List.length_nil] at *) <;> (try unfold maxLen) <;> omega) ?_
              try simp only [go_sem]
              refine row_i (List.map (pD LabelNode.ds) v7010) (by rw [← hv7010b]; simp only [List.map_append, List.map_cons, List.map_nil, List.nil_append, List.append_nil, go_sem, pD, LabelNode.ds_eq]) ?_
              try simp only [go_sem]
              refine seq_go ?_
              try simp only [go_sem]
              have hj := posG_to rfl rfl (ih1 a0 a1 a2 v2006 v7008.2 v7010 (IntKind.i64.wrap (p1_2 + 1)) _ h)
              refine lp_to hj (.one ⟨_, .done _, [(1000001000, 112160)], [(1, 1), (1000001500, 1000001500), (1000001501, 1000001501)], ?_⟩)
              clear hj
              try simp only [go_sem]
          · try simp only [go_sem]
            refine alt_i ?_ ?_
            · try simp only [go_sem]
              try simp only [go_sem]
              refine alt_i ?_ ?_
              · try simp only [go_sem]
                refine call_g ⟨[], [], [(1, 1, 0)], [], [], true⟩ (by kernel_rfl) (ih0 _ _ _ _ hv7008) (by kernel_rfl) ?_
                try simp only [go_sem]
                have hq_ := app_some hv7010
                obtain ⟨hv7010a, hv7010b⟩ := hq_
                refine zed_i true ?_
                try simp only [go_sem]
                refine and_i (by refine ⟨?_, ?_⟩ <;> (try simp only [List.length_map, List.length_append, List.length_cons, List.length_nil] at *) <;> (try unfold maxLen) <;> omega) ?_
                try simp only [go_sem]
                refine row_i (List.map (pD LabelNode.ds) v7010) (by rw [← hv7010b]; simp only [List.map_append, List.map_cons, List.map_nil, List.nil_append, List.append_nil, go_sem, pD, LabelNode.ds_eq]) ?_
                try simp only [go_sem]
                refine seq_go ?_
                try simp only [go_sem]
                have hj := posG_to rfl rfl (ih1 a0 a1 a2 v2006 v7008.2 v7010 (IntKind.i64.wrap (p1_2 + 1)) _ h)
                refine lp_to hj (.one ⟨_, .done _, [(1000001000, 112160)], [(1, 1), (1000001500, 1000001500), (1000001501, 1000001501)], ?_⟩)
                clear hj
                try simp only [go_sem]
              · try simp only [go_sem]
                try simp only [go_sem]
                refine alt_i ?_ ?_
                · try simp only [go_sem]
                  refine call_g ⟨[], [], [(1, 1, 0)], [], [], true⟩ (by kernel_rfl) (ih0 _ _ _ _ hv7008) (by kernel_rfl) ?_
                  try simp only [go_sem]
                  have hq_ := app_some hv7010
                  obtain ⟨hv7010a, hv7010b⟩ := hq_
                  refine zed_i true ?_
                  try simp only [go_sem]
                  refine and_i (by refine ⟨?_, ?_⟩ <;> (try simp only [List.length_map, List.length_append, List.length_cons, List.length_nil] at *) <;> (try unfold maxLen) <;> omega) ?_
                  try simp only [go_sem]
                  refine row_i (List.map (pD LabelNode.ds) v7010) (by rw [← hv7010b]; simp only [List.map_append, List.map_cons, List.map_nil, List.nil_append, List.append_nil, go_sem, pD, LabelNode.ds_eq]) ?_
                  try simp only [go_sem]
                  refine seq_go ?_
                  try simp only [go_sem]
                  have hj := posG_to rfl rfl (ih1 a0 a1 a2 v2006 v7008.2 v7010 (IntKind.i64.wrap (p1_2 + 1)) _ h)
                  refine lp_to hj (.one ⟨_, .done _, [(1000001000, 112160)], [(1, 1), (1000001500, 1000001500), (1000001501, 1000001501)], ?_⟩)
                  clear hj
                  try simp only [go_sem]
                · try simp only [go_sem]
                  refine call_g ⟨[], [], [(1, 1, 0)], [], [], true⟩ (by kernel_rfl) (ih0 _ _ _ _ hv7008) (by kernel_rfl) ?_
                  try simp only [go_sem]
                  try simp only [go_sem]
                  refine alt_i ?_ ?_
                  · try simp only [go_sem]
                    have hq_ := app_some hv7010
                    obtain ⟨hv7010a, hv7010b⟩ := hq_
                    refine zed_i true ?_
                    try simp only [go_sem]
                    refine and_i (by refine ⟨?_, ?_⟩ <;> (try simp only [List.length_map, List.length_append, List.length_cons, List.length_nil] at *) <;> (try unfold maxLen) <;> omega) ?_
                    try simp only [go_sem]
                    refine row_i (List.map (pD LabelNode.ds) v7010) (by rw [← hv7010b]; simp only [List.map_append, List.map_cons, List.map_nil, List.nil_append, List.append_nil, go_sem, pD, LabelNode.ds_eq]) ?_
                    try simp only [go_sem]
                    refine seq_go ?_
                    try simp only [go_sem]
                    have hj := posG_to rfl rfl (ih1 a0 a1 a2 v2006 v7008.2 v7010 (IntKind.i64.wrap (p1_2 + 1)) _ h)
                    refine lp_to hj (.one ⟨_, .done _, [(1000001000, 112160)], [(1, 1), (1000001500, 1000001500), (1000001501, 1000001501)], ?_⟩)
                    clear hj
                    try simp only [go_sem]
                  · try simp only [go_sem]
                    have hq_ := app_some hv7010
                    obtain ⟨hv7010a, hv7010b⟩ := hq_
                    refine zed_i true ?_
                    try simp only [go_sem]
                    refine and_i (by refine ⟨?_, ?_⟩ <;> (try simp only [List.length_map, List.length_append, List.length_cons, List.length_nil] at *) <;> (try unfold maxLen) <;> omega) ?_
                    try simp only [go_sem]
                    refine row_i (List.map (pD LabelNode.ds) v7010) (by rw [← hv7010b]; simp only [List.map_append, List.map_cons, List.map_nil, List.nil_append, List.append_nil, go_sem, pD, LabelNode.ds_eq]) ?_
                    try simp only [go_sem]
                    refine seq_go ?_
                    try simp only [go_sem]
                    have hj := posG_to rfl rfl (ih1 a0 a1 a2 v2006 v7008.2 v7010 (IntKind.i64.wrap (p1_2 + 1)) _ h)
                    refine lp_to hj (.one ⟨_, .done _, [(1000001000, 112160)], [(1, 1), (1000001500, 1000001500), (1000001501, 1000001501)], ?_⟩)
                    clear hj
                    try simp only [go_sem]
            · try simp only [go_sem]
              try simp only [go_sem]
              refine alt_i ?_ ?_
              · try simp only [go_sem]
                refine call_g ⟨[], [], [(1, 1, 0)], [], [], true⟩ (by kernel_rfl) (ih0 _ _ _ _ hv7008) (by kernel_rfl) ?_
                try simp only [go_sem]
                have hq_ := app_some hv7010
                obtain ⟨hv7010a, hv7010b⟩ := hq_
                refine zed_i true ?_
                try simp only [go_sem]
                refine and_i (by refine ⟨?_, ?_⟩ <;> (try simp only [List.length_map, List.length_append, List.length_cons, List.length_nil] at *) <;> (try unfold maxLen) <;> omega) ?_
                try simp only [go_sem]
                refine row_i (List.map (pD LabelNode.ds) v7010) (by rw [← hv7010b]; simp only [List.map_append, List.map_cons, List.map_nil, List.nil_append, List.append_nil, go_sem, pD, LabelNode.ds_eq]) ?_
                try simp only [go_sem]
                refine seq_go ?_
                try simp only [go_sem]
                have hj := posG_to rfl rfl (ih1 a0 a1 a2 v2006 v7008.2 v7010 (IntKind.i64.wrap (p1_2 + 1)) _ h)
                refine lp_to hj (.one ⟨_, .done _, [(1000001000, 112160)], [(1, 1), (1000001500, 1000001500), (1000001501, 1000001501)], ?_⟩)
                clear hj
                try simp only [go_sem]
              · try simp only [go_sem]
                try simp only [go_sem]
                refine alt_i ?_ ?_
                · try simp only [go_sem]
                  refine call_g ⟨[], [], [(1, 1, 0)], [], [], true⟩ (by kernel_rfl) (ih0 _ _ _ _ hv7008) (by kernel_rfl) ?_
                  try simp only [go_sem]
                  have hq_ := app_some hv7010
                  obtain ⟨hv7010a, hv7010b⟩ := hq_
                  refine zed_i true ?_
                  try simp only [go_sem]
                  refine and_i (by refine ⟨?_, ?_⟩ <;> (try simp only [List.length_map, List.length_append, List.length_cons, List.length_nil] at *) <;> (try unfold maxLen) <;> omega) ?_
                  try simp only [go_sem]
                  refine row_i (List.map (pD LabelNode.ds) v7010) (by rw [← hv7010b]; simp only [List.map_append, List.map_cons, List.map_nil, List.nil_append, List.append_nil, go_sem, pD, LabelNode.ds_eq]) ?_
                  try simp only [go_sem]
                  refine seq_go ?_
                  try simp only [go_sem]
                  have hj := posG_to rfl rfl (ih1 a0 a1 a2 v2006 v7008.2 v7010 (IntKind.i64.wrap (p1_2 + 1)) _ h)
                  refine lp_to hj (.one ⟨_, .done _, [(1000001000, 112160)], [(1, 1), (1000001500, 1000001500), (1000001501, 1000001501)], ?_⟩)
                  clear hj
                  try simp only [go_sem]
                · try simp only [go_sem]
                  refine call_g ⟨[], [], [(1, 1, 0)], [], [], true⟩ (by kernel_rfl) (ih0 _ _ _ _ hv7008) (by kernel_rfl) ?_
                  try simp only [go_sem]
                  try simp only [go_sem]
                  refine alt_i ?_ ?_
                  · try simp only [go_sem]
                    have hq_ := app_some hv7010
                    obtain ⟨hv7010a, hv7010b⟩ := hq_
                    refine zed_i true ?_
                    try simp only [go_sem]
                    refine and_i (by refine ⟨?_, ?_⟩ <;> (try simp only [List.length_map, List.length_append, List.length_cons, List.length_nil] at *) <;> (try unfold maxLen) <;> omega) ?_
                    try simp only [go_sem]
                    refine row_i (List.map (pD LabelNode.ds) v7010) (by rw [← hv7010b]; simp only [List.map_append, List.map_cons, List.map_nil, List.nil_append, List.append_nil, go_sem, pD, LabelNode.ds_eq]) ?_
                    try simp only [go_sem]
                    refine seq_go ?_
                    try simp only [go_sem]
                    have hj := posG_to rfl rfl (ih1 a0 a1 a2 v2006 v7008.2 v7010 (IntKind.i64.wrap (p1_2 + 1)) _ h)
                    refine lp_to hj (.one ⟨_, .done _, [(1000001000, 112160)], [(1, 1), (1000001500, 1000001500), (1000001501, 1000001501)], ?_⟩)
                    clear hj
                    try simp only [go_sem]
                  · try simp only [go_sem]
                    have hq_ := app_some hv7010
                    obtain ⟨hv7010a, hv7010b⟩ := hq_
                    refine zed_i true ?_
                    try simp only [go_sem]
                    refine and_i (by refine ⟨?_, ?_⟩ <;> (try simp only [List.length_map, List.length_append, List.length_cons, List.length_nil] at *) <;> (try unfold maxLen) <;> omega) ?_
                    try simp only [go_sem]
                    refine row_i (List.map (pD LabelNode.ds) v7010) (by rw [← hv7010b]; simp only [List.map_append, List.map_cons, List.map_nil, List.nil_append, List.append_nil, go_sem, pD, LabelNode.ds_eq]) ?_
                    try simp only [go_sem]
                    refine seq_go ?_
                    try simp only [go_sem]
                    have hj := posG_to rfl rfl (ih1 a0 a1 a2 v2006 v7008.2 v7010 (IntKind.i64.wrap (p1_2 + 1)) _ h)
                    refine lp_to hj (.one ⟨_, .done _, [(1000001000, 112160)], [(1, 1), (1000001500, 1000001500), (1000001501, 1000001501)], ?_⟩)
                    clear hj
                    try simp only [go_sem]
        · try simp only [go_sem]
          refine alt_i ?_ ?_
          · try simp only [go_sem]
            try simp only [go_sem]
            refine alt_i ?_ ?_
            · try simp only [go_sem]
              try simp only [go_sem]
              refine alt_i ?_ ?_
              · try simp only [go_sem]
                refine call_g ⟨[], [], [(1, 1, 0)], [], [], true⟩ (by kernel_rfl) (ih0 _ _ _ _ hv7008) (by kernel_rfl) ?_
                try simp only [go_sem]
                have hq_ := app_some hv7010
                obtain ⟨hv7010a, hv7010b⟩ := hq_
                refine zed_i true ?_
                try simp only [go_sem]
                refine and_i (by refine ⟨?_, ?_⟩ <;> (try simp only [List.length_map, List.length_append, List.length_cons, List.length_nil] at *) <;> (try unfold maxLen) <;> omega) ?_
                try simp only [go_sem]
                refine row_i (List.map (pD LabelNode.ds) v7010) (by rw [← hv7010b]; simp only [List.map_append, List.map_cons, List.map_nil, List.nil_append, List.append_nil, go_sem, pD, LabelNode.ds_eq]) ?_
                try simp only [go_sem]
                refine seq_go ?_
                try simp only [go_sem]
                have hj := posG_to rfl rfl (ih1 a0 a1 a2 v2006 v7008.2 v7010 (IntKind.i64.wrap (p1_2 + 1)) _ h)
                refine lp_to hj (.one ⟨_, .done _, [(1000001000, 112160)], [(1, 1), (1000001500, 1000001500), (1000001501, 1000001501)], ?_⟩)
                clear hj
                try simp only [go_sem]
              · try simp only [go_sem]
                try simp only [go_sem]
                refine alt_i ?_ ?_
                · try simp only [go_sem]
                  refine call_g ⟨[], [], [(1, 1, 0)], [], [], true⟩ (by kernel_rfl) (ih0 _ _ _ _ hv7008) (by kernel_rfl) ?_
                  try simp only [go_sem]
                  have hq_ := app_some hv7010
                  obtain ⟨hv7010a, hv7010b⟩ := hq_
                  refine zed_i true ?_
                  try simp only [go_sem]
                  refine and_i (by refine ⟨?_, ?_⟩ <;> (try simp only [List.length_map, List.length_append, List.length_cons, List.length_nil] at *) <;> (try unfold maxLen) <;> omega) ?_
                  try simp only [go_sem]
                  refine row_i (List.map (pD LabelNode.ds) v7010) (by rw [← hv7010b]; simp only [List.map_append, List.map_cons, List.map_nil, List.nil_append, List.append_nil, go_sem, pD, LabelNode.ds_eq]) ?_
                  try simp only [go_sem]
                  refine seq_go ?_
                  try simp only [go_sem]
                  have hj := posG_to rfl rfl (ih1 a0 a1 a2 v2006 v7008.2 v7010 (IntKind.i64.wrap (p1_2 + 1)) _ h)
                  refine lp_to hj (.one ⟨_, .done _, [(1000001000, 112160)], [(1, 1), (1000001500, 1000001500), (1000001501, 1000001501)], ?_⟩)
                  clear hj
                  try simp only [go_sem]
                · try simp only [go_sem]
                  refine call_g ⟨[], [], [(1, 1, 0)], [], [], true⟩ (by kernel_rfl) (ih0 _ _ _ _ hv7008) (by kernel_rfl) ?_
                  try simp only [go_sem]
                  try simp only [go_sem]
                  refine alt_i ?_ ?_
                  · try simp only [go_sem]
                    have hq_ := app_some hv7010
                    obtain ⟨hv7010a, hv7010b⟩ := hq_
                    refine zed_i true ?_
                    try simp only [go_sem]
                    refine and_i (by refine ⟨?_, ?_⟩ <;> (try simp only [List.length_map, List.length_append, List.length_cons, List.length_nil] at *) <;> (try unfold maxLen) <;> omega) ?_
                    try simp only [go_sem]
                    refine row_i (List.map (pD LabelNode.ds) v7010) (by rw [← hv7010b]; simp only [List.map_append, List.map_cons, List.map_nil, List.nil_append, List.append_nil, go_sem, pD, LabelNode.ds_eq]) ?_
                    try simp only [go_sem]
                    refine seq_go ?_
                    try simp only [go_sem]
                    have hj := posG_to rfl rfl (ih1 a0 a1 a2 v2006 v7008.2 v7010 (IntKind.i64.wrap (p1_2 + 1)) _ h)
                    refine lp_to hj (.one ⟨_, .done _, [(1000001000, 112160)], [(1, 1), (1000001500, 1000001500), (1000001501, 1000001501)], ?_⟩)
                    clear hj
                    try simp only [go_sem]
                  · try simp only [go_sem]
                    have hq_ := app_some hv7010
                    obtain ⟨hv7010a, hv7010b⟩ := hq_
                    refine zed_i true ?_
                    try simp only [go_sem]
                    refine and_i (by refine ⟨?_, ?_⟩ <;> (try simp only [List.length_map, List.length_append, List.length_cons, List.length_nil] at *) <;> (try unfold maxLen) <;> omega) ?_
                    try simp only [go_sem]
                    refine row_i (List.map (pD LabelNode.ds) v7010) (by rw [← hv7010b]; simp only [List.map_append, List.map_cons, List.map_nil, List.nil_append, List.append_nil, go_sem, pD, LabelNode.ds_eq]) ?_
                    try simp only [go_sem]
                    refine seq_go ?_
                    try simp only [go_sem]
                    have hj := posG_to rfl rfl (ih1 a0 a1 a2 v2006 v7008.2 v7010 (IntKind.i64.wrap (p1_2 + 1)) _ h)
                    refine lp_to hj (.one ⟨_, .done _, [(1000001000, 112160)], [(1, 1), (1000001500, 1000001500), (1000001501, 1000001501)], ?_⟩)
                    clear hj
                    try simp only [go_sem]
            · try simp only [go_sem]
              try simp only [go_sem]
              refine alt_i ?_ ?_
              · try simp only [go_sem]
                try simp only [go_sem]
                refine alt_i ?_ ?_
                · try simp only [go_sem]
                  refine call_g ⟨[], [], [(1, 1, 0)], [], [], true⟩ (by kernel_rfl) (ih0 _ _ _ _ hv7008) (by kernel_rfl) ?_
                  try simp only [go_sem]
                  have hq_ := app_some hv7010
                  obtain ⟨hv7010a, hv7010b⟩ := hq_
                  refine zed_i true ?_
                  try simp only [go_sem]
                  refine and_i (by refine ⟨?_, ?_⟩ <;> (try simp only [List.length_map, List.length_append, List.length_cons, List.length_nil] at *) <;> (try unfold maxLen) <;> omega) ?_
                  try simp only [go_sem]
                  refine row_i (List.map (pD LabelNode.ds) v7010) (by rw [← hv7010b]; simp only [List.map_append, List.map_cons, List.map_nil, List.nil_append, List.append_nil, go_sem, pD, LabelNode.ds_eq]) ?_
                  try simp only [go_sem]
                  refine seq_go ?_
                  try simp only [go_sem]
                  have hj := posG_to rfl rfl (ih1 a0 a1 a2 v2006 v7008.2 v7010 (IntKind.i64.wrap (p1_2 + 1)) _ h)
                  refine lp_to hj (.one ⟨_, .done _, [(1000001000, 112160)], [(1, 1), (1000001500, 1000001500), (1000001501, 1000001501)], ?_⟩)
                  clear hj
                  try simp only [go_sem]
                · try simp only [go_sem]
                  refine call_g ⟨[], [], [(1, 1, 0)], [], [], true⟩ (by kernel_rfl) (ih0 _ _ _ _ hv7008) (by kernel_rfl) ?_
                  try simp only [go_sem]
                  try simp only [go_sem]
                  refine alt_i ?_ ?_
                  · try simp only [go_sem]
                    have hq_ := app_some hv7010
                    obtain ⟨hv7010a, hv7010b⟩ := hq_
                    refine zed_i true ?_
                    try simp only [go_sem]
                    refine and_i (by refine ⟨?_, ?_⟩ <;> (try simp only [List.length_map, List.length_append, List.length_cons, List.length_nil] at *) <;> (try unfold maxLen) <;> omega) ?_
                    try simp only [go_sem]
                    refine row_i (List.map (pD LabelNode.ds) v7010) (by rw [← hv7010b]; simp only [List.map_append, List.map_cons, List.map_nil, List.nil_append, List.append_nil, go_sem, pD, LabelNode.ds_eq]) ?_
                    try simp only [go_sem]
                    refine seq_go ?_
                    try simp only [go_sem]
                    have hj := posG_to rfl rfl (ih1 a0 a1 a2 v2006 v7008.2 v7010 (IntKind.i64.wrap (p1_2 + 1)) _ h)
                    refine lp_to hj (.one ⟨_, .done _, [(1000001000, 112160)], [(1, 1), (1000001500, 1000001500), (1000001501, 1000001501)], ?_⟩)
                    clear hj
                    try simp only [go_sem]
                  · try simp only [go_sem]
                    have hq_ := app_some hv7010
                    obtain ⟨hv7010a, hv7010b⟩ := hq_
                    refine zed_i true ?_
                    try simp only [go_sem]
                    refine and_i (by refine ⟨?_, ?_⟩ <;> (try simp only [List.length_map, List.length_append, List.length_cons, List.length_nil] at *) <;> (try unfold maxLen) <;> omega) ?_
                    try simp only [go_sem]
                    refine row_i (List.map (pD LabelNode.ds) v7010) (by rw [← hv7010b]; simp only [List.map_append, List.map_cons, List.map_nil, List.nil_append, List.append_nil, go_sem, pD, LabelNode.ds_eq]) ?_
                    try simp only [go_sem]
                    refine seq_go ?_
                    try simp only [go_sem]
                    have hj := posG_to rfl rfl (ih1 a0 a1 a2 v2006 v7008.2 v7010 (IntKind.i64.wrap (p1_2 + 1)) _ h)
                    refine lp_to hj (.one ⟨_, .done _, [(1000001000, 112160)], [(1, 1), (1000001500, 1000001500), (1000001501, 1000001501)], ?_⟩)
                    clear hj
                    try simp only [go_sem]
              · try simp only [go_sem]
                refine call_g ⟨[], [], [(1, 1, 0)], [], [], true⟩ (by kernel_rfl) (ih0 _ _ _ _ hv7008) (by kernel_rfl) ?_
                try simp only [go_sem]
                try simp only [go_sem]
                refine alt_i ?_ ?_
                · try simp only [go_sem]
                  try simp only [go_sem]
                  refine alt_i ?_ ?_
                  · try simp only [go_sem]
                    have hq_ := app_some hv7010
                    obtain ⟨hv7010a, hv7010b⟩ := hq_
                    refine zed_i true ?_
                    try simp only [go_sem]
                    refine and_i (by refine ⟨?_, ?_⟩ <;> (try simp only [List.length_map, List.length_append, List.length_cons, List.length_nil] at *) <;> (try unfold maxLen) <;> omega) ?_
                    try simp only [go_sem]
                    refine row_i (List.map (pD LabelNode.ds) v7010) (by rw [← hv7010b]; simp only [List.map_append, List.map_cons, List.map_nil, List.nil_append, List.append_nil, go_sem, pD, LabelNode.ds_eq]) ?_
                    try simp only [go_sem]
                    refine seq_go ?_
                    try simp only [go_sem]
                    have hj := posG_to rfl rfl (ih1 a0 a1 a2 v2006 v7008.2 v7010 (IntKind.i64.wrap (p1_2 + 1)) _ h)
                    refine lp_to hj (.one ⟨_, .done _, [(1000001000, 112160)], [(1, 1), (1000001500, 1000001500), (1000001501, 1000001501)], ?_⟩)
                    clear hj
                    try simp only [go_sem]
                  · try simp only [go_sem]
                    have hq_ := app_some hv7010
                    obtain ⟨hv7010a, hv7010b⟩ := hq_
                    refine zed_i true ?_
                    try simp only [go_sem]
                    refine and_i (by refine ⟨?_, ?_⟩ <;> (try simp only [List.length_map, List.length_append, List.length_cons, List.length_nil] at *) <;> (try unfold maxLen) <;> omega) ?_
                    try simp only [go_sem]
                    refine row_i (List.map (pD LabelNode.ds) v7010) (by rw [← hv7010b]; simp only [List.map_append, List.map_cons, List.map_nil, List.nil_append, List.append_nil, go_sem, pD, LabelNode.ds_eq]) ?_
                    try simp only [go_sem]
                    refine seq_go ?_
                    try simp only [go_sem]
                    have hj := posG_to rfl rfl (ih1 a0 a1 a2 v2006 v7008.2 v7010 (IntKind.i64.wrap (p1_2 + 1)) _ h)
                    refine lp_to hj (.one ⟨_, .done _, [(1000001000, 112160)], [(1, 1), (1000001500, 1000001500), (1000001501, 1000001501)], ?_⟩)
                    clear hj
                    try simp only [go_sem]
                · try simp only [go_sem]
                  have hq_ := app_some hv7010
                  obtain ⟨hv7010a, hv7010b⟩ := hq_
                  refine zed_i true ?_
                  try simp only [go_sem]
                  refine and_i (by refine ⟨?_, ?_⟩ <;> (try simp only [List.length_map, List.length_append, List.length_cons, List.length_nil] at *) <;> (try unfold maxLen) <;> omega) ?_
                  try simp only [go_sem]
                  refine row_i (List.map (pD LabelNode.ds) v7010) (by rw [← hv7010b]; simp only [List.map_append, List.map_cons, List.map_nil, List.nil_append, List.append_nil, go_sem, pD, LabelNode.ds_eq]) ?_
                  try simp only [go_sem]
                  refine seq_go ?_
                  try simp only [go_sem]
                  have hj := posG_to rfl rfl (ih1 a0 a1 a2 v2006 v7008.2 v7010 (IntKind.i64.wrap (p1_2 + 1)) _ h)
                  refine lp_to hj (.one ⟨_, .done _, [(1000001000, 112160)], [(1, 1), (1000001500, 1000001500), (1000001501, 1000001501)], ?_⟩)
                  clear hj
                  try simp only [go_sem]
          · try simp only [go_sem]
            try simp only [go_sem]
            refine alt_i ?_ ?_
            · try simp only [go_sem]
              try simp only [go_sem]
              refine alt_i ?_ ?_
              · try simp only [go_sem]
                refine call_g ⟨[], [], [(1, 1, 0)], [], [], true⟩ (by kernel_rfl) (ih0 _ _ _ _ hv7008) (by kernel_rfl) ?_
                try simp only [go_sem]
                have hq_ := app_some hv7010
                obtain ⟨hv7010a, hv7010b⟩ := hq_
                refine zed_i true ?_
                try simp only [go_sem]
                refine and_i (by refine ⟨?_, ?_⟩ <;> (try simp only [List.length_map, List.length_append, List.length_cons, List.length_nil] at *) <;> (try unfold maxLen) <;> omega) ?_
                try simp only [go_sem]
                refine row_i (List.map (pD LabelNode.ds) v7010) (by rw [← hv7010b]; simp only [List.map_append, List.map_cons, List.map_nil, List.nil_append, List.append_nil, go_sem, pD, LabelNode.ds_eq]) ?_
                try simp only [go_sem]
                refine seq_go ?_
                try simp only [go_sem]
                have hj := posG_to rfl rfl (ih1 a0 a1 a2 v2006 v7008.2 v7010 (IntKind.i64.wrap (p1_2 + 1)) _ h)
                refine lp_to hj (.one ⟨_, .done _, [(1000001000, 112160)], [(1, 1), (1000001500, 1000001500), (1000001501, 1000001501)], ?_⟩)
                clear hj
                try simp only [go_sem]
              · try simp only [go_sem]
                try simp only [go_sem]
                refine alt_i ?_ ?_
                · try simp only [go_sem]
                  refine call_g ⟨[], [], [(1, 1, 0)], [], [], true⟩ (by kernel_rfl) (ih0 _ _ _ _ hv7008) (by kernel_rfl) ?_
                  try simp only [go_sem]
                  have hq_ := app_some hv7010
                  obtain ⟨hv7010a, hv7010b⟩ := hq_
                  refine zed_i true ?_
                  try simp only [go_sem]
                  refine and_i (by refine ⟨?_, ?_⟩ <;> (try simp only [List.length_map, List.length_append, List.length_cons, List.length_nil] at *) <;> (try unfold maxLen) <;> omega) ?_
                  try simp only [go_sem]
                  refine row_i (List.map (pD LabelNode.ds) v7010) (by rw [← hv7010b]; simp only [List.map_append, List.map_cons, List.map_nil, List.nil_append, List.append_nil, go_sem, pD, LabelNode.ds_eq]) ?_
                  try simp only [go_sem]
                  refine seq_go ?_
                  try simp only [go_sem]
                  have hj := posG_to rfl rfl (ih1 a0 a1 a2 v2006 v7008.2 v7010 (IntKind.i64.wrap (p1_2 + 1)) _ h)
                  refine lp_to hj (.one ⟨_, .done _, [(1000001000, 112160)], [(1, 1), (1000001500, 1000001500), (1000001501, 1000001501)], ?_⟩)
                  clear hj
                  try simp only [go_sem]
                · try simp only [go_sem]
                  refine call_g ⟨[], [], [(1, 1, 0)], [], [], true⟩ (by kernel_rfl) (ih0 _ _ _ _ hv7008) (by kernel_rfl) ?_
                  try simp only [go_sem]
                  try simp only [go_sem]
                  refine alt_i ?_ ?_
                  · try simp only [go_sem]
                    have hq_ := app_some hv7010
                    obtain ⟨hv7010a, hv7010b⟩ := hq_
                    refine zed_i true ?_
                    try simp only [go_sem]
                    refine and_i (by refine ⟨?_, ?_⟩ <;> (try simp only [List.length_map, List.length_append, List.length_cons, List.length_nil] at *) <;> (try unfold maxLen) <;> omega) ?_
                    try simp only [go_sem]
                    refine row_i (List.map (pD LabelNode.ds) v7010) (by rw [← hv7010b]; simp only [List.map_append, List.map_cons, List.map_nil, List.nil_append, List.append_nil, go_sem, pD, LabelNode.ds_eq]) ?_
                    try simp only [go_sem]
                    refine seq_go ?_
                    try simp only [go_sem]
                    have hj := posG_to rfl rfl (ih1 a0 a1 a2 v2006 v7008.2 v7010 (IntKind.i64.wrap (p1_2 + 1)) _ h)
                    refine lp_to hj (.one ⟨_, .done _, [(1000001000, 112160)], [(1, 1), (1000001500, 1000001500), (1000001501, 1000001501)], ?_⟩)
                    clear hj
                    try simp only [go_sem]
                  · try simp only [go_sem]
                    have hq_ := app_some hv7010
                    obtain ⟨hv7010a, hv7010b⟩ := hq_
                    refine zed_i true ?_
                    try simp only [go_sem]
                    refine and_i (by refine ⟨?_, ?_⟩ <;> (try simp only [List.length_map, List.length_append, List.length_cons, List.length_nil] at *) <;> (try unfold maxLen) <;> omega) ?_
                    try simp only [go_sem]
                    refine row_i (List.map (pD LabelNode.ds) v7010) (by rw [← hv7010b]; simp only [List.map_append, List.map_cons, List.map_nil, List.nil_append, List.append_nil, go_sem, pD, LabelNode.ds_eq]) ?_
                    try simp only [go_sem]
                    refine seq_go ?_
                    try simp only [go_sem]
                    have hj := posG_to rfl rfl (ih1 a0 a1 a2 v2006 v7008.2 v7010 (IntKind.i64.wrap (p1_2 + 1)) _ h)
                    refine lp_to hj (.one ⟨_, .done _, [(1000001000, 112160)], [(1, 1), (1000001500, 1000001500), (1000001501, 1000001501)], ?_⟩)
                    clear hj
                    try simp only [go_sem]
            · try simp only [go_sem]
              try simp only [go_sem]
              refine alt_i ?_ ?_
              · try simp only [go_sem]
                try simp only [go_sem]
                refine alt_i ?_ ?_
                · try simp only [go_sem]
                  refine call_g ⟨[], [], [(1, 1, 0)], [], [], true⟩ (by kernel_rfl) (ih0 _ _ _ _ hv7008) (by kernel_rfl) ?_
                  try simp only [go_sem]
                  have hq_ := app_some hv7010
                  obtain ⟨hv7010a, hv7010b⟩ := hq_
                  refine zed_i true ?_
                  try simp only [go_sem]
                  refine and_i (by refine ⟨?_, ?_⟩ <;> (try simp only [List.length_map, List.length_append, List.length_cons, List.length_nil] at *) <;> (try unfold maxLen) <;> omega) ?_
                  try simp only [go_sem]
                  refine row_i (List.map (pD LabelNode.ds) v7010) (by rw [← hv7010b]; simp only [List.map_append, List.map_cons, List.map_nil, List.nil_append, List.append_nil, go_sem, pD, LabelNode.ds_eq]) ?_
                  try simp only [go_sem]
                  refine seq_go ?_
                  try simp only [go_sem]
                  have hj := posG_to rfl rfl (ih1 a0 a1 a2 v2006 v7008.2 v7010 (IntKind.i64.wrap (p1_2 + 1)) _ h)
                  refine lp_to hj (.one ⟨_, .done _, [(1000001000, 112160)], [(1, 1), (1000001500, 1000001500), (1000001501, 1000001501)], ?_⟩)
                  clear hj
                  try simp only [go_sem]
                · try simp only [go_sem]
                  refine call_g ⟨[], [], [(1, 1, 0)], [], [], true⟩ (by kernel_rfl) (ih0 _ _ _ _ hv7008) (by kernel_rfl) ?_
                  try simp only [go_sem]
                  try simp only [go_sem]
                  refine alt_i ?_ ?_
                  · try simp only [go_sem]
                    have hq_ := app_some hv7010
                    obtain ⟨hv7010a, hv7010b⟩ := hq_
                    refine zed_i true ?_
                    try simp only [go_sem]
                    refine and_i (by refine ⟨?_, ?_⟩ <;> (try simp only [List.length_map, List.length_append, List.length_cons, List.length_nil] at *) <;> (try unfold maxLen) <;> omega) ?_
                    try simp only [go_sem]
                    refine row_i (List.map (pD LabelNode.ds) v7010) (by rw [← hv7010b]; simp only [List.map_append, List.map_cons, List.map_nil, List.nil_append, List.append_nil, go_sem, pD, LabelNode.ds_eq]) ?_
                    try simp only [go_sem]
                    refine seq_go ?_
                    try simp only [go_sem]
                    have hj := posG_to rfl rfl (ih1 a0 a1 a2 v2006 v7008.2 v7010 (IntKind.i64.wrap (p1_2 + 1)) _ h)
                    refine lp_to hj (.one ⟨_, .done _, [(1000001000, 112160)], [(1, 1), (1000001500, 1000001500), (1000001501, 1000001501)], ?_⟩)
                    clear hj
                    try simp only [go_sem]
                  · try simp only [go_sem]
                    have hq_ := app_some hv7010
                    obtain ⟨hv7010a, hv7010b⟩ := hq_
                    refine zed_i true ?_
                    try simp only [go_sem]
                    refine and_i (by refine ⟨?_, ?_⟩ <;> (try simp only [List.length_map, List.length_append, List.length_cons, List.length_nil] at *) <;> (try unfold maxLen) <;> omega) ?_
                    try simp only [go_sem]
                    refine row_i (List.map (pD LabelNode.ds) v7010) (by rw [← hv7010b]; simp only [List.map_append, List.map_cons, List.map_nil, List.nil_append, List.append_nil, go_sem, pD, LabelNode.ds_eq]) ?_
                    try simp only [go_sem]
                    refine seq_go ?_
                    try simp only [go_sem]
                    have hj := posG_to rfl rfl (ih1 a0 a1 a2 v2006 v7008.2 v7010 (IntKind.i64.wrap (p1_2 + 1)) _ h)
                    refine lp_to hj (.one ⟨_, .done _, [(1000001000, 112160)], [(1, 1), (1000001500, 1000001500), (1000001501, 1000001501)], ?_⟩)
                    clear hj
                    try simp only [go_sem]
              · try simp only [go_sem]
                refine call_g ⟨[], [], [(1, 1, 0)], [], [], true⟩ (by kernel_rfl) (ih0 _ _ _ _ hv7008) (by kernel_rfl) ?_
                try simp only [go_sem]
                try simp only [go_sem]
                refine alt_i ?_ ?_
                · try simp only [go_sem]
                  try simp only [go_sem]
                  refine alt_i ?_ ?_
                  · try simp only [go_sem]
                    have hq_ := app_some hv7010
                    obtain ⟨hv7010a, hv7010b⟩ := hq_
                    refine zed_i true ?_
                    try simp only [go_sem]
                    refine and_i (by refine ⟨?_, ?_⟩ <;> (try simp only [List.length_map, List.length_append, List.length_cons, List.length_nil] at *) <;> (try unfold maxLen) <;> omega) ?_
                    try simp only [go_sem]
                    refine row_i (List.map (pD LabelNode.ds) v7010) (by rw [← hv7010b]; simp only [List.map_append, List.map_cons, List.map_nil, List.nil_append, List.append_nil, go_sem, pD, LabelNode.ds_eq]) ?_
                    try simp only [go_sem]
                    refine seq_go ?_
                    try simp only [go_sem]
                    have hj := posG_to rfl rfl (ih1 a0 a1 a2 v2006 v7008.2 v7010 (IntKind.i64.wrap (p1_2 + 1)) _ h)
                    refine lp_to hj (.one ⟨_, .done _, [(1000001000, 112160)], [(1, 1), (1000001500, 1000001500), (1000001501, 1000001501)], ?_⟩)
                    clear hj
                    try simp only [go_sem]
                  · try simp only [go_sem]
                    have hq_ := app_some hv7010
                    obtain ⟨hv7010a, hv7010b⟩ := hq_
                    refine zed_i true ?_
                    try simp only [go_sem]
                    refine and_i (by refine ⟨?_, ?_⟩ <;> (try simp only [List.length_map, List.length_append, List.length_cons, List.length_nil] at *) <;> (try unfold maxLen) <;> omega) ?_
                    try simp only [go_sem]
                    refine row_i (List.map (pD LabelNode.ds) v7010) (by rw [← hv7010b]; simp only [List.map_append, List.map_cons, List.map_nil, List.nil_append, List.append_nil, go_sem, pD, LabelNode.ds_eq]) ?_
                    try simp only [go_sem]
                    refine seq_go ?_
                    try simp only [go_sem]
                    have hj := posG_to rfl rfl (ih1 a0 a1 a2 v2006 v7008.2 v7010 (IntKind.i64.wrap (p1_2 + 1)) _ h)
                    refine lp_to hj (.one ⟨_, .done _, [(1000001000, 112160)], [(1, 1), (1000001500, 1000001500), (1000001501, 1000001501)], ?_⟩)
                    clear hj
                    try simp only [go_sem]
                · try simp only [go_sem]
                  have hq_ := app_some hv7010
                  obtain ⟨hv7010a, hv7010b⟩ := hq_
                  refine zed_i true ?_
                  try simp only [go_sem]
                  refine and_i (by refine ⟨?_, ?_⟩ <;> (try simp only [List.length_map, List.length_append, List.length_cons, List.length_nil] at *) <;> (try unfold maxLen) <;> omega) ?_
                  try simp only [go_sem]
                  refine row_i (List.map (pD LabelNode.ds) v7010) (by rw [← hv7010b]; simp only [List.map_append, List.map_cons, List.map_nil, List.nil_append, List.append_nil, go_sem, pD, LabelNode.ds_eq]) ?_
                  try simp only [go_sem]
                  refine seq_go ?_
                  try simp only [go_sem]
                  have hj := posG_to rfl rfl (ih1 a0 a1 a2 v2006 v7008.2 v7010 (IntKind.i64.wrap (p1_2 + 1)) _ h)
                  refine lp_to hj (.one ⟨_, .done _, [(1000001000, 112160)], [(1, 1), (1000001500, 1000001500), (1000001501, 1000001501)], ?_⟩)
                  clear hj
                  try simp only [go_sem]
      · replace h := ifF (c := (decide (p1_2 < ((List.length a1.kids : Nat) : Int)))) hb1 h
        try simp only [go_sem]
        refine seq_go ?_
        try simp only [go_sem]
        replace h := Option.some.inj h
        obtain rfl := h
        refine ret_i (.frzT 1000001000 [] [(1000001501, 6)] _ _ _ (by (first | rfl | (simp only [go_sem]; rfl))) (by decide) (by (first | rfl | (simp only [go_sem]; rfl))) (by (first | rfl | (simp only [go_sem]; rfl))) (.frzB 1000001501 [(0, [])] [] _ _ _ (by (first | rfl | (simp only [go_sem]; rfl))) (by decide) (by rfl) (by (first | rfl | (simp only [go_sem]; rfl))) (by (first | rfl | (simp only [go_sem]; rfl))) (.done _))) [] [(1, 1)] ?_
        simp only [go_sem]
        all_goals try rfl
theorem i_Labelled_tree_ok (n : Nat) : (∀ (a0 : Labelled) (a1 : Core) (a2 : Int) (r : LabelNode × Int), i_Labelled_tree n a0 a1 a2 = some r → AG Try.prog 51 [.agg [.int .i64 a0.term.kind, .int .i64 a0.term.value, .ro (List.map i64D a0.term.data), .ro (List.map Core.ds a0.term.kids), .ro (List.map strD a0.labels)], .agg [.int .i64 a1.kind, .int .i64 a1.value, .ro (List.map i64D a1.data), .ro (List.map Core.ds a1.kids)], .box 1 0] [] [(1, [.int .i64 a2])] (.rop [.int .i64 r.1.core.kind, .int .i64 r.1.core.value, .ro (List.map i64D r.1.core.data), .ro (List.map Core.ds r.1.core.kids), .str r.1.label, .int .i64 r.1.att, .ro (List.map (pD LabelNode.ds) r.1.kids)] 0) [] [(1, [.int .i64 r.2])]) := (i_Labelled_tree_all n).1
theorem i_Labelled_tree_l2_ok (n : Nat) : (∀ (a0 : Labelled) (a1 : Core) (a2 : Int) (v2006 : ByteArray) (p1_0 : Int) (p1_1 : List LabelNode) (p1_2 : Int) (r : LabelNode × Int), i_Labelled_tree_l2 n a0 a1 a2 v2006 p1_0 p1_1 p1_2 = some r → posG Try.prog Try.f51 [1, 1, 1, 0, 1, 0] (.rop [.int .i64 r.1.core.kind, .int .i64 r.1.core.value, .ro (List.map i64D r.1.core.data), .ro (List.map Core.ds r.1.core.kids), .str r.1.label, .int .i64 r.1.att, .ro (List.map (pD LabelNode.ds) r.1.kids)] 0) [] [(1, [.int .i64 r.2])] ⟨[(2, .box 1 0), (3, .box 1000001500 0), (7, .box 1000001501 0), (29, .ro (List.map Core.ds a1.kids)), (30, .int .i64 ((List.length a1.kids : Nat) : Int)), (31, .int .i64 p1_2)], [(1000001000, some ⟨List.map (pD LabelNode.ds) p1_1, some 1, 0, true⟩)], [(1, some [.int .i64 p1_0]), (1000001500, some [.int .i64 a0.term.kind, .int .i64 a0.term.value, .ro (List.map i64D a0.term.data), .ro (List.map Core.ds a0.term.kids), .ro (List.map strD a0.labels)]), (1000001501, some [.int .i64 a1.kind, .int .i64 a1.value, .ro (List.map i64D a1.data), .ro (List.map Core.ds a1.kids), .str v2006, .int .i64 a2, .own 1000001000])]⟩) := (i_Labelled_tree_all n).2

theorem i_Labelled_root_ok (a0 : Labelled) (r : LabelNode) (h : i_Labelled_root a0 = some r) : AG Try.prog 26 [.agg [.int .i64 a0.term.kind, .int .i64 a0.term.value, .ro (List.map i64D a0.term.data), .ro (List.map Core.ds a0.term.kids), .ro (List.map strD a0.labels)]] [] [] (.rop [.int .i64 r.core.kind, .int .i64 r.core.value, .ro (List.map i64D r.core.data), .ro (List.map Core.ds r.core.kids), .str r.label, .int .i64 r.att, .ro (List.map (pD LabelNode.ds) r.kids)] 0) [] [] := by
  unfold i_Labelled_root at h
  refine ag_fn mixed Try.func26 rfl rfl rfl (by kernel_rfl) (by kernel_rfl) ?_
  try simp only [go_sem]
  refine seq_go ?_
  try simp only [go_sem]
  replace h := bindE h
  obtain ⟨v3003, hv3003, h⟩ := h
  refine call_g ⟨[], [], [(1, 2000, 0)], [], [], true⟩ (by kernel_rfl) (i_Labelled_tree_ok fuel _ _ _ _ hv3003) (by kernel_rfl) ?_
  try simp only [go_sem]
  refine seq_go ?_
  try simp only [go_sem]
  replace h := Option.some.inj h
  obtain rfl := h
  refine ret_i (.done _) [] [] ?_
  simp only [go_sem]
end Go.Proofs.Ytgigfdghecdlgaa.Ab
