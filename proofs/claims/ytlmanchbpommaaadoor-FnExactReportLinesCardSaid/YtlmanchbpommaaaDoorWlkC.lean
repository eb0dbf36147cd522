/-
  The functions do what their models say. Printed by wip/ab/gen.py.
-/
import Derived.Test.YtlmanchbpommaaaDoorWlkCA
namespace Go.Proofs.YtlmanchbpommaaaDoor.Ab
set_option linter.unusedVariables false
set_option linter.unusedSimpArgs false
set_option maxRecDepth 20000
set_option maxHeartbeats 100000000
open Go.RowKit
theorem s_l06Text_all (n : Nat) : (∀ (a0 : Core) (r : ByteArray), s_l06Text n a0 = some r → AC Tryd.prog 37 [.rop (Core.avs a0) 0] (.str r)) ∧
    (∀ (a0 : Core) (p0_0 : ByteArray) (p0_1 : Int) (r : ByteArray), s_l06Text_l1 n a0 p0_0 p0_1 = some r → posF Tryd.prog Tryd.f37 [1, 1, 1, 0, 1, 0] (.str r) ⟨[(0, .rop [.int .i64 a0.kind, .int .i64 a0.value, .ro (List.map i64D a0.data), .ro (List.map Core.ds a0.kids)] 0), (3, .str p0_0), (4, .int .i64 p0_1)], [], []⟩) := by
  induction n with
  | zero => exact ⟨(fun _ _ h => by rw [s_l06Text] at h; cases h), (fun _ _ _ _ h => by rw [s_l06Text_l1] at h; cases h)⟩
  | succ n ih =>
    obtain ⟨ih0, ih1⟩ := ih
    refine ⟨?_, ?_⟩
    · intro a0 r h
      rw [s_l06Text] at h
      refine ac_fn mixed Tryd.func37 rfl rfl rfl (by kernel_rfl) (by kernel_rfl) ?_
      try simp only [go_sem]
      refine cond_i (fun hb1 => ?_) (fun hb1 => ?_)
      · replace h := ifT (c := (decide (a0.kind = 1))) hb1 h
        try simp only [go_sem]
        replace h := bindE h
        obtain ⟨v4004, hv4004, h⟩ := h
        refine call_i (s_Decimal_ok _ _ hv4004) ?_
        try simp only [go_sem]
        replace h := bindE h
        obtain ⟨v4005, hv4005, h⟩ := h
        have hq_ := sapp_some hv4005
        obtain ⟨hv4005a, hv4005b⟩ := hq_
        refine and_i hv4005a ?_
        rw [hv4005b]
        try simp only [go_sem]
        replace h := Option.some.inj h
        obtain rfl := h
        simp only [go_sem]
      · replace h := ifF (c := (decide (a0.kind = 1))) hb1 h
        try simp only [go_sem]
        refine cond_i (fun hb2 => ?_) (fun hb2 => ?_)
        · replace h := ifT (c := (decide (a0.kind = 2))) hb2 h
          try simp only [go_sem]
          replace h := bindE h
          obtain ⟨v6004, hv6004, h⟩ := h
          refine call_i (s_Decimal_ok _ _ hv6004) ?_
          try simp only [go_sem]
          replace h := Option.some.inj h
          obtain rfl := h
          simp only [go_sem]
        · replace h := ifF (c := (decide (a0.kind = 2))) hb2 h
          try simp only [go_sem]
          refine cond_i (fun hb3 => ?_) (fun hb3 => ?_)
          · replace h := ifT (c := (decide (a0.kind = 3))) hb3 h
            try simp only [go_sem]
            refine draw_i [] .fin (by kernel_rfl) ?_
            try simp only [go_sem]
            replace h := bindE h
            obtain ⟨v8004, hv8004, h⟩ := h
            refine idx_m hv8004 (Core.ds_len _) ?_
            try simp only [go_sem]
            replace h := bindE h
            obtain ⟨v8005, hv8005, h⟩ := h
            refine call_i (ih0 _ _ hv8005) ?_
            try simp only [go_sem]
            replace h := bindE h
            obtain ⟨v8006, hv8006, h⟩ := h
            have hq_ := sapp_some hv8006
            obtain ⟨hv8006a, hv8006b⟩ := hq_
            refine and_i hv8006a ?_
            rw [hv8006b]
            try simp only [go_sem]
            replace h := bindE h
            obtain ⟨v8007, hv8007, h⟩ := h
            have hq_ := sapp_some hv8007
            obtain ⟨hv8007a, hv8007b⟩ := hq_
            refine and_i hv8007a ?_
            rw [hv8007b]
            try simp only [go_sem]
            replace h := bindE h
            obtain ⟨v8012, hv8012, h⟩ := h
            refine call_i (s_OperatorText_ok _ _ hv8012) ?_
            try simp only [go_sem]
            replace h := bindE h
            obtain ⟨v8013, hv8013, h⟩ := h
            have hq_ := sapp_some hv8013
            obtain ⟨hv8013a, hv8013b⟩ := hq_
            refine and_i hv8013a ?_
            rw [hv8013b]
            try simp only [go_sem]
            replace h := bindE h
            obtain ⟨v8014, hv8014, h⟩ := h
            have hq_ := sapp_some hv8014
            obtain ⟨hv8014a, hv8014b⟩ := hq_
            refine and_i hv8014a ?_
            rw [hv8014b]
            try simp only [go_sem]
            replace h := bindE h
            obtain ⟨v8019, hv8019, h⟩ := h
            refine idx_m hv8019 (Core.ds_len _) ?_
            try simp only [go_sem]
            replace h := bindE h
            obtain ⟨v8020, hv8020, h⟩ := h
            refine call_i (ih0 _ _ hv8020) ?_
            try simp only [go_sem]
            replace h := bindE h
            obtain ⟨v8021, hv8021, h⟩ := h
            have hq_ := sapp_some hv8021
            obtain ⟨hv8021a, hv8021b⟩ := hq_
            refine and_i hv8021a ?_
            rw [hv8021b]
            try simp only [go_sem]
            replace h := bindE h
            obtain ⟨v8022, hv8022, h⟩ := h
            have hq_ := sapp_some hv8022
            obtain ⟨hv8022a, hv8022b⟩ := hq_
            refine and_i hv8022a ?_
            rw [hv8022b]
            try simp only [go_sem]
            refine seq_go ?_
            try simp only [go_sem]
            replace h := Option.some.inj h
            obtain rfl := h
            simp only [go_sem]
          · replace h := ifF (c := (decide (a0.kind = 3))) hb3 h
            try simp only [go_sem]
            refine cond_i (fun hb4 => ?_) (fun hb4 => ?_)
            · replace h := ifT (c := (decide (a0.kind = 4))) hb4 h
              try simp only [go_sem]
              replace h := bindE h
              obtain ⟨v10004, hv10004, h⟩ := h
              refine idx_m hv10004 (Core.ds_len _) ?_
              try simp only [go_sem]
              replace h := bindE h
              obtain ⟨v10005, hv10005, h⟩ := h
              refine call_i (ih0 _ _ hv10005) ?_
              try simp only [go_sem]
              replace h := bindE h
              obtain ⟨v10006, hv10006, h⟩ := h
              have hq_ := sapp_some hv10006
              obtain ⟨hv10006a, hv10006b⟩ := hq_
              refine and_i hv10006a ?_
              rw [hv10006b]
              try simp only [go_sem]
              replace h := Option.some.inj h
              obtain rfl := h
              simp only [go_sem]
            · replace h := ifF (c := (decide (a0.kind = 4))) hb4 h
              try simp only [go_sem]
              refine cond_i (fun hb5 => ?_) (fun hb5 => ?_)
              · replace h := ifT (c := (decide (a0.kind = 5))) hb5 h
                try simp only [go_sem]
                refine draw_i [] .fin (by kernel_rfl) ?_
                try simp only [go_sem]
                replace h := bindE h
                obtain ⟨v12004, hv12004, h⟩ := h
                refine idx_m hv12004 (Core.ds_len _) ?_
                try simp only [go_sem]
                replace h := bindE h
                obtain ⟨v12005, hv12005, h⟩ := h
                refine call_i (ih0 _ _ hv12005) ?_
                try simp only [go_sem]
                replace h := bindE h
                obtain ⟨v12006, hv12006, h⟩ := h
                have hq_ := sapp_some hv12006
                obtain ⟨hv12006a, hv12006b⟩ := hq_
                refine and_i hv12006a ?_
                rw [hv12006b]
                try simp only [go_sem]
                replace h := bindE h
                obtain ⟨v12007, hv12007, h⟩ := h
                have hq_ := sapp_some hv12007
                obtain ⟨hv12007a, hv12007b⟩ := hq_
                refine and_i hv12007a ?_
                rw [hv12007b]
                try simp only [go_sem]
                replace h := bindE h
                obtain ⟨v12012, hv12012, h⟩ := h
                refine idx_m hv12012 (Core.ds_len _) ?_
                try simp only [go_sem]
                replace h := bindE h
                obtain ⟨v12013, hv12013, h⟩ := h
                refine call_i (ih0 _ _ hv12013) ?_
                try simp only [go_sem]
                replace h := bindE h
                obtain ⟨v12014, hv12014, h⟩ := h
                have hq_ := sapp_some hv12014
                obtain ⟨hv12014a, hv12014b⟩ := hq_
                refine and_i hv12014a ?_
                rw [hv12014b]
                try simp only [go_sem]
                replace h := bindE h
                obtain ⟨v12015, hv12015, h⟩ := h
                have hq_ := sapp_some hv12015
                obtain ⟨hv12015a, hv12015b⟩ := hq_
                refine and_i hv12015a ?_
                rw [hv12015b]
                try simp only [go_sem]
                refine seq_go ?_
                try simp only [go_sem]
                replace h := Option.some.inj h
                obtain rfl := h
                simp only [go_sem]
              · replace h := ifF (c := (decide (a0.kind = 5))) hb5 h
                try simp only [go_sem]
                refine cond_i (fun hb6 => ?_) (fun hb6 => ?_)
                · replace h := ifT (c := (decide (a0.kind = 6))) hb6 h
                  try simp only [go_sem]
                  replace h := bindE h
                  obtain ⟨v14004, hv14004, h⟩ := h
                  refine idx_m hv14004 (Core.ds_len _) ?_
                  try simp only [go_sem]
                  replace h := bindE h
                  obtain ⟨v14005, hv14005, h⟩ := h
                  refine call_i (ih0 _ _ hv14005) ?_
                  try simp only [go_sem]
                  replace h := bindE h
                  obtain ⟨v14006, hv14006, h⟩ := h
                  have hq_ := sapp_some hv14006
                  obtain ⟨hv14006a, hv14006b⟩ := hq_
                  refine and_i hv14006a ?_
                  rw [hv14006b]
                  try simp only [go_sem]
                  replace h := Option.some.inj h
                  obtain rfl := h
                  simp only [go_sem]
                · replace h := ifF (c := (decide (a0.kind = 6))) hb6 h
                  try simp only [go_sem]
                  refine cond_i (fun hb7 => ?_) (fun hb7 => ?_)
                  · replace h := ifT (c := (decide (a0.kind = 7))) hb7 h
                    try simp only [go_sem]
                    refine draw_i [] .fin (by kernel_rfl) ?_
                    try simp only [go_sem]
                    replace h := bindE h
                    obtain ⟨v16004, hv16004, h⟩ := h
                    refine idx_m hv16004 (Core.ds_len _) ?_
                    try simp only [go_sem]
                    replace h := bindE h
                    obtain ⟨v16005, hv16005, h⟩ := h
                    refine call_i (ih0 _ _ hv16005) ?_
                    try simp only [go_sem]
                    replace h := bindE h
                    obtain ⟨v16006, hv16006, h⟩ := h
                    have hq_ := sapp_some hv16006
                    obtain ⟨hv16006a, hv16006b⟩ := hq_
                    refine and_i hv16006a ?_
                    rw [hv16006b]
                    try simp only [go_sem]
                    replace h := bindE h
                    obtain ⟨v16007, hv16007, h⟩ := h
                    have hq_ := sapp_some hv16007
                    obtain ⟨hv16007a, hv16007b⟩ := hq_
                    refine and_i hv16007a ?_
                    rw [hv16007b]
                    try simp only [go_sem]
                    replace h := bindE h
                    obtain ⟨v16012, hv16012, h⟩ := h
                    refine idx_m hv16012 (Core.ds_len _) ?_
                    try simp only [go_sem]
                    replace h := bindE h
                    obtain ⟨v16013, hv16013, h⟩ := h
                    refine call_i (ih0 _ _ hv16013) ?_
                    try simp only [go_sem]
                    replace h := bindE h
                    obtain ⟨v16014, hv16014, h⟩ := h
                    have hq_ := sapp_some hv16014
                    obtain ⟨hv16014a, hv16014b⟩ := hq_
                    refine and_i hv16014a ?_
                    rw [hv16014b]
                    try simp only [go_sem]
                    replace h := bindE h
                    obtain ⟨v16015, hv16015, h⟩ := h
                    have hq_ := sapp_some hv16015
                    obtain ⟨hv16015a, hv16015b⟩ := hq_
                    refine and_i hv16015a ?_
                    rw [hv16015b]
                    try simp only [go_sem]
                    refine seq_go ?_
                    try simp only [go_sem]
                    replace h := Option.some.inj h
                    obtain rfl := h
                    simp only [go_sem]
                  · replace h := ifF (c := (decide (a0.kind = 7))) hb7 h
                    try simp only [go_sem]
                    refine cond_i (fun hb8 => ?_) (fun hb8 => ?_)
                    · replace h := ifT (c := (decide (a0.kind = 9))) hb8 h
                      try simp only [go_sem]
                      refine draw_i [] .fin (by kernel_rfl) ?_
                      try simp only [go_sem]
                      replace h := bindE h
                      obtain ⟨v18004, hv18004, h⟩ := h
                      refine call_i (s_l06List_ok _ _ hv18004) ?_
                      try simp only [go_sem]
                      replace h := bindE h
                      obtain ⟨v18005, hv18005, h⟩ := h
                      have hq_ := sapp_some hv18005
                      obtain ⟨hv18005a, hv18005b⟩ := hq_
                      refine and_i hv18005a ?_
                      rw [hv18005b]
                      try simp only [go_sem]
                      replace h := bindE h
                      obtain ⟨v18006, hv18006, h⟩ := h
                      have hq_ := sapp_some hv18006
                      obtain ⟨hv18006a, hv18006b⟩ := hq_
                      refine and_i hv18006a ?_
                      rw [hv18006b]
                      try simp only [go_sem]
                      replace h := bindE h
                      obtain ⟨v18011, hv18011, h⟩ := h
                      refine idx_m hv18011 (Core.ds_len _) ?_
                      try simp only [go_sem]
                      replace h := bindE h
                      obtain ⟨v18012, hv18012, h⟩ := h
                      refine call_i (ih0 _ _ hv18012) ?_
                      try simp only [go_sem]
                      replace h := bindE h
                      obtain ⟨v18013, hv18013, h⟩ := h
                      have hq_ := sapp_some hv18013
                      obtain ⟨hv18013a, hv18013b⟩ := hq_
                      refine and_i hv18013a ?_
                      rw [hv18013b]
                      try simp only [go_sem]
                      replace h := bindE h
                      obtain ⟨v18014, hv18014, h⟩ := h
                      have hq_ := sapp_some hv18014
                      obtain ⟨hv18014a, hv18014b⟩ := hq_
                      refine and_i hv18014a ?_
                      rw [hv18014b]
                      try simp only [go_sem]
                      refine seq_go ?_
                      try simp only [go_sem]
                      replace h := Option.some.inj h
                      obtain rfl := h
                      simp only [go_sem]
                    · replace h := ifF (c := (decide (a0.kind = 9))) hb8 h
                      try simp only [go_sem]
                      refine cond_i (fun hb9 => ?_) (fun hb9 => ?_)
                      · replace h := ifT (c := (decide (a0.kind = 10))) hb9 h
                        try simp only [go_sem]
                        refine draw_i [] .fin (by kernel_rfl) ?_
                        try simp only [go_sem]
                        replace h := bindE h
                        obtain ⟨v20004, hv20004, h⟩ := h
                        refine call_i (s_l06List_ok _ _ hv20004) ?_
                        try simp only [go_sem]
                        replace h := bindE h
                        obtain ⟨v20005, hv20005, h⟩ := h
                        have hq_ := sapp_some hv20005
                        obtain ⟨hv20005a, hv20005b⟩ := hq_
                        refine and_i hv20005a ?_
                        rw [hv20005b]
                        try simp only [go_sem]
                        replace h := bindE h
                        obtain ⟨v20006, hv20006, h⟩ := h
                        have hq_ := sapp_some hv20006
                        obtain ⟨hv20006a, hv20006b⟩ := hq_
                        refine and_i hv20006a ?_
                        rw [hv20006b]
                        try simp only [go_sem]
                        replace h := bindE h
                        obtain ⟨v20011, hv20011, h⟩ := h
                        refine idx_m hv20011 (Core.ds_len _) ?_
                        try simp only [go_sem]
                        replace h := bindE h
                        obtain ⟨v20012, hv20012, h⟩ := h
                        refine call_i (ih0 _ _ hv20012) ?_
                        try simp only [go_sem]
                        replace h := bindE h
                        obtain ⟨v20013, hv20013, h⟩ := h
                        have hq_ := sapp_some hv20013
                        obtain ⟨hv20013a, hv20013b⟩ := hq_
                        refine and_i hv20013a ?_
                        rw [hv20013b]
                        try simp only [go_sem]
                        replace h := bindE h
                        obtain ⟨v20014, hv20014, h⟩ := h
                        have hq_ := sapp_some hv20014
                        obtain ⟨hv20014a, hv20014b⟩ := hq_
                        refine and_i hv20014a ?_
                        rw [hv20014b]
                        try simp only [go_sem]
                        refine seq_go ?_
                        try simp only [go_sem]
                        replace h := Option.some.inj h
                        obtain rfl := h
                        simp only [go_sem]
                      · replace h := ifF (c := (decide (a0.kind = 10))) hb9 h
                        try simp only [go_sem]
                        refine cond_i (fun hb10 => ?_) (fun hb10 => ?_)
                        · replace h := ifT (c := (decide (a0.kind = 11))) hb10 h
                          try simp only [go_sem]
                          replace h := bindE h
                          obtain ⟨v22004, hv22004, h⟩ := h
                          refine call_i (s_Decimal_ok _ _ hv22004) ?_
                          try simp only [go_sem]
                          replace h := bindE h
                          obtain ⟨v22005, hv22005, h⟩ := h
                          have hq_ := sapp_some hv22005
                          obtain ⟨hv22005a, hv22005b⟩ := hq_
                          refine and_i hv22005a ?_
                          rw [hv22005b]
                          try simp only [go_sem]
                          replace h := Option.some.inj h
                          obtain rfl := h
                          simp only [go_sem]
                        · replace h := ifF (c := (decide (a0.kind = 11))) hb10 h
                          try simp only [go_sem]
                          refine seq_go ?_
                          try simp only [go_sem]
                          replace h := bindE h
                          obtain ⟨v23004, hv23004, h⟩ := h
                          refine call_i (s_Decimal_ok _ _ hv23004) ?_
                          try simp only [go_sem]
                          replace h := bindE h
                          obtain ⟨v23005, hv23005, h⟩ := h
                          have hq_ := sapp_some hv23005
                          obtain ⟨hv23005a, hv23005b⟩ := hq_
                          refine and_i hv23005a ?_
                          rw [hv23005b]
                          try simp only [go_sem]
                          have hj := posF_to rfl rfl (ih1 a0 v23005 0 _ h)
                          refine loop_to hj (.one ⟨_, .done _, [], [], ?_⟩)
                          clear hj
                          try simp only [go_sem]
    · intro a0 p0_0 p0_1 r h
      rw [s_l06Text_l1] at h
      refine posF_of rfl rfl ?_
      try simp only [go_sem]
      refine loop_i ?_
      try simp only [go_sem]
      refine cond_i (fun hb11 => ?_) (fun hb11 => ?_)
      · replace h := ifT (c := (decide (p0_1 < ((List.length a0.kids : Nat) : Int)))) hb11 h
        try simp only [go_sem]
        refine seq_go ?_
        try simp only [go_sem]
        replace h := bindE h
        obtain ⟨v27006, hv27006, h⟩ := h
        refine idx_m hv27006 (Core.ds_len _) ?_
        try simp only [go_sem]
        replace h := bindE h
        obtain ⟨v27007, hv27007, h⟩ := h
        refine call_i (ih0 _ _ hv27007) ?_
        try simp only [go_sem]
        replace h := bindE h
        obtain ⟨v27008, hv27008, h⟩ := h
        have hq_ := sapp_some hv27008
        obtain ⟨hv27008a, hv27008b⟩ := hq_
        refine and_i hv27008a ?_
        rw [hv27008b]
        try simp only [go_sem]
        replace h := bindE h
        obtain ⟨v27009, hv27009, h⟩ := h
        have hq_ := sapp_some hv27009
        obtain ⟨hv27009a, hv27009b⟩ := hq_
        refine and_i hv27009a ?_
        rw [hv27009b]
        try simp only [go_sem]
        refine seq_go ?_
        try simp only [go_sem]
        have hj := posF_to rfl rfl (ih1 a0 v27009 (IntKind.i64.wrap (p0_1 + 1)) _ h)
        refine lp_to hj (.one ⟨_, .done _, [], [], ?_⟩)
        clear hj
        try simp only [go_sem]
      · replace h := ifF (c := (decide (p0_1 < ((List.length a0.kids : Nat) : Int)))) hb11 h
        try simp only [go_sem]
        refine seq_go ?_
        try simp only [go_sem]
        replace h := bindE h
        obtain ⟨v28001, hv28001, h⟩ := h
        have hq_ := sapp_some hv28001
        obtain ⟨hv28001a, hv28001b⟩ := hq_
        refine and_i hv28001a ?_
        rw [hv28001b]
        try simp only [go_sem]
        replace h := Option.some.inj h
        obtain rfl := h
        simp only [go_sem]
theorem s_l06Text_ok (n : Nat) : (∀ (a0 : Core) (r : ByteArray), s_l06Text n a0 = some r → AC Tryd.prog 37 [.rop (Core.avs a0) 0] (.str r)) := (s_l06Text_all n).1
theorem s_l06Text_l1_ok (n : Nat) : (∀ (a0 : Core) (p0_0 : ByteArray) (p0_1 : Int) (r : ByteArray), s_l06Text_l1 n a0 p0_0 p0_1 = some r → posF Tryd.prog Tryd.f37 [1, 1, 1, 0, 1, 0] (.str r) ⟨[(0, .rop [.int .i64 a0.kind, .int .i64 a0.value, .ro (List.map i64D a0.data), .ro (List.map Core.ds a0.kids)] 0), (3, .str p0_0), (4, .int .i64 p0_1)], [], []⟩) := (s_l06Text_all n).2

theorem s_CoreText_ok (a0 : Core) (r : ByteArray) (h : s_CoreText a0 = some r) : AC Tryd.prog 25 [.agg (Core.avs a0)] (.str r) := by
  unfold s_CoreText at h
  refine ac_fn mixed Tryd.func25 rfl rfl rfl (by kernel_rfl) (by kernel_rfl) ?_
  try simp only [go_sem]
  replace h := bindE h
  obtain ⟨v2000, hv2000, h⟩ := h
  refine call_i (s_l06Ok_ok _ _ hv2000) ?_
  try simp only [go_sem]
  refine cond_i (fun hb1 => ?_) (fun hb1 => ?_)
  · replace h := ifT (c := (!v2000)) hb1 h
    try simp only [go_sem]
    replace h := Option.some.inj h
    obtain rfl := h
    simp only [go_sem]
  · replace h := ifF (c := (!v2000)) hb1 h
    try simp only [go_sem]
    refine seq_go ?_
    try simp only [go_sem]
    replace h := bindE h
    obtain ⟨v4000, hv4000, h⟩ := h
    refine call_i (s_l06Text_ok fuel _ _ hv4000) ?_
    try simp only [go_sem]
    replace h := Option.some.inj h
    obtain rfl := h
    simp only [go_sem]
end Go.Proofs.YtlmanchbpommaaaDoor.Ab
