/- Walks of the seat's own: tree_Rank, show_Sign; they began as parts of a print and were turned. -/
import Derived.Test.YtobkdmmnbnpemaaXJK2
namespace Go.Proofs.Ytobkdmmnbnpemaa.K
open Go.RowKit Go.Proofs.YtobkdmmnbnpemaaW.PrintWords Go.Proofs.YtobkdmmnbnpemaaW.PrintLast Go.Proofs.YtobkdmmnbnpemaaW.PrintMore
attribute [local go_sem] max2_int min2_int max_two min_two max_three min_three max_four min_four
set_option linter.unusedVariables false
set_option linter.unusedSimpArgs false
def tree_Rank.f (a0 : ByteArray) : Option (Int × Int) := if a0.toList = ([124] : List UInt8) then (some (1, 7)) else (if a0.toList = ([94] : List UInt8) then (some (2, 8)) else (if a0.toList = ([38] : List UInt8) then (some (3, 6)) else (if a0.toList = ([61, 61] : List UInt8) then (some (4, 11)) else (if a0.toList = ([33, 61] : List UInt8) then (some (4, 12)) else (if a0.toList = ([60] : List UInt8) then (some (5, 13)) else (if a0.toList = ([60, 61] : List UInt8) then (some (5, 14)) else (if a0.toList = ([62] : List UInt8) then (some (5, 15)) else (if a0.toList = ([62, 61] : List UInt8) then (some (5, 16)) else (if a0.toList = ([60, 60] : List UInt8) then (some (6, 9)) else (if a0.toList = ([62, 62] : List UInt8) then (some (6, 10)) else (if a0.toList = ([43] : List UInt8) then (some (7, 1)) else (if a0.toList = ([45] : List UInt8) then (some (7, 2)) else (if a0.toList = ([42] : List UInt8) then (some (8, 3)) else (if a0.toList = ([47] : List UInt8) then (some (8, 4)) else (if a0.toList = ([37] : List UInt8) then (some (8, 5)) else (some (0, 0)))))))))))))))))
set_option maxHeartbeats 8000000 in
set_option maxRecDepth 100000 in
theorem tree_Rank.calls (a0 : ByteArray) (r1 : Int) (r2 : Int) (w : World) (h : tree_Rank.f a0 = some (r1, r2)) :
    Calls Try.prog 21 #[.string a0] w fun e w' => e = .returned (.tuple #[.int .i64 r1, .int .i64 r2]) ∧ Drawn0 w w' := by
  have H : (if a0.toList = ([124] : List UInt8) then (some (1, 7)) else (if a0.toList = ([94] : List UInt8) then (some (2, 8)) else (if a0.toList = ([38] : List UInt8) then (some (3, 6)) else (if a0.toList = ([61, 61] : List UInt8) then (some (4, 11)) else (if a0.toList = ([33, 61] : List UInt8) then (some (4, 12)) else (if a0.toList = ([60] : List UInt8) then (some (5, 13)) else (if a0.toList = ([60, 61] : List UInt8) then (some (5, 14)) else (if a0.toList = ([62] : List UInt8) then (some (5, 15)) else (if a0.toList = ([62, 61] : List UInt8) then (some (5, 16)) else (if a0.toList = ([60, 60] : List UInt8) then (some (6, 9)) else (if a0.toList = ([62, 62] : List UInt8) then (some (6, 10)) else (if a0.toList = ([43] : List UInt8) then (some (7, 1)) else (if a0.toList = ([45] : List UInt8) then (some (7, 2)) else (if a0.toList = ([42] : List UInt8) then (some (8, 3)) else (if a0.toList = ([47] : List UInt8) then (some (8, 4)) else (if a0.toList = ([37] : List UInt8) then (some (8, 5)) else (some (0, 0)))))))))))))))))) = some (r1, r2) := h; clear h; by_cases c2 : a0.toList = ([124] : List UInt8)
  · rw [if_pos c2] at H
    have c2b0 : (a0.toList == ([124] : List UInt8)) = true := beq_iff_eq.mpr c2; have c2b1 : (a0.toList != ([124] : List UInt8)) = false := bne_eq_false_iff_eq.mpr c2; clear c2; simp only [Option.some.injEq, Prod.mk.injEq] at H; obtain ⟨rfl, rfl⟩ := H
    go_enter Try.func21, Try.ntmps21
    go_wp2
    go_ret2
    exact z_4
  · rw [if_neg c2] at H
    have c2b0 : (a0.toList == ([124] : List UInt8)) = false := beq_eq_false_iff_ne.mpr c2; have c2b1 : (a0.toList != ([124] : List UInt8)) = true := bne_iff_ne.mpr c2; by_cases c3 : a0.toList = ([94] : List UInt8)
    · rw [if_pos c3] at H
      have c3b0 : (a0.toList == ([94] : List UInt8)) = true := beq_iff_eq.mpr c3; have c3b1 : (a0.toList != ([94] : List UInt8)) = false := bne_eq_false_iff_eq.mpr c3; clear c3; simp only [Option.some.injEq, Prod.mk.injEq] at H; obtain ⟨rfl, rfl⟩ := H
      go_enter Try.func21, Try.ntmps21
      go_wp2
      go_ret2
      exact z_4
    · rw [if_neg c3] at H
      have c3b0 : (a0.toList == ([94] : List UInt8)) = false := beq_eq_false_iff_ne.mpr c3; have c3b1 : (a0.toList != ([94] : List UInt8)) = true := bne_iff_ne.mpr c3; by_cases c4 : a0.toList = ([38] : List UInt8)
      · rw [if_pos c4] at H
        have c4b0 : (a0.toList == ([38] : List UInt8)) = true := beq_iff_eq.mpr c4; have c4b1 : (a0.toList != ([38] : List UInt8)) = false := bne_eq_false_iff_eq.mpr c4; clear c4; simp only [Option.some.injEq, Prod.mk.injEq] at H; obtain ⟨rfl, rfl⟩ := H
        go_enter Try.func21, Try.ntmps21
        go_wp2
        go_ret2
        exact z_4
      · rw [if_neg c4] at H
        have c4b0 : (a0.toList == ([38] : List UInt8)) = false := beq_eq_false_iff_ne.mpr c4; have c4b1 : (a0.toList != ([38] : List UInt8)) = true := bne_iff_ne.mpr c4; by_cases c5 : a0.toList = ([61, 61] : List UInt8)
        · rw [if_pos c5] at H
          have c5b0 : (a0.toList == ([61, 61] : List UInt8)) = true := beq_iff_eq.mpr c5; have c5b1 : (a0.toList != ([61, 61] : List UInt8)) = false := bne_eq_false_iff_eq.mpr c5; clear c5; simp only [Option.some.injEq, Prod.mk.injEq] at H; obtain ⟨rfl, rfl⟩ := H
          go_enter Try.func21, Try.ntmps21
          go_wp2
          go_ret2
          exact z_4
        · rw [if_neg c5] at H
          have c5b0 : (a0.toList == ([61, 61] : List UInt8)) = false := beq_eq_false_iff_ne.mpr c5; have c5b1 : (a0.toList != ([61, 61] : List UInt8)) = true := bne_iff_ne.mpr c5; by_cases c6 : a0.toList = ([33, 61] : List UInt8)
          · rw [if_pos c6] at H
            have c6b0 : (a0.toList == ([33, 61] : List UInt8)) = true := beq_iff_eq.mpr c6; have c6b1 : (a0.toList != ([33, 61] : List UInt8)) = false := bne_eq_false_iff_eq.mpr c6; clear c6; simp only [Option.some.injEq, Prod.mk.injEq] at H; obtain ⟨rfl, rfl⟩ := H
            go_enter Try.func21, Try.ntmps21
            go_wp2
            go_ret2
            exact z_4
          · rw [if_neg c6] at H
            have c6b0 : (a0.toList == ([33, 61] : List UInt8)) = false := beq_eq_false_iff_ne.mpr c6; have c6b1 : (a0.toList != ([33, 61] : List UInt8)) = true := bne_iff_ne.mpr c6; by_cases c7 : a0.toList = ([60] : List UInt8)
            · rw [if_pos c7] at H
              have c7b0 : (a0.toList == ([60] : List UInt8)) = true := beq_iff_eq.mpr c7; have c7b1 : (a0.toList != ([60] : List UInt8)) = false := bne_eq_false_iff_eq.mpr c7; clear c7; simp only [Option.some.injEq, Prod.mk.injEq] at H; obtain ⟨rfl, rfl⟩ := H
              go_enter Try.func21, Try.ntmps21
              go_wp2
              go_ret2
              exact z_4
            · rw [if_neg c7] at H
              have c7b0 : (a0.toList == ([60] : List UInt8)) = false := beq_eq_false_iff_ne.mpr c7; have c7b1 : (a0.toList != ([60] : List UInt8)) = true := bne_iff_ne.mpr c7; by_cases c8 : a0.toList = ([60, 61] : List UInt8)
              · rw [if_pos c8] at H
                have c8b0 : (a0.toList == ([60, 61] : List UInt8)) = true := beq_iff_eq.mpr c8; have c8b1 : (a0.toList != ([60, 61] : List UInt8)) = false := bne_eq_false_iff_eq.mpr c8; clear c8; simp only [Option.some.injEq, Prod.mk.injEq] at H; obtain ⟨rfl, rfl⟩ := H
                go_enter Try.func21, Try.ntmps21
                go_wp2
                go_ret2
                exact z_4
              · rw [if_neg c8] at H
                have c8b0 : (a0.toList == ([60, 61] : List UInt8)) = false := beq_eq_false_iff_ne.mpr c8; have c8b1 : (a0.toList != ([60, 61] : List UInt8)) = true := bne_iff_ne.mpr c8; by_cases c9 : a0.toList = ([62] : List UInt8)
                · rw [if_pos c9] at H
                  have c9b0 : (a0.toList == ([62] : List UInt8)) = true := beq_iff_eq.mpr c9; have c9b1 : (a0.toList != ([62] : List UInt8)) = false := bne_eq_false_iff_eq.mpr c9; clear c9; simp only [Option.some.injEq, Prod.mk.injEq] at H; obtain ⟨rfl, rfl⟩ := H
                  go_enter Try.func21, Try.ntmps21
                  go_wp2
                  go_ret2
                  exact z_4
                · rw [if_neg c9] at H
                  have c9b0 : (a0.toList == ([62] : List UInt8)) = false := beq_eq_false_iff_ne.mpr c9; have c9b1 : (a0.toList != ([62] : List UInt8)) = true := bne_iff_ne.mpr c9; by_cases c10 : a0.toList = ([62, 61] : List UInt8)
                  · rw [if_pos c10] at H
                    have c10b0 : (a0.toList == ([62, 61] : List UInt8)) = true := beq_iff_eq.mpr c10; have c10b1 : (a0.toList != ([62, 61] : List UInt8)) = false := bne_eq_false_iff_eq.mpr c10; clear c10; simp only [Option.some.injEq, Prod.mk.injEq] at H; obtain ⟨rfl, rfl⟩ := H
                    go_enter Try.func21, Try.ntmps21
                    go_wp2
                    go_ret2
                    exact z_4
                  · rw [if_neg c10] at H
                    have c10b0 : (a0.toList == ([62, 61] : List UInt8)) = false := beq_eq_false_iff_ne.mpr c10; have c10b1 : (a0.toList != ([62, 61] : List UInt8)) = true := bne_iff_ne.mpr c10; by_cases c11 : a0.toList = ([60, 60] : List UInt8)
                    · rw [if_pos c11] at H
                      have c11b0 : (a0.toList == ([60, 60] : List UInt8)) = true := beq_iff_eq.mpr c11; have c11b1 : (a0.toList != ([60, 60] : List UInt8)) = false := bne_eq_false_iff_eq.mpr c11; clear c11; simp only [Option.some.injEq, Prod.mk.injEq] at H; obtain ⟨rfl, rfl⟩ := H
                      go_enter Try.func21, Try.ntmps21
                      go_wp2
                      go_ret2
                      exact z_4
                    · rw [if_neg c11] at H
                      have c11b0 : (a0.toList == ([60, 60] : List UInt8)) = false := beq_eq_false_iff_ne.mpr c11; have c11b1 : (a0.toList != ([60, 60] : List UInt8)) = true := bne_iff_ne.mpr c11; by_cases c12 : a0.toList = ([62, 62] : List UInt8)
                      · rw [if_pos c12] at H
                        have c12b0 : (a0.toList == ([62, 62] : List UInt8)) = true := beq_iff_eq.mpr c12; have c12b1 : (a0.toList != ([62, 62] : List UInt8)) = false := bne_eq_false_iff_eq.mpr c12; clear c12; simp only [Option.some.injEq, Prod.mk.injEq] at H; obtain ⟨rfl, rfl⟩ := H
                        go_enter Try.func21, Try.ntmps21
                        go_wp2
                        go_ret2
                        exact z_4
                      · rw [if_neg c12] at H
                        have c12b0 : (a0.toList == ([62, 62] : List UInt8)) = false := beq_eq_false_iff_ne.mpr c12; have c12b1 : (a0.toList != ([62, 62] : List UInt8)) = true := bne_iff_ne.mpr c12; by_cases c13 : a0.toList = ([43] : List UInt8)
                        · rw [if_pos c13] at H
                          have c13b0 : (a0.toList == ([43] : List UInt8)) = true := beq_iff_eq.mpr c13; have c13b1 : (a0.toList != ([43] : List UInt8)) = false := bne_eq_false_iff_eq.mpr c13; clear c13; simp only [Option.some.injEq, Prod.mk.injEq] at H; obtain ⟨rfl, rfl⟩ := H
                          go_enter Try.func21, Try.ntmps21
                          go_wp2
                          go_ret2
                          exact z_4
                        · rw [if_neg c13] at H
                          have c13b0 : (a0.toList == ([43] : List UInt8)) = false := beq_eq_false_iff_ne.mpr c13; have c13b1 : (a0.toList != ([43] : List UInt8)) = true := bne_iff_ne.mpr c13; by_cases c14 : a0.toList = ([45] : List UInt8)
                          · rw [if_pos c14] at H
                            have c14b0 : (a0.toList == ([45] : List UInt8)) = true := beq_iff_eq.mpr c14; have c14b1 : (a0.toList != ([45] : List UInt8)) = false := bne_eq_false_iff_eq.mpr c14; clear c14; simp only [Option.some.injEq, Prod.mk.injEq] at H; obtain ⟨rfl, rfl⟩ := H
                            go_enter Try.func21, Try.ntmps21
                            go_wp2
                            go_ret2
                            exact z_4
                          · rw [if_neg c14] at H
                            have c14b0 : (a0.toList == ([45] : List UInt8)) = false := beq_eq_false_iff_ne.mpr c14; have c14b1 : (a0.toList != ([45] : List UInt8)) = true := bne_iff_ne.mpr c14; by_cases c15 : a0.toList = ([42] : List UInt8)
                            · rw [if_pos c15] at H
                              have c15b0 : (a0.toList == ([42] : List UInt8)) = true := beq_iff_eq.mpr c15; have c15b1 : (a0.toList != ([42] : List UInt8)) = false := bne_eq_false_iff_eq.mpr c15; clear c15; simp only [Option.some.injEq, Prod.mk.injEq] at H; obtain ⟨rfl, rfl⟩ := H
                              go_enter Try.func21, Try.ntmps21
                              go_wp2
                              go_ret2
                              exact z_4
                            · rw [if_neg c15] at H
                              have c15b0 : (a0.toList == ([42] : List UInt8)) = false := beq_eq_false_iff_ne.mpr c15; have c15b1 : (a0.toList != ([42] : List UInt8)) = true := bne_iff_ne.mpr c15; by_cases c16 : a0.toList = ([47] : List UInt8)
                              · rw [if_pos c16] at H
                                have c16b0 : (a0.toList == ([47] : List UInt8)) = true := beq_iff_eq.mpr c16; have c16b1 : (a0.toList != ([47] : List UInt8)) = false := bne_eq_false_iff_eq.mpr c16; clear c16; simp only [Option.some.injEq, Prod.mk.injEq] at H; obtain ⟨rfl, rfl⟩ := H
                                go_enter Try.func21, Try.ntmps21
                                go_wp2
                                go_ret2
                                exact z_4
                              · rw [if_neg c16] at H
                                have c16b0 : (a0.toList == ([47] : List UInt8)) = false := beq_eq_false_iff_ne.mpr c16; have c16b1 : (a0.toList != ([47] : List UInt8)) = true := bne_iff_ne.mpr c16; by_cases c17 : a0.toList = ([37] : List UInt8)
                                · rw [if_pos c17] at H
                                  have c17b0 : (a0.toList == ([37] : List UInt8)) = true := beq_iff_eq.mpr c17; have c17b1 : (a0.toList != ([37] : List UInt8)) = false := bne_eq_false_iff_eq.mpr c17; clear c17; simp only [Option.some.injEq, Prod.mk.injEq] at H; obtain ⟨rfl, rfl⟩ := H
                                  go_enter Try.func21, Try.ntmps21
                                  go_wp2
                                  go_ret2
                                  exact z_4
                                · rw [if_neg c17] at H
                                  have c17b0 : (a0.toList == ([37] : List UInt8)) = false := beq_eq_false_iff_ne.mpr c17; have c17b1 : (a0.toList != ([37] : List UInt8)) = true := bne_iff_ne.mpr c17; simp only [Option.some.injEq, Prod.mk.injEq] at H; obtain ⟨rfl, rfl⟩ := H
                                  go_enter Try.func21, Try.ntmps21
                                  go_wp2
                                  go_ret2
                                  exact z_4
end Go.Proofs.Ytobkdmmnbnpemaa.K
