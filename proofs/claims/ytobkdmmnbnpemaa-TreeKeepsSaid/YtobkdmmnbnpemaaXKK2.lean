/- Walks of the seat's own: lex_Words, lex_Name, tree_fields, num_size, show_one; they began as parts of a print and were turned. -/
import Derived.Test.YtobkdmmnbnpemaaXKK1
namespace Go.Proofs.Ytobkdmmnbnpemaa.K
open Go.RowKit Go.Proofs.YtobkdmmnbnpemaaW.PrintWords Go.Proofs.YtobkdmmnbnpemaaW.PrintLast Go.Proofs.YtobkdmmnbnpemaaW.PrintMore
attribute [local go_sem] max2_int min2_int max_two min_two max_three min_three max_four min_four
set_option linter.unusedVariables false
set_option linter.unusedSimpArgs false
def lex_Words.f (a0 : ByteArray) : Option (Bool) := if a0.toList = ([118, 97, 114] : List UInt8) then (some true) else (if a0.toList = ([105, 102] : List UInt8) then (some true) else (if a0.toList = ([101, 108, 115, 101] : List UInt8) then (some true) else (if a0.toList = ([119, 104, 105, 108, 101] : List UInt8) then (some true) else (if a0.toList = ([101, 109, 105, 116] : List UInt8) then (some true) else (if a0.toList = ([105, 110, 116, 111] : List UInt8) then (some true) else (if a0.toList = ([102, 97, 105, 108] : List UInt8) then (some true) else (if a0.toList = ([115, 116, 111, 112] : List UInt8) then (some true) else (if a0.toList = ([109] : List UInt8) then (some true) else (if a0.toList = ([109, 105, 110] : List UInt8) then (some true) else (if a0.toList = ([109, 97, 120] : List UInt8) then (some true) else (some false)))))))))))
set_option maxHeartbeats 8000000 in
set_option maxRecDepth 100000 in
theorem lex_Words.calls (a0 : ByteArray) (r : Bool) (w : World) (h : lex_Words.f a0 = some r) :
    Calls Try.prog 124 #[.string a0] w fun e w' => e = .returned (.bool r) ∧ Drawn0 w w' := by
  have H : (if a0.toList = ([118, 97, 114] : List UInt8) then (some true) else (if a0.toList = ([105, 102] : List UInt8) then (some true) else (if a0.toList = ([101, 108, 115, 101] : List UInt8) then (some true) else (if a0.toList = ([119, 104, 105, 108, 101] : List UInt8) then (some true) else (if a0.toList = ([101, 109, 105, 116] : List UInt8) then (some true) else (if a0.toList = ([105, 110, 116, 111] : List UInt8) then (some true) else (if a0.toList = ([102, 97, 105, 108] : List UInt8) then (some true) else (if a0.toList = ([115, 116, 111, 112] : List UInt8) then (some true) else (if a0.toList = ([109] : List UInt8) then (some true) else (if a0.toList = ([109, 105, 110] : List UInt8) then (some true) else (if a0.toList = ([109, 97, 120] : List UInt8) then (some true) else (some false)))))))))))) = some r := h; clear h; by_cases c2 : a0.toList = ([118, 97, 114] : List UInt8)
  · rw [if_pos c2] at H
    have c2b0 : (a0.toList == ([118, 97, 114] : List UInt8)) = true := beq_iff_eq.mpr c2; have c2b1 : (a0.toList != ([118, 97, 114] : List UInt8)) = false := bne_eq_false_iff_eq.mpr c2; clear c2; obtain rfl := Option.some.inj H
    go_enter Try.func124, Try.ntmps124
    go_wp2
    go_ret
    exact z_6
  · rw [if_neg c2] at H
    have c2b0 : (a0.toList == ([118, 97, 114] : List UInt8)) = false := beq_eq_false_iff_ne.mpr c2; have c2b1 : (a0.toList != ([118, 97, 114] : List UInt8)) = true := bne_iff_ne.mpr c2; by_cases c3 : a0.toList = ([105, 102] : List UInt8)
    · rw [if_pos c3] at H
      have c3b0 : (a0.toList == ([105, 102] : List UInt8)) = true := beq_iff_eq.mpr c3; have c3b1 : (a0.toList != ([105, 102] : List UInt8)) = false := bne_eq_false_iff_eq.mpr c3; clear c3; obtain rfl := Option.some.inj H
      go_enter Try.func124, Try.ntmps124
      go_wp2
      go_ret
      exact z_6
    · rw [if_neg c3] at H
      have c3b0 : (a0.toList == ([105, 102] : List UInt8)) = false := beq_eq_false_iff_ne.mpr c3; have c3b1 : (a0.toList != ([105, 102] : List UInt8)) = true := bne_iff_ne.mpr c3; by_cases c4 : a0.toList = ([101, 108, 115, 101] : List UInt8)
      · rw [if_pos c4] at H
        have c4b0 : (a0.toList == ([101, 108, 115, 101] : List UInt8)) = true := beq_iff_eq.mpr c4; have c4b1 : (a0.toList != ([101, 108, 115, 101] : List UInt8)) = false := bne_eq_false_iff_eq.mpr c4; clear c4; obtain rfl := Option.some.inj H
        go_enter Try.func124, Try.ntmps124
        go_wp2
        go_ret
        exact z_6
      · rw [if_neg c4] at H
        have c4b0 : (a0.toList == ([101, 108, 115, 101] : List UInt8)) = false := beq_eq_false_iff_ne.mpr c4; have c4b1 : (a0.toList != ([101, 108, 115, 101] : List UInt8)) = true := bne_iff_ne.mpr c4; by_cases c5 : a0.toList = ([119, 104, 105, 108, 101] : List UInt8)
        · rw [if_pos c5] at H
          have c5b0 : (a0.toList == ([119, 104, 105, 108, 101] : List UInt8)) = true := beq_iff_eq.mpr c5; have c5b1 : (a0.toList != ([119, 104, 105, 108, 101] : List UInt8)) = false := bne_eq_false_iff_eq.mpr c5; clear c5; obtain rfl := Option.some.inj H
          go_enter Try.func124, Try.ntmps124
          go_wp2
          go_ret
          exact z_6
        · rw [if_neg c5] at H
          have c5b0 : (a0.toList == ([119, 104, 105, 108, 101] : List UInt8)) = false := beq_eq_false_iff_ne.mpr c5; have c5b1 : (a0.toList != ([119, 104, 105, 108, 101] : List UInt8)) = true := bne_iff_ne.mpr c5; by_cases c6 : a0.toList = ([101, 109, 105, 116] : List UInt8)
          · rw [if_pos c6] at H
            have c6b0 : (a0.toList == ([101, 109, 105, 116] : List UInt8)) = true := beq_iff_eq.mpr c6; have c6b1 : (a0.toList != ([101, 109, 105, 116] : List UInt8)) = false := bne_eq_false_iff_eq.mpr c6; clear c6; obtain rfl := Option.some.inj H
            go_enter Try.func124, Try.ntmps124
            go_wp2
            go_ret
            exact z_6
          · rw [if_neg c6] at H
            have c6b0 : (a0.toList == ([101, 109, 105, 116] : List UInt8)) = false := beq_eq_false_iff_ne.mpr c6; have c6b1 : (a0.toList != ([101, 109, 105, 116] : List UInt8)) = true := bne_iff_ne.mpr c6; by_cases c7 : a0.toList = ([105, 110, 116, 111] : List UInt8)
            · rw [if_pos c7] at H
              have c7b0 : (a0.toList == ([105, 110, 116, 111] : List UInt8)) = true := beq_iff_eq.mpr c7; have c7b1 : (a0.toList != ([105, 110, 116, 111] : List UInt8)) = false := bne_eq_false_iff_eq.mpr c7; clear c7; obtain rfl := Option.some.inj H
              go_enter Try.func124, Try.ntmps124
              go_wp2
              go_ret
              exact z_6
            · rw [if_neg c7] at H
              have c7b0 : (a0.toList == ([105, 110, 116, 111] : List UInt8)) = false := beq_eq_false_iff_ne.mpr c7; have c7b1 : (a0.toList != ([105, 110, 116, 111] : List UInt8)) = true := bne_iff_ne.mpr c7; by_cases c8 : a0.toList = ([102, 97, 105, 108] : List UInt8)
              · rw [if_pos c8] at H
                have c8b0 : (a0.toList == ([102, 97, 105, 108] : List UInt8)) = true := beq_iff_eq.mpr c8; have c8b1 : (a0.toList != ([102, 97, 105, 108] : List UInt8)) = false := bne_eq_false_iff_eq.mpr c8; clear c8; obtain rfl := Option.some.inj H
                go_enter Try.func124, Try.ntmps124
                go_wp2
                go_ret
                exact z_6
              · rw [if_neg c8] at H
                have c8b0 : (a0.toList == ([102, 97, 105, 108] : List UInt8)) = false := beq_eq_false_iff_ne.mpr c8; have c8b1 : (a0.toList != ([102, 97, 105, 108] : List UInt8)) = true := bne_iff_ne.mpr c8; by_cases c9 : a0.toList = ([115, 116, 111, 112] : List UInt8)
                · rw [if_pos c9] at H
                  have c9b0 : (a0.toList == ([115, 116, 111, 112] : List UInt8)) = true := beq_iff_eq.mpr c9; have c9b1 : (a0.toList != ([115, 116, 111, 112] : List UInt8)) = false := bne_eq_false_iff_eq.mpr c9; clear c9; obtain rfl := Option.some.inj H
                  go_enter Try.func124, Try.ntmps124
                  go_wp2
                  go_ret
                  exact z_6
                · rw [if_neg c9] at H
                  have c9b0 : (a0.toList == ([115, 116, 111, 112] : List UInt8)) = false := beq_eq_false_iff_ne.mpr c9; have c9b1 : (a0.toList != ([115, 116, 111, 112] : List UInt8)) = true := bne_iff_ne.mpr c9; by_cases c10 : a0.toList = ([109] : List UInt8)
                  · rw [if_pos c10] at H
                    have c10b0 : (a0.toList == ([109] : List UInt8)) = true := beq_iff_eq.mpr c10; have c10b1 : (a0.toList != ([109] : List UInt8)) = false := bne_eq_false_iff_eq.mpr c10; clear c10; obtain rfl := Option.some.inj H
                    go_enter Try.func124, Try.ntmps124
                    go_wp2
                    go_ret
                    exact z_6
                  · rw [if_neg c10] at H
                    have c10b0 : (a0.toList == ([109] : List UInt8)) = false := beq_eq_false_iff_ne.mpr c10; have c10b1 : (a0.toList != ([109] : List UInt8)) = true := bne_iff_ne.mpr c10; by_cases c11 : a0.toList = ([109, 105, 110] : List UInt8)
                    · rw [if_pos c11] at H
                      have c11b0 : (a0.toList == ([109, 105, 110] : List UInt8)) = true := beq_iff_eq.mpr c11; have c11b1 : (a0.toList != ([109, 105, 110] : List UInt8)) = false := bne_eq_false_iff_eq.mpr c11; clear c11; obtain rfl := Option.some.inj H
                      go_enter Try.func124, Try.ntmps124
                      go_wp2
                      go_ret
                      exact z_6
                    · rw [if_neg c11] at H
                      have c11b0 : (a0.toList == ([109, 105, 110] : List UInt8)) = false := beq_eq_false_iff_ne.mpr c11; have c11b1 : (a0.toList != ([109, 105, 110] : List UInt8)) = true := bne_iff_ne.mpr c11; by_cases c12 : a0.toList = ([109, 97, 120] : List UInt8)
                      · rw [if_pos c12] at H
                        have c12b0 : (a0.toList == ([109, 97, 120] : List UInt8)) = true := beq_iff_eq.mpr c12; have c12b1 : (a0.toList != ([109, 97, 120] : List UInt8)) = false := bne_eq_false_iff_eq.mpr c12; clear c12; obtain rfl := Option.some.inj H
                        go_enter Try.func124, Try.ntmps124
                        go_wp2
                        go_ret
                        exact z_6
                      · rw [if_neg c12] at H
                        have c12b0 : (a0.toList == ([109, 97, 120] : List UInt8)) = false := beq_eq_false_iff_ne.mpr c12; have c12b1 : (a0.toList != ([109, 97, 120] : List UInt8)) = true := bne_iff_ne.mpr c12; obtain rfl := Option.some.inj H
                        go_enter Try.func124, Try.ntmps124
                        go_wp2
                        go_ret
                        exact z_6
mutual
def lex_Name.j0 : Nat → ByteArray → Bool → Option (Bool)
  | 0, _, _ => none
  | k + 1, x0, x20 => if x20 = true then (some false) else (lex_Name.l0 k x0 (x0.size : Int) 0)
def lex_Name.l0 : Nat → ByteArray → Int → Int → Option (Bool)
  | 0, _, _, _ => none
  | k + 1, x0, x22, x23 => if x23 < x22 then (if 0 ≤ x23 then (if x23 < (x0.size : Int) then ((lex_letter.f (bt x0 x23)).bind fun t115 => (if t115 = true then (lex_Name.l0 k x0 x22 (wrap64 (x23 + 1))) else ((lex_digit.f (bt x0 x23)).bind fun t116 => (if t116 = true then (lex_Name.l0 k x0 x22 (wrap64 (x23 + 1))) else (some false))))) else (none)) else (none)) else (some true)
end
def lex_Name.f (k : Nat) (a0 : ByteArray) : Option (Bool) := if a0.toList = ([] : List UInt8) then (lex_Name.j0 k a0 true) else (if (a0.size : Int) > 12 then (lex_Name.j0 k a0 true) else (if 0 < (a0.size : Int) then ((lex_letter.f (bt a0 0)).bind fun t113 => (if t113 = true then ((lex_Words.f a0).bind fun t114 => (lex_Name.j0 k a0 t114)) else (lex_Name.j0 k a0 true))) else (none)))
theorem lex_Name.mono_l : ∀ k, (∀ y0 y1, LeO (lex_Name.j0 k y0 y1) (lex_Name.j0 (k + 1) y0 y1)) ∧ (∀ y0 y1 y2, LeO (lex_Name.l0 k y0 y1 y2) (lex_Name.l0 (k + 1) y0 y1 y2))
  | 0 => ⟨fun _ _ r h => by simp [lex_Name.j0] at h, fun _ _ _ r h => by simp [lex_Name.l0] at h⟩
  | k + 1 => by
    obtain ⟨ih0, ih1⟩ := lex_Name.mono_l k; refine ⟨?_, ?_⟩
    · intro y0 y1
      unfold lex_Name.j0
      repeat' first
      | (with_reducible exact ih0 _ _)
      | (with_reducible exact ih1 _ _ _)
      | (with_reducible exact LeO.refl _)
      | (with_reducible exact LeO.none _)
      | (with_reducible refine LeO.ite ?_ ?_)
      | (with_reducible refine LeO.bind ?_ (fun _ => ?_))
      | exact ih0 _ _
      | exact ih1 _ _ _
      | exact LeO.none _
      | refine LeO.ite ?_ ?_
      | refine LeO.bind ?_ (fun _ => ?_)
    · intro y0 y1 y2
      unfold lex_Name.l0
      repeat' first
      | (with_reducible exact ih0 _ _)
      | (with_reducible exact ih1 _ _ _)
      | (with_reducible exact LeO.refl _)
      | (with_reducible exact LeO.none _)
      | (with_reducible refine LeO.ite ?_ ?_)
      | (with_reducible refine LeO.bind ?_ (fun _ => ?_))
      | exact ih0 _ _
      | exact ih1 _ _ _
      | exact LeO.none _
      | refine LeO.ite ?_ ?_
      | refine LeO.bind ?_ (fun _ => ?_)
theorem lex_Name.mono : ∀ a0 k, LeO (lex_Name.f k a0) (lex_Name.f (k + 1) a0) := by
  intro a0 k; obtain ⟨ih0, ih1⟩ := lex_Name.mono_l k; unfold lex_Name.f
  repeat' first
      | (with_reducible exact ih0 _ _)
      | (with_reducible exact ih1 _ _ _)
      | (with_reducible exact LeO.refl _)
      | (with_reducible exact LeO.none _)
      | (with_reducible refine LeO.ite ?_ ?_)
      | (with_reducible refine LeO.bind ?_ (fun _ => ?_))
      | exact ih0 _ _
      | exact ih1 _ _ _
      | exact LeO.none _
      | refine LeO.ite ?_ ?_
      | refine LeO.bind ?_ (fun _ => ?_)
set_option maxHeartbeats 8000000 in
set_option maxRecDepth 100000 in
theorem lex_Name.calls (k : Nat) (a0 : ByteArray) (r : Bool) (w : World) (h : lex_Name.f k a0 = some r) :
    Calls Try.prog 119 #[.string a0] w fun e w' => e = .returned (.bool r) ∧ Drawn0 w w' := by
  have H : (if a0.toList = ([] : List UInt8) then (lex_Name.j0 k a0 true) else (if (a0.size : Int) > 12 then (lex_Name.j0 k a0 true) else (if 0 < (a0.size : Int) then ((lex_letter.f (bt a0 0)).bind fun t113 => (if t113 = true then ((lex_Words.f a0).bind fun t114 => (lex_Name.j0 k a0 t114)) else (lex_Name.j0 k a0 true))) else (none)))) = some r := h; clear h; have HC2 := A_0 H; clear H
  go_enter Try.func119, Try.ntmps119
  go_upto_region 1 with (fail)
  go_cut [20] (fun v20 wc => ∃ (kq : Nat) (x20_1 : Bool), v20 = .bool x20_1 ∧ Aside0 (lex_Name.j0 kq a0 x20_1 = some r) ∧ Aside0 (kq ≤ k) ∧ Drawn0 w wc)
  case first =>
    have H := HC2.out; clear HC2; by_cases c3 : a0.toList = ([] : List UInt8)
    · rw [if_pos c3] at H
      have c3b0 : (a0.toList == ([] : List UInt8)) = true := beq_iff_eq.mpr c3; have c3b1 : (a0.toList != ([] : List UInt8)) = false := bne_eq_false_iff_eq.mpr c3; clear c3
      (first | rw [c3b0] | (simp only [i64_w, i32_w]; rw [c3b0]) | skip)
      have H' := A_0 H; clear H
      go_wp2
      go_meet
      case rel => exact ⟨_, (true), (z_7), H', ⟨z_8⟩, z_9⟩
    · rw [if_neg c3] at H
      have c3b0 : (a0.toList == ([] : List UInt8)) = false := beq_eq_false_iff_ne.mpr c3; have c3b1 : (a0.toList != ([] : List UInt8)) = true := bne_iff_ne.mpr c3
      (first | rw [c3b0] | (simp only [i64_w, i32_w]; rw [c3b0]) | skip)
      by_cases c4 : (a0.size : Int) > 12
      · rw [if_pos c4] at H
        have c4b0 : decide (12 < (a0.size : Int)) = true := decide_eq_true c4; have c4b1 : decide (12 < a0.size) = true := decide_eq_true (by omega); clear c4; have H' := A_0 H; clear H
        go_wp2
        go_meet
        case rel => exact ⟨_, (true), (z_7), H', ⟨z_8⟩, z_9⟩
      · rw [if_neg c4] at H
        have c4b0 : decide (12 < (a0.size : Int)) = false := decide_eq_false c4; have c4b1 : decide (12 < a0.size) = false := decide_eq_false (by omega); clear c4; by_cases c5 : 0 < (a0.size : Int)
        · rw [if_pos c5] at H
          have c5b0 : decide (0 < (a0.size : Int)) = true := decide_eq_true c5; have c5b1 : decide (0 < a0.size) = true := decide_eq_true (by omega); clear c5; replace H := Option.bind_eq_some_iff.mp H; obtain ⟨t113, A70, H⟩ := H; replace H : (if t113 = true then ((lex_Words.f a0).bind fun t114 => (lex_Name.j0 k a0 t114)) else (lex_Name.j0 k a0 true)) = some r := H; have A7 := A_0 A70; clear A70; by_cases c8 : t113 = true
          · subst c8
            have H1 : ((lex_Words.f a0).bind fun t114 => (lex_Name.j0 k a0 t114)) = some r := z_10; clear H; have H := H1; clear H1; replace H := Option.bind_eq_some_iff.mp H; obtain ⟨t114, A90, H⟩ := H; replace H : (lex_Name.j0 k a0 t114) = some r := H; have A9 := A_0 A90; clear A90; have H' := A_0 H; clear H; have p6 : 0 ≤ (0 : Int) := (by omega); have q6 : 0 < a0.size := (z_11); have hx6 : ∀ h : 0 < a0.size, ((a0[0]'h).toNat : Int) = bt a0 0 := bt_at a0 0; clear p6; have qi6 : (0 < (a0.size : Int)) = True := eq_true (of_decide_eq_true (z_12)); replace q6 := eq_true q6
            go_wp2_with (first | (go_at_call 98; (with_reducible refine (lex_letter.calls (bt a0 0) true _ A7.out).mono ?_); rintro e w' ⟨rfl, ⟨nd, rfl⟩⟩) | (go_at_call 124; (with_reducible refine (lex_Words.calls a0 t114 _ A9.out).mono ?_); rintro e w' ⟨rfl, ⟨nd, rfl⟩⟩))
            go_meet
            case rel => exact ⟨_, (t114), (z_7), H', ⟨z_8⟩, z_9⟩
          · replace c8 := Bool.eq_false_iff.mpr c8
            subst c8; have H1 : (lex_Name.j0 k a0 true) = some r := z_13; clear H; have H := H1; clear H1; have H' := A_0 H; clear H; have p6 : 0 ≤ (0 : Int) := (by omega); have q6 : 0 < a0.size := (z_11); have hx6 : ∀ h : 0 < a0.size, ((a0[0]'h).toNat : Int) = bt a0 0 := bt_at a0 0; clear p6; have qi6 : (0 < (a0.size : Int)) = True := eq_true (of_decide_eq_true (z_12)); replace q6 := eq_true q6
            go_wp2_with (first | (go_at_call 98; (with_reducible refine (lex_letter.calls (bt a0 0) false _ A7.out).mono ?_); rintro e w' ⟨rfl, ⟨nd, rfl⟩⟩))
            go_meet
            case rel => exact ⟨_, (true), (z_7), H', ⟨z_8⟩, z_9⟩
        · rw [if_neg c5] at H
          exact z_14
  case rest =>
    clear HC2
    try clear c1
    try clear p2
    try clear c3
    try clear c3b0
    try clear c3b1
    try clear c4
    try clear c4b0
    try clear c4b1
    try clear c5
    try clear c5b0
    try clear c5b1
    try clear p6
    try clear q6
    try clear hx6
    try clear qi6
    try clear c8
    try clear p6
    try clear q6
    obtain ⟨kq, x20_1, rfl, HA, HJ1, ⟨mc1, rfl⟩⟩ := hcut; cases kq with
    | zero => exact absurd HA.out (by simp [lex_Name.j0])
    | succ kj1 =>
      have H := HA.out; clear HA; simp only [lex_Name.j0] at H; by_cases c10 : x20_1 = true
      · subst c10
        have H1 : (some false) = some r := z_10; clear H; have H := H1; clear H1; obtain rfl := Option.some.inj H
        go_wp2
        go_ret
        exact z_6
      · replace c10 := Bool.eq_false_iff.mpr c10
        subst c10; have H1 : (lex_Name.l0 kj1 a0 (a0.size : Int) 0) = some r := z_13; clear H; have H := H1; clear H1; have H' := A_0 H; clear H
        go_wp2
        go_loopg [23] kj1 (fun kq v23 w' => ∃ (x23_2 : Int), v23 = .int .i64 x23_2 ∧ Aside0 (lex_Name.l0 kq a0 (a0.size : Int) x23_2 = some r) ∧ Aside0 (kq ≤ kj1) ∧ Drawn0 w w')
        case atStart => exact ⟨(0), (z_7), H', ⟨Nat.le_refl _⟩, z_9⟩
        case round =>
          clear H'
          try clear c1
          try clear p2
          try clear c3
          try clear c3b0
          try clear c3b1
          try clear c4
          try clear c4b0
          try clear c4b1
          try clear c5
          try clear c5b0
          try clear c5b1
          try clear p6
          try clear q6
          try clear hx6
          try clear qi6
          try clear c8
          try clear c10
          try clear p2
          try clear p6
          try clear q6
          obtain ⟨x23_2, rfl, HA, HK2, ⟨m2, rfl⟩⟩ := hrel; cases gk with
          | zero => exact absurd HA.out (by simp [lex_Name.l0])
          | succ k2 =>
            have H := HA.out; clear HA; simp only [lex_Name.l0] at H; by_cases c11 : x23_2 < (a0.size : Int)
            · rw [if_pos c11] at H
              have c11b0 : decide (x23_2 < (a0.size : Int)) = true := decide_eq_true c11; clear c11; by_cases c12 : 0 ≤ x23_2
              · rw [if_pos c12] at H
                have c12b0 : decide (0 ≤ x23_2) = true := decide_eq_true c12; clear c12; by_cases c13 : x23_2 < (a0.size : Int)
                · rw [if_pos c13] at H
                  have c13b0 : decide (x23_2 < (a0.size : Int)) = true := decide_eq_true c13; clear c13; replace H := Option.bind_eq_some_iff.mp H; obtain ⟨t115, A150, H⟩ := H; replace H : (if t115 = true then (lex_Name.l0 k2 a0 (a0.size : Int) (wrap64 (x23_2 + 1))) else ((lex_digit.f (bt a0 x23_2)).bind fun t116 => (if t116 = true then (lex_Name.l0 k2 a0 (a0.size : Int) (wrap64 (x23_2 + 1))) else (some false)))) = some r := H; have A15 := A_0 A150; clear A150; by_cases c16 : t115 = true
                  · subst c16
                    have H1 : (lex_Name.l0 k2 a0 (a0.size : Int) (wrap64 (x23_2 + 1))) = some r := z_10; clear H; have H := H1; clear H1; have H' := A_0 H; clear H; have p14 : 0 ≤ (x23_2 : Int) := of_decide_eq_true (z_12); have q14 : x23_2 < (a0.size : Int) := of_decide_eq_true (z_12); have hx14 := bt_at a0 x23_2; replace p14 := eq_true p14; replace q14 := eq_true q14
                    go_wp2_with (first | ((with_reducible refine gate_callee (f := 98) rfl ?_); refine goesL_ (some 29) rfl rfl Try.func98 (by kernel_rfl) rfl #[.int .u8 (bt a0 x23_2)] rfl (z_15) ?_; (with_reducible refine (lex_letter.calls (bt a0 x23_2) true _ A15.out).mono ?_); rintro e w' ⟨rfl, ⟨nd, rfl⟩⟩; refine ⟨_, rfl, ?_⟩))
                    go_roundg k2
                    case measure => have := HJ1.out; have := HK2.out; omega
                    case rel => exact ⟨(wrap64 (x23_2 + 1)), (z_7), H', ⟨by have := HJ1.out; have := HK2.out; omega⟩, z_9⟩
                  · replace c16 := Bool.eq_false_iff.mpr c16
                    subst c16; have H1 : ((lex_digit.f (bt a0 x23_2)).bind fun t116 => (if t116 = true then (lex_Name.l0 k2 a0 (a0.size : Int) (wrap64 (x23_2 + 1))) else (some false))) = some r := z_13; clear H; have H := H1; clear H1; replace H := Option.bind_eq_some_iff.mp H; obtain ⟨t116, A180, H⟩ := H; replace H : (if t116 = true then (lex_Name.l0 k2 a0 (a0.size : Int) (wrap64 (x23_2 + 1))) else (some false)) = some r := H; have A18 := A_0 A180; clear A180; by_cases c19 : t116 = true
                    · subst c19
                      have H1 : (lex_Name.l0 k2 a0 (a0.size : Int) (wrap64 (x23_2 + 1))) = some r := z_10; clear H; have H := H1; clear H1; have H' := A_0 H; clear H; have p14 : 0 ≤ (x23_2 : Int) := of_decide_eq_true (z_12); have q14 : x23_2 < (a0.size : Int) := of_decide_eq_true (z_12); have hx14 := bt_at a0 x23_2; replace p14 := eq_true p14; replace q14 := eq_true q14
                      go_wp2_with (first | ((with_reducible refine gate_callee (f := 98) rfl ?_); refine goesL_ (some 29) rfl rfl Try.func98 (by kernel_rfl) rfl #[.int .u8 (bt a0 x23_2)] rfl (z_15) ?_; (with_reducible refine (lex_letter.calls (bt a0 x23_2) false _ A15.out).mono ?_); rintro e w' ⟨rfl, ⟨nd, rfl⟩⟩; refine ⟨_, rfl, ?_⟩; have p17 : 0 ≤ (x23_2 : Int) := of_decide_eq_true (z_12); have q17 : x23_2 < (a0.size : Int) := of_decide_eq_true (z_12); have hx17 := bt_at a0 x23_2; replace p17 := eq_true p17; replace q17 := eq_true q17) | (go_at_call 96; (with_reducible refine (lex_digit.calls (bt a0 x23_2) true _ A18.out).mono ?_); rintro e w' ⟨rfl, ⟨nd, rfl⟩⟩))
                      go_roundg k2
                      case measure => have := HJ1.out; have := HK2.out; omega
                      case rel => exact ⟨(wrap64 (x23_2 + 1)), (z_7), H', ⟨by have := HJ1.out; have := HK2.out; omega⟩, z_9⟩
                    · replace c19 := Bool.eq_false_iff.mpr c19
                      subst c19; have H1 : (some false) = some r := z_13; clear H; have H := H1; clear H1; obtain rfl := Option.some.inj H; have p14 : 0 ≤ (x23_2 : Int) := of_decide_eq_true (z_12); have q14 : x23_2 < (a0.size : Int) := of_decide_eq_true (z_12); have hx14 := bt_at a0 x23_2; replace p14 := eq_true p14; replace q14 := eq_true q14
                      go_wp2_with (first | ((with_reducible refine gate_callee (f := 98) rfl ?_); refine goesL_ (some 29) rfl rfl Try.func98 (by kernel_rfl) rfl #[.int .u8 (bt a0 x23_2)] rfl (z_15) ?_; (with_reducible refine (lex_letter.calls (bt a0 x23_2) false _ A15.out).mono ?_); rintro e w' ⟨rfl, ⟨nd, rfl⟩⟩; refine ⟨_, rfl, ?_⟩; have p17 : 0 ≤ (x23_2 : Int) := of_decide_eq_true (z_12); have q17 : x23_2 < (a0.size : Int) := of_decide_eq_true (z_12); have hx17 := bt_at a0 x23_2; replace p17 := eq_true p17; replace q17 := eq_true q17) | (go_at_call 96; (with_reducible refine (lex_digit.calls (bt a0 x23_2) false _ A18.out).mono ?_); rintro e w' ⟨rfl, ⟨nd, rfl⟩⟩))
                      go_ret
                      exact z_6
                · rw [if_neg c13] at H
                  exact z_14
              · rw [if_neg c12] at H
                exact z_14
            · rw [if_neg c11] at H
              have c11b0 : decide (x23_2 < (a0.size : Int)) = false := decide_eq_false c11; clear c11; obtain rfl := Option.some.inj H
              go_wp2
              go_ret
              exact z_6
mutual
def tree_fields.j0 : Nat → Bool → Int → Int → ByteArray → Int → List (S38) → Option (Bool)
  | 0, _, _, _, _, _, _ => none
  | k + 1, x3, x118000, x118001, x118002, x118003, x118004 => if x118000 = 2 then ((lex_Name.f k x118002).bind fun t118 => (if t118 = true then (tree_fields.j1 k x3 true x118000 x118001 x118002 x118003 x118004) else (tree_fields.j1 k x3 false x118000 x118001 x118002 x118003 x118004))) else (tree_fields.j1 k x3 (x118002.toList == ([] : List UInt8)) x118000 x118001 x118002 x118003 x118004)
def tree_fields.j1 : Nat → Bool → Bool → Int → Int → ByteArray → Int → List (S38) → Option (Bool)
  | 0, _, _, _, _, _, _, _ => none
  | k + 1, x3, x4, x118000, x118001, x118002, x118003, x118004 => if x118000 = 4 then (if x118003 ≥ 19 then (if x3 = true then (if x4 = true then (some (decide (x118003 ≤ 21))) else (some false)) else (some false)) else (if x3 = true then (if x4 = true then (some false) else (some false)) else (some false))) else (if x118000 = 5 then (if x118003 ≥ 1 then (if x3 = true then (if x4 = true then (some (decide (x118003 ≤ 18))) else (some false)) else (some false)) else (if x3 = true then (if x4 = true then (some false) else (some false)) else (some false))) else (if x3 = true then (if x4 = true then (some (x118003 == 0)) else (some false)) else (some false)))
end
def tree_fields.f (k : Nat) (a0_0 : Int) (a0_1 : Int) (a0_2 : ByteArray) (a0_3 : Int) (l0_4 : List (S38)) : Option (Bool) := if a0_0 = 1 then (if a0_1 ≥ 0 then (tree_fields.j0 k true a0_0 a0_1 a0_2 a0_3 l0_4) else (tree_fields.j0 k false a0_0 a0_1 a0_2 a0_3 l0_4)) else (tree_fields.j0 k (a0_1 == 0) a0_0 a0_1 a0_2 a0_3 l0_4)
set_option maxHeartbeats 8000000 in
set_option maxRecDepth 100000 in
theorem tree_fields.calls (k : Nat) (a0_0 : Int) (a0_1 : Int) (a0_2 : ByteArray) (a0_3 : Int) (A0_4 : Option Addr) (c0_4 : Nat) (l0_4 : List (S38)) (r : Bool) (w : World) (hr0_4 : Kd.C k38 w A0_4 l0_4.length l0_4) (hc0_4 : l0_4.length ≤ c0_4) (h : tree_fields.f k a0_0 a0_1 a0_2 a0_3 l0_4 = some r) :
    Calls Try.prog 136 #[.agg #[.int .i64 a0_0, .int .i64 a0_1, .string a0_2, .int .i64 a0_3, .slice A0_4 l0_4.length c0_4]] w fun e w' => e = .returned (.bool r) ∧ Below w.heap.size w w' := by
  have hu38 := Try.underlying38; have HR0_4 := A_0 hr0_4; have HC0_4 := A_0 hc0_4; clear hr0_4 hc0_4; have HB := A_0 (Below.refl w.heap.size w); have H : (if a0_0 = 1 then (if a0_1 ≥ 0 then (tree_fields.j0 k true a0_0 a0_1 a0_2 a0_3 l0_4) else (tree_fields.j0 k false a0_0 a0_1 a0_2 a0_3 l0_4)) else (tree_fields.j0 k (a0_1 == 0) a0_0 a0_1 a0_2 a0_3 l0_4)) = some r := h; clear h; have HC2 := A_0 H; clear H
  go_enter Try.func136, Try.ntmps136
  go_upto_region 1 with (first | ((with_reducible refine gate_dst (N := 1) rfl ?_); refine box_event ?hg (N := 1) ?hd (cs := #[.int .i64 a0_0, .int .i64 a0_1, .string a0_2, .int .i64 a0_3, .slice A0_4 l0_4.length c0_4]) (t := 38) ?hr ?_; (case hd => rfl); (case hg => rfl); (case hr => first | (go_simp; done) | (go_simp; rfl)); intro gb117 hg w3 hbox hb; have n0_ := A_0 (below_step (z_16) hb); have n1_ := A_0 (hbox); have n2_ := A_0 ((z_17 : w.heap.size ≤ gb117)); have n3_ := A_0 ((z_17 : w.heap.size ≤ gb117)); clear HB; have HB := n0_; have BK117 := n1_; have GW117 := n2_; have GE117 := n3_; clear n0_ n1_ n2_ n3_; clear hb hbox hg))
  (try simp only [Act.put, List.setIfInBounds_toArray, List.set_cons_zero, List.set_cons_succ])
  go_cut [3] (fun v3 wc => ∃ (kq : Nat) (x3_1 : Bool), v3 = .bool x3_1 ∧ Aside0 (tree_fields.j0 kq x3_1 a0_0 a0_1 a0_2 a0_3 l0_4 = some r) ∧ Aside0 (kq ≤ k) ∧ Aside0 (wc.heap[gb117]? = some (.cells #[.int .i64 a0_0, .int .i64 a0_1, .string a0_2, .int .i64 a0_3, (.slice A0_4 l0_4.length c0_4)] 38 (0, 0))) ∧ Aside0 (Below w.heap.size w wc))
  case first =>
    have H := HC2.out; clear HC2; by_cases c4 : a0_0 = 1
    · rw [if_pos c4] at H
      have c4b0 : (a0_0 == 1) = true := beq_iff_eq.mpr c4; have c4b1 : (a0_0 != 1) = false := bne_eq_false_iff_eq.mpr c4; clear c4
      (first | rw [c4b0] | (simp only [i64_w, i32_w]; rw [c4b0]) | skip)
      by_cases c5 : a0_1 ≥ 0
      · rw [if_pos c5] at H
        have c5b0 : decide (0 ≤ a0_1) = true := decide_eq_true c5; clear c5; have H' := A_0 H; clear H; obtain ⟨hcz6_0, hcz6_1, hcz6_2, hcz6_3, hcz6_4⟩ := blkc5 BK117.out; obtain ⟨hfz6_0, hfz6_1, hfz6_2, hfz6_3, hfz6_4⟩ := blkf5 BK117.out
        go_wp2
        go_meet
        case rel => exact ⟨_, (true), (z_7), H', ⟨z_8⟩, ⟨z_18⟩, ⟨z_19⟩⟩
      · rw [if_neg c5] at H
        have c5b0 : decide (0 ≤ a0_1) = false := decide_eq_false c5; clear c5; have H' := A_0 H; clear H; obtain ⟨hcz7_0, hcz7_1, hcz7_2, hcz7_3, hcz7_4⟩ := blkc5 BK117.out; obtain ⟨hfz7_0, hfz7_1, hfz7_2, hfz7_3, hfz7_4⟩ := blkf5 BK117.out
        go_wp2
        go_meet
        case rel => exact ⟨_, (false), (z_7), H', ⟨z_8⟩, ⟨z_18⟩, ⟨z_19⟩⟩
    · rw [if_neg c4] at H
      have c4b0 : (a0_0 == 1) = false := beq_eq_false_iff_ne.mpr c4; have c4b1 : (a0_0 != 1) = true := bne_iff_ne.mpr c4
      (first | rw [c4b0] | (simp only [i64_w, i32_w]; rw [c4b0]) | skip)
      have H' := A_0 H; clear H; obtain ⟨hcz8_0, hcz8_1, hcz8_2, hcz8_3, hcz8_4⟩ := blkc5 BK117.out; obtain ⟨hfz8_0, hfz8_1, hfz8_2, hfz8_3, hfz8_4⟩ := blkf5 BK117.out
      go_wp2
      go_meet
      case rel => exact ⟨_, ((a0_1 == 0)), (z_7), H', ⟨z_8⟩, ⟨z_18⟩, ⟨z_19⟩⟩
  case rest =>
    clear HC2
    try clear c1
    try clear p2
    try clear c4
    try clear c4b0
    try clear c4b1
    try clear c5
    try clear c5b0
    try clear hcz6_0
    try clear hcz6_1
    try clear hcz6_2
    try clear hcz6_3
    try clear hcz6_4
    try clear hcz7_0
    try clear hcz7_1
    try clear hcz7_2
    try clear hcz7_3
    try clear hcz7_4
    try clear hcz8_0
    try clear hcz8_1
    try clear hcz8_2
    try clear hcz8_3
    try clear hcz8_4
    try clear hfz6_0
    try clear hfz6_1
    try clear hfz6_2
    try clear hfz6_3
    try clear hfz6_4
    try clear hfz7_0
    try clear hfz7_1
    try clear hfz7_2
    try clear hfz7_3
    try clear hfz7_4
    try clear hfz8_0
    try clear hfz8_1
    try clear hfz8_2
    try clear hfz8_3
    try clear hfz8_4
    obtain ⟨kq, x3_1, rfl, HA, HJ1, BK117, HB⟩ := hcut; cases kq with
    | zero => exact absurd HA.out (by simp [tree_fields.j0])
    | succ kj1 =>
      have H := HA.out; clear HA; simp only [tree_fields.j0] at H; have HC9 := A_0 H; clear H; go_upto_region 2 with (fail)
      go_cut [4] (fun v4 wc => ∃ (kq : Nat) (x4_8 : Bool), v4 = .bool x4_8 ∧ Aside0 (tree_fields.j1 kq x3_1 x4_8 a0_0 a0_1 a0_2 a0_3 l0_4 = some r) ∧ Aside0 (kq ≤ kj1) ∧ Aside0 (wc.heap[gb117]? = some (.cells #[.int .i64 a0_0, .int .i64 a0_1, .string a0_2, .int .i64 a0_3, (.slice A0_4 l0_4.length c0_4)] 38 (0, 0))) ∧ Aside0 (Below w.heap.size w wc))
      case first =>
        have H := HC9.out; clear HC9; by_cases c10 : a0_0 = 2
        · rw [if_pos c10] at H
          have c10b0 : (a0_0 == 2) = true := beq_iff_eq.mpr c10; have c10b1 : (a0_0 != 2) = false := bne_eq_false_iff_eq.mpr c10; clear c10
          (first | rw [c10b0] | (simp only [i64_w, i32_w]; rw [c10b0]) | skip)
          replace H := Option.bind_eq_some_iff.mp H; obtain ⟨t118, A110, H⟩ := H; replace H : (if t118 = true then (tree_fields.j1 kj1 x3_1 true a0_0 a0_1 a0_2 a0_3 l0_4) else (tree_fields.j1 kj1 x3_1 false a0_0 a0_1 a0_2 a0_3 l0_4)) = some r := H; have A11 := A_0 A110; clear A110; by_cases c12 : t118 = true
          · subst c12
            have H1 : (tree_fields.j1 kj1 x3_1 true a0_0 a0_1 a0_2 a0_3 l0_4) = some r := z_10; clear H; have H := H1; clear H1; have H' := A_0 H; clear H; obtain ⟨hcz13_0, hcz13_1, hcz13_2, hcz13_3, hcz13_4⟩ := blkc5 BK117.out; obtain ⟨hfz13_0, hfz13_1, hfz13_2, hfz13_3, hfz13_4⟩ := blkf5 BK117.out
            go_wp2_with (first | (go_at_call 119; (with_reducible refine (lex_Name.calls kj1 a0_2 true _ A11.out).mono ?_); rintro e w' ⟨rfl, ⟨nd, rfl⟩⟩))
            go_meet
            case rel => exact ⟨_, (true), (z_7), H', ⟨z_20⟩, ⟨z_18⟩, ⟨z_19⟩⟩
          · replace c12 := Bool.eq_false_iff.mpr c12
            subst c12; have H1 : (tree_fields.j1 kj1 x3_1 false a0_0 a0_1 a0_2 a0_3 l0_4) = some r := z_13; clear H; have H := H1; clear H1; have H' := A_0 H; clear H; obtain ⟨hcz14_0, hcz14_1, hcz14_2, hcz14_3, hcz14_4⟩ := blkc5 BK117.out; obtain ⟨hfz14_0, hfz14_1, hfz14_2, hfz14_3, hfz14_4⟩ := blkf5 BK117.out
            go_wp2_with (first | (go_at_call 119; (with_reducible refine (lex_Name.calls kj1 a0_2 false _ A11.out).mono ?_); rintro e w' ⟨rfl, ⟨nd, rfl⟩⟩))
            go_meet
            case rel => exact ⟨_, (false), (z_7), H', ⟨z_20⟩, ⟨z_18⟩, ⟨z_19⟩⟩
        · rw [if_neg c10] at H
          have c10b0 : (a0_0 == 2) = false := beq_eq_false_iff_ne.mpr c10; have c10b1 : (a0_0 != 2) = true := bne_iff_ne.mpr c10
          (first | rw [c10b0] | (simp only [i64_w, i32_w]; rw [c10b0]) | skip)
          have H' := A_0 H; clear H; obtain ⟨hcz15_0, hcz15_1, hcz15_2, hcz15_3, hcz15_4⟩ := blkc5 BK117.out; obtain ⟨hfz15_0, hfz15_1, hfz15_2, hfz15_3, hfz15_4⟩ := blkf5 BK117.out
          go_wp2
          go_meet
          case rel => exact ⟨_, ((a0_2.toList == ([] : List UInt8))), (z_7), H', ⟨z_20⟩, ⟨z_18⟩, ⟨z_19⟩⟩
      case rest =>
        clear HC9
        try clear c1
        try clear p2
        try clear c4
        try clear c4b0
        try clear c4b1
        try clear c5
        try clear c5b0
        try clear c10
        try clear c10b0
        try clear c10b1
        try clear c12
        try clear c13
        try clear hcz13_0
        try clear hcz13_1
        try clear hcz13_2
        try clear hcz13_3
        try clear hcz13_4
        try clear hcz14_0
        try clear hcz14_1
        try clear hcz14_2
        try clear hcz14_3
        try clear hcz14_4
        try clear hcz15_0
        try clear hcz15_1
        try clear hcz15_2
        try clear hcz15_3
        try clear hcz15_4
        try clear hcz6_0
        try clear hcz6_1
        try clear hcz6_2
        try clear hcz6_3
        try clear hcz6_4
        try clear hcz7_0
        try clear hcz7_1
        try clear hcz7_2
        try clear hcz7_3
        try clear hcz7_4
        try clear hcz8_0
        try clear hcz8_1
        try clear hcz8_2
        try clear hcz8_3
        try clear hcz8_4
        try clear hfz13_0
        try clear hfz13_1
        try clear hfz13_2
        try clear hfz13_3
        try clear hfz13_4
        try clear hfz14_0
        try clear hfz14_1
        try clear hfz14_2
        try clear hfz14_3
        try clear hfz14_4
        try clear hfz15_0
        try clear hfz15_1
        try clear hfz15_2
        try clear hfz15_3
        try clear hfz15_4
        try clear hfz6_0
        try clear hfz6_1
        try clear hfz6_2
        try clear hfz6_3
        try clear hfz6_4
        try clear hfz7_0
        try clear hfz7_1
        try clear hfz7_2
        try clear hfz7_3
        try clear hfz7_4
        try clear hfz8_0
        try clear hfz8_1
        try clear hfz8_2
        try clear hfz8_3
        try clear hfz8_4
        try clear p2
        obtain ⟨kq, x4_8, rfl, HA, HJ8, BK117, HB⟩ := hcut; cases kq with
        | zero => exact absurd HA.out (by simp [tree_fields.j1])
        | succ kj8 =>
          have H := HA.out; clear HA; simp only [tree_fields.j1] at H; by_cases c16 : a0_0 = 4
          · rw [if_pos c16] at H
            have c16b0 : (a0_0 == 4) = true := beq_iff_eq.mpr c16; have c16b1 : (a0_0 != 4) = false := bne_eq_false_iff_eq.mpr c16; clear c16; by_cases c17 : a0_3 ≥ 19
            · rw [if_pos c17] at H
              have c17b0 : decide (19 ≤ a0_3) = true := decide_eq_true c17; clear c17; by_cases c18 : x3_1 = true
              · subst c18
                have H1 : (if x4_8 = true then (some (decide (a0_3 ≤ 21))) else (some false)) = some r := z_10; clear H; have H := H1; clear H1; by_cases c19 : x4_8 = true
                · subst c19
                  have H1 : (some (decide (a0_3 ≤ 21))) = some r := z_10; clear H; have H := H1; clear H1; obtain rfl := Option.some.inj H; obtain ⟨hcz20_0, hcz20_1, hcz20_2, hcz20_3, hcz20_4⟩ := blkc5 BK117.out; obtain ⟨hfz20_0, hfz20_1, hfz20_2, hfz20_3, hfz20_4⟩ := blkf5 BK117.out
                  go_wp2
                  go_ret
                  exact ⟨z_4, z_19⟩
                · replace c19 := Bool.eq_false_iff.mpr c19
                  subst c19; have H1 : (some false) = some r := z_13; clear H; have H := H1; clear H1; obtain rfl := Option.some.inj H; obtain ⟨hcz21_0, hcz21_1, hcz21_2, hcz21_3, hcz21_4⟩ := blkc5 BK117.out; obtain ⟨hfz21_0, hfz21_1, hfz21_2, hfz21_3, hfz21_4⟩ := blkf5 BK117.out
                  go_wp2
                  go_ret
                  exact ⟨z_4, z_19⟩
              · replace c18 := Bool.eq_false_iff.mpr c18
                subst c18; have H1 : (some false) = some r := z_13; clear H; have H := H1; clear H1; obtain rfl := Option.some.inj H; obtain ⟨hcz22_0, hcz22_1, hcz22_2, hcz22_3, hcz22_4⟩ := blkc5 BK117.out; obtain ⟨hfz22_0, hfz22_1, hfz22_2, hfz22_3, hfz22_4⟩ := blkf5 BK117.out
                go_wp2
                go_ret
                exact ⟨z_4, z_19⟩
            · rw [if_neg c17] at H
              have c17b0 : decide (19 ≤ a0_3) = false := decide_eq_false c17; clear c17; by_cases c23 : x3_1 = true
              · subst c23
                have H1 : (if x4_8 = true then (some false) else (some false)) = some r := z_10; clear H; have H := H1; clear H1; by_cases c24 : x4_8 = true
                · subst c24
                  have H1 : (some false) = some r := z_10; clear H; have H := H1; clear H1; obtain rfl := Option.some.inj H; obtain ⟨hcz25_0, hcz25_1, hcz25_2, hcz25_3, hcz25_4⟩ := blkc5 BK117.out; obtain ⟨hfz25_0, hfz25_1, hfz25_2, hfz25_3, hfz25_4⟩ := blkf5 BK117.out
                  go_wp2
                  go_ret
                  exact ⟨z_4, z_19⟩
                · replace c24 := Bool.eq_false_iff.mpr c24
                  subst c24; have H1 : (some false) = some r := z_13; clear H; have H := H1; clear H1; obtain rfl := Option.some.inj H; obtain ⟨hcz26_0, hcz26_1, hcz26_2, hcz26_3, hcz26_4⟩ := blkc5 BK117.out; obtain ⟨hfz26_0, hfz26_1, hfz26_2, hfz26_3, hfz26_4⟩ := blkf5 BK117.out
                  go_wp2
                  go_ret
                  exact ⟨z_4, z_19⟩
              · replace c23 := Bool.eq_false_iff.mpr c23
                subst c23; have H1 : (some false) = some r := z_13; clear H; have H := H1; clear H1; obtain rfl := Option.some.inj H; obtain ⟨hcz27_0, hcz27_1, hcz27_2, hcz27_3, hcz27_4⟩ := blkc5 BK117.out; obtain ⟨hfz27_0, hfz27_1, hfz27_2, hfz27_3, hfz27_4⟩ := blkf5 BK117.out
                go_wp2
                go_ret
                exact ⟨z_4, z_19⟩
          · rw [if_neg c16] at H
            have c16b0 : (a0_0 == 4) = false := beq_eq_false_iff_ne.mpr c16; have c16b1 : (a0_0 != 4) = true := bne_iff_ne.mpr c16; by_cases c28 : a0_0 = 5
            · rw [if_pos c28] at H
              have c28b0 : (a0_0 == 5) = true := beq_iff_eq.mpr c28; have c28b1 : (a0_0 != 5) = false := bne_eq_false_iff_eq.mpr c28; clear c28; by_cases c29 : a0_3 ≥ 1
              · rw [if_pos c29] at H
                have c29b0 : decide (1 ≤ a0_3) = true := decide_eq_true c29; clear c29; by_cases c30 : x3_1 = true
                · subst c30
                  have H1 : (if x4_8 = true then (some (decide (a0_3 ≤ 18))) else (some false)) = some r := z_10; clear H; have H := H1; clear H1; by_cases c31 : x4_8 = true
                  · subst c31
                    have H1 : (some (decide (a0_3 ≤ 18))) = some r := z_10; clear H; have H := H1; clear H1; obtain rfl := Option.some.inj H; obtain ⟨hcz32_0, hcz32_1, hcz32_2, hcz32_3, hcz32_4⟩ := blkc5 BK117.out; obtain ⟨hfz32_0, hfz32_1, hfz32_2, hfz32_3, hfz32_4⟩ := blkf5 BK117.out
                    go_wp2
                    go_ret
                    exact ⟨z_4, z_19⟩
                  · replace c31 := Bool.eq_false_iff.mpr c31
                    subst c31; have H1 : (some false) = some r := z_13; clear H; have H := H1; clear H1; obtain rfl := Option.some.inj H; obtain ⟨hcz33_0, hcz33_1, hcz33_2, hcz33_3, hcz33_4⟩ := blkc5 BK117.out; obtain ⟨hfz33_0, hfz33_1, hfz33_2, hfz33_3, hfz33_4⟩ := blkf5 BK117.out
                    go_wp2
                    go_ret
                    exact ⟨z_4, z_19⟩
                · replace c30 := Bool.eq_false_iff.mpr c30
                  subst c30; have H1 : (some false) = some r := z_13; clear H; have H := H1; clear H1; obtain rfl := Option.some.inj H; obtain ⟨hcz34_0, hcz34_1, hcz34_2, hcz34_3, hcz34_4⟩ := blkc5 BK117.out; obtain ⟨hfz34_0, hfz34_1, hfz34_2, hfz34_3, hfz34_4⟩ := blkf5 BK117.out
                  go_wp2
                  go_ret
                  exact ⟨z_4, z_19⟩
              · rw [if_neg c29] at H
                have c29b0 : decide (1 ≤ a0_3) = false := decide_eq_false c29; clear c29; by_cases c35 : x3_1 = true
                · subst c35
                  have H1 : (if x4_8 = true then (some false) else (some false)) = some r := z_10; clear H; have H := H1; clear H1; by_cases c36 : x4_8 = true
                  · subst c36
                    have H1 : (some false) = some r := z_10; clear H; have H := H1; clear H1; obtain rfl := Option.some.inj H; obtain ⟨hcz37_0, hcz37_1, hcz37_2, hcz37_3, hcz37_4⟩ := blkc5 BK117.out; obtain ⟨hfz37_0, hfz37_1, hfz37_2, hfz37_3, hfz37_4⟩ := blkf5 BK117.out
                    go_wp2
                    go_ret
                    exact ⟨z_4, z_19⟩
                  · replace c36 := Bool.eq_false_iff.mpr c36
                    subst c36; have H1 : (some false) = some r := z_13; clear H; have H := H1; clear H1; obtain rfl := Option.some.inj H; obtain ⟨hcz38_0, hcz38_1, hcz38_2, hcz38_3, hcz38_4⟩ := blkc5 BK117.out; obtain ⟨hfz38_0, hfz38_1, hfz38_2, hfz38_3, hfz38_4⟩ := blkf5 BK117.out
                    go_wp2
                    go_ret
                    exact ⟨z_4, z_19⟩
                · replace c35 := Bool.eq_false_iff.mpr c35
                  subst c35; have H1 : (some false) = some r := z_13; clear H; have H := H1; clear H1; obtain rfl := Option.some.inj H; obtain ⟨hcz39_0, hcz39_1, hcz39_2, hcz39_3, hcz39_4⟩ := blkc5 BK117.out; obtain ⟨hfz39_0, hfz39_1, hfz39_2, hfz39_3, hfz39_4⟩ := blkf5 BK117.out
                  go_wp2
                  go_ret
                  exact ⟨z_4, z_19⟩
            · rw [if_neg c28] at H
              have c28b0 : (a0_0 == 5) = false := beq_eq_false_iff_ne.mpr c28; have c28b1 : (a0_0 != 5) = true := bne_iff_ne.mpr c28; by_cases c40 : x3_1 = true
              · subst c40
                have H1 : (if x4_8 = true then (some (a0_3 == 0)) else (some false)) = some r := z_10; clear H; have H := H1; clear H1; by_cases c41 : x4_8 = true
                · subst c41
                  have H1 : (some (a0_3 == 0)) = some r := z_10; clear H; have H := H1; clear H1; obtain rfl := Option.some.inj H; obtain ⟨hcz42_0, hcz42_1, hcz42_2, hcz42_3, hcz42_4⟩ := blkc5 BK117.out; obtain ⟨hfz42_0, hfz42_1, hfz42_2, hfz42_3, hfz42_4⟩ := blkf5 BK117.out
                  go_wp2
                  go_ret
                  exact ⟨z_4, z_19⟩
                · replace c41 := Bool.eq_false_iff.mpr c41
                  subst c41; have H1 : (some false) = some r := z_13; clear H; have H := H1; clear H1; obtain rfl := Option.some.inj H; obtain ⟨hcz43_0, hcz43_1, hcz43_2, hcz43_3, hcz43_4⟩ := blkc5 BK117.out; obtain ⟨hfz43_0, hfz43_1, hfz43_2, hfz43_3, hfz43_4⟩ := blkf5 BK117.out
                  go_wp2
                  go_ret
                  exact ⟨z_4, z_19⟩
              · replace c40 := Bool.eq_false_iff.mpr c40
                subst c40; have H1 : (some false) = some r := z_13; clear H; have H := H1; clear H1; obtain rfl := Option.some.inj H; obtain ⟨hcz44_0, hcz44_1, hcz44_2, hcz44_3, hcz44_4⟩ := blkc5 BK117.out; obtain ⟨hfz44_0, hfz44_1, hfz44_2, hfz44_3, hfz44_4⟩ := blkf5 BK117.out
                go_wp2
                go_ret
                exact ⟨z_4, z_19⟩
end Go.Proofs.Ytobkdmmnbnpemaa.K
