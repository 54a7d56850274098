/- Texts of the claim, one behind the other. -/
import Derived.Test.YtobkdmmnbnpemaaXIB00
import Derived.Lib.Hide
set_option maxHeartbeats 16000000
set_option maxRecDepth 100000
namespace Go.Proofs.Ytobkdmmnbnpemaa.K
open Go.RowKit Go.Proofs.YtobkdmmnbnpemaaW.PrintWords Go.Proofs.YtobkdmmnbnpemaaW.PrintLast Go.Proofs.YtobkdmmnbnpemaaW.PrintMore
attribute [local go_sem] max2_int min2_int max_two min_two max_three min_three max_four min_four
set_option linter.unusedVariables false
set_option linter.unusedSimpArgs false
theorem psz (l : Array UInt8) : (ByteArray.mk l).size = l.size := rfl
def show_piece_in.f (a0_0 : ByteArray) (a0_1 : Int) (a1 : Int) : Option (ByteArray) := if a0_1 < a1 then (if 1 + a0_0.size ≤ 9223372036854775807 then (if ((⟨#[40]⟩ : ByteArray) ++ a0_0).size + 1 ≤ 9223372036854775807 then (some (((⟨#[40]⟩ : ByteArray) ++ a0_0) ++ (⟨#[41]⟩ : ByteArray))) else (none)) else (none)) else (some a0_0)
theorem show_piece_in.calls (a0_0 : ByteArray) (a0_1 : Int) (a1 : Int) (r : ByteArray) (w : World) (h : show_piece_in.f a0_0 a0_1 a1 = some r) :
  Calls Try.prog 68 #[.agg #[.string a0_0, .int .i64 a0_1], .int .i64 a1] w fun e w' => e = .returned (.string r) ∧ Below w.heap.size w w' := by
 have hu70 := Try.underlying70; have HB := A_0 (xbr w.heap.size w); have H : (if a0_1 < a1 then (if 1 + a0_0.size ≤ 9223372036854775807 then (if ((⟨#[40]⟩ : ByteArray) ++ a0_0).size + 1 ≤ 9223372036854775807 then (some (((⟨#[40]⟩ : ByteArray) ++ a0_0) ++ (⟨#[41]⟩ : ByteArray))) else (none)) else (none)) else (some a0_0)) = some r := h; clear h; by_cases c3 : a0_1 < a1
 ·rw [if_pos c3] at H
  have c3b0 := xdt c3; clear c3; by_cases c4 : 1 + a0_0.size ≤ 9223372036854775807
  ·rw [if_pos c4] at H
   have c4b0 := eq_true c4; have c4b1 := xdt c4
   try have c4b2 : (9223372036854775807 < 1 + a0_0.size) = False := eq_false (Nat.not_lt.2 c4)
   by_cases c5 : ((⟨#[40]⟩ : ByteArray) ++ a0_0).size + 1 ≤ 9223372036854775807
   ·rw [if_pos c5] at H
    have c5b0 := eq_true c5; have c5b1 := xdt c5
    try have c5b2 : (9223372036854775807 < ((⟨#[40]⟩ : ByteArray) ++ a0_0).size + 1) = False := eq_false (Nat.not_lt.2 c5)
    have c5b3 := c5b2
    try (simp only [ByteArray.size_append, psz, List.size_toArray, List.length_cons, List.length_nil, Nat.reduceAdd, Nat.zero_add] at c5b3)
    obtain rfl := xsi H
    go_enter Try.func68, Try.ntmps68
    go_wp2_with (first | ((with_reducible refine gate_dst (N := 2) rfl ?_); refine bx #[.string a0_0, .int .i64 a0_1] 70 ?_; intro gb134 hg w6 hbox hb; have BK134 := A_0 (hbox); have GW134 := A_0 ((z_29 : w.heap.size ≤ gb134)); have GE134 := A_0 ((z_29 : w.heap.size ≤ gb134)); replace HB := A_0 (xbs (z_12) hb); clear hb hbox hg; obtain ⟨hcz7_0, hcz7_1⟩ := blkc2 BK134.out; obtain ⟨hfz7_0, hfz7_1⟩ := blkf2 BK134.out))
    go_ret
    exact ⟨z_17, z_33⟩
   ·rw [if_neg c5] at H
    exact z_27
  ·rw [if_neg c4] at H
   exact z_27
 ·rw [if_neg c3] at H
  have c3b0 := xdf c3; clear c3; obtain rfl := xsi H
  go_enter Try.func68, Try.ntmps68
  go_wp2_with (first | ((with_reducible refine gate_dst (N := 2) rfl ?_); refine bx #[.string a0_0, .int .i64 a0_1] 70 ?_; intro gb134 hg w8 hbox hb; have BK134 := A_0 (hbox); have GW134 := A_0 ((z_29 : w.heap.size ≤ gb134)); have GE134 := A_0 ((z_29 : w.heap.size ≤ gb134)); replace HB := A_0 (xbs (z_12) hb); clear hb hbox hg; obtain ⟨hcz9_0, hcz9_1⟩ := blkc2 BK134.out; obtain ⟨hfz9_0, hfz9_1⟩ := blkf2 BK134.out))
  go_ret
  exact ⟨z_17, z_33⟩
def show_two.f (k : Nat) (a0 : Int) (a1_0 : ByteArray) (a1_1 : Int) (a2_0 : ByteArray) (a2_1 : Int) : Option (ByteArray × Int) := if a0 = 17 then (if 4 + a1_0.size ≤ 9223372036854775807 then (if ((⟨#[109, 105, 110, 40]⟩ : ByteArray) ++ a1_0).size + 2 ≤ 9223372036854775807 then (if (((⟨#[109, 105, 110, 40]⟩ : ByteArray) ++ a1_0) ++ (⟨#[44, 32]⟩ : ByteArray)).size + a2_0.size ≤ 9223372036854775807 then (if ((((⟨#[109, 105, 110, 40]⟩ : ByteArray) ++ a1_0) ++ (⟨#[44, 32]⟩ : ByteArray)) ++ a2_0).size + 1 ≤ 9223372036854775807 then (some (((((⟨#[109, 105, 110, 40]⟩ : ByteArray) ++ a1_0) ++ (⟨#[44, 32]⟩ : ByteArray)) ++ a2_0) ++ (⟨#[41]⟩ : ByteArray), 10)) else (none)) else (none)) else (none)) else (none)) else (if a0 = 18 then (if 4 + a1_0.size ≤ 9223372036854775807 then (if ((⟨#[109, 97, 120, 40]⟩ : ByteArray) ++ a1_0).size + 2 ≤ 9223372036854775807 then (if (((⟨#[109, 97, 120, 40]⟩ : ByteArray) ++ a1_0) ++ (⟨#[44, 32]⟩ : ByteArray)).size + a2_0.size ≤ 9223372036854775807 then (if ((((⟨#[109, 97, 120, 40]⟩ : ByteArray) ++ a1_0) ++ (⟨#[44, 32]⟩ : ByteArray)) ++ a2_0).size + 1 ≤ 9223372036854775807 then (some (((((⟨#[109, 97, 120, 40]⟩ : ByteArray) ++ a1_0) ++ (⟨#[44, 32]⟩ : ByteArray)) ++ a2_0) ++ (⟨#[41]⟩ : ByteArray), 10)) else (none)) else (none)) else (none)) else (none)) else ((show_Sign.f k a0).bind fun bt144 => ((show_piece_in.f a1_0 a1_1 bt144.2).bind fun t146 => (if t146.size + 1 ≤ 9223372036854775807 then (if (t146 ++ (⟨#[32]⟩ : ByteArray)).size + bt144.1.size ≤ 9223372036854775807 then (if ((t146 ++ (⟨#[32]⟩ : ByteArray)) ++ bt144.1).size + 1 ≤ 9223372036854775807 then ((show_piece_in.f a2_0 a2_1 (wrap64 (bt144.2 + 1))).bind fun t147 => (if (((t146 ++ (⟨#[32]⟩ : ByteArray)) ++ bt144.1) ++ (⟨#[32]⟩ : ByteArray)).size + t147.size ≤ 9223372036854775807 then (some ((((t146 ++ (⟨#[32]⟩ : ByteArray)) ++ bt144.1) ++ (⟨#[32]⟩ : ByteArray)) ++ t147, bt144.2)) else (none))) else (none)) else (none)) else (none)))))
def show_two.T7 : Bool × List (List Nat × List Nat) := (true, [([], []), ([], []), ([0, 1], [0, 1]), ([2], [2]), ([], []), ([3, 4], [3, 4]), ([5], [5]), ([], []), ([], []), ([8], [8]), ([7, 9, 2], [7, 9]), ([6, 10], [6, 10]), ([], []), ([11, 12], [11, 12]), ([13, 10, 0, 1, 2, 3, 4, 5, 6, 7, 8, 9, 10, 11, 12, 13], [13])])
def show_two.B7 : List Nat := [0, 0, 3, 7, 0, 31, 63, 0, 0, 256, 903, 2047, 0, 8191, 16383]
theorem show_two.tab7 : rtab .any (opsOf Try.f69 7) = show_two.T7 := by kernel_rfl
theorem show_two.bits7 : waitsOk show_two.T7.2 show_two.B7 = true := by kernel_rfl
theorem show_two.calls (k : Nat) (a0 : Int) (a1_0 : ByteArray) (a1_1 : Int) (a2_0 : ByteArray) (a2_1 : Int) (r1 : ByteArray) (r2 : Int) (w : World) (h : show_two.f k a0 a1_0 a1_1 a2_0 a2_1 = some (r1, r2)) :
  Calls Try.prog 69 #[.int .i64 a0, .agg #[.string a1_0, .int .i64 a1_1], .agg #[.string a2_0, .int .i64 a2_1]] w fun e w' => e = .returned (.agg #[.string r1, .int .i64 r2]) ∧ Below w.heap.size w w' := by
 have hu70 := Try.underlying70; have HB := A_0 (xbr w.heap.size w); have H : (if a0 = 17 then (if 4 + a1_0.size ≤ 9223372036854775807 then (if ((⟨#[109, 105, 110, 40]⟩ : ByteArray) ++ a1_0).size + 2 ≤ 9223372036854775807 then (if (((⟨#[109, 105, 110, 40]⟩ : ByteArray) ++ a1_0) ++ (⟨#[44, 32]⟩ : ByteArray)).size + a2_0.size ≤ 9223372036854775807 then (if ((((⟨#[109, 105, 110, 40]⟩ : ByteArray) ++ a1_0) ++ (⟨#[44, 32]⟩ : ByteArray)) ++ a2_0).size + 1 ≤ 9223372036854775807 then (some (((((⟨#[109, 105, 110, 40]⟩ : ByteArray) ++ a1_0) ++ (⟨#[44, 32]⟩ : ByteArray)) ++ a2_0) ++ (⟨#[41]⟩ : ByteArray), 10)) else (none)) else (none)) else (none)) else (none)) else (if a0 = 18 then (if 4 + a1_0.size ≤ 9223372036854775807 then (if ((⟨#[109, 97, 120, 40]⟩ : ByteArray) ++ a1_0).size + 2 ≤ 9223372036854775807 then (if (((⟨#[109, 97, 120, 40]⟩ : ByteArray) ++ a1_0) ++ (⟨#[44, 32]⟩ : ByteArray)).size + a2_0.size ≤ 9223372036854775807 then (if ((((⟨#[109, 97, 120, 40]⟩ : ByteArray) ++ a1_0) ++ (⟨#[44, 32]⟩ : ByteArray)) ++ a2_0).size + 1 ≤ 9223372036854775807 then (some (((((⟨#[109, 97, 120, 40]⟩ : ByteArray) ++ a1_0) ++ (⟨#[44, 32]⟩ : ByteArray)) ++ a2_0) ++ (⟨#[41]⟩ : ByteArray), 10)) else (none)) else (none)) else (none)) else (none)) else ((show_Sign.f k a0).bind fun bt144 => ((show_piece_in.f a1_0 a1_1 bt144.2).bind fun t146 => (if t146.size + 1 ≤ 9223372036854775807 then (if (t146 ++ (⟨#[32]⟩ : ByteArray)).size + bt144.1.size ≤ 9223372036854775807 then (if ((t146 ++ (⟨#[32]⟩ : ByteArray)) ++ bt144.1).size + 1 ≤ 9223372036854775807 then ((show_piece_in.f a2_0 a2_1 (wrap64 (bt144.2 + 1))).bind fun t147 => (if (((t146 ++ (⟨#[32]⟩ : ByteArray)) ++ bt144.1) ++ (⟨#[32]⟩ : ByteArray)).size + t147.size ≤ 9223372036854775807 then (some ((((t146 ++ (⟨#[32]⟩ : ByteArray)) ++ bt144.1) ++ (⟨#[32]⟩ : ByteArray)) ++ t147, bt144.2)) else (none))) else (none)) else (none)) else (none)))))) = some (r1, r2) := h; clear h; by_cases c4 : a0 = 17
 ·rw [if_pos c4] at H
  obtain ⟨c4b0, c4b1⟩ := xbq c4; clear c4; by_cases c5 : 4 + a1_0.size ≤ 9223372036854775807
  ·rw [if_pos c5] at H
   have c5b0 := eq_true c5; have c5b1 := xdt c5
   try have c5b2 : (9223372036854775807 < 4 + a1_0.size) = False := eq_false (Nat.not_lt.2 c5)
   by_cases c6 : ((⟨#[109, 105, 110, 40]⟩ : ByteArray) ++ a1_0).size + 2 ≤ 9223372036854775807
   ·rw [if_pos c6] at H
    have c6b0 := eq_true c6; have c6b1 := xdt c6
    try have c6b2 : (9223372036854775807 < ((⟨#[109, 105, 110, 40]⟩ : ByteArray) ++ a1_0).size + 2) = False := eq_false (Nat.not_lt.2 c6)
    have c6b3 := c6b2
    try (simp only [ByteArray.size_append, psz, List.size_toArray, List.length_cons, List.length_nil, Nat.reduceAdd, Nat.zero_add] at c6b3)
    by_cases c7 : (((⟨#[109, 105, 110, 40]⟩ : ByteArray) ++ a1_0) ++ (⟨#[44, 32]⟩ : ByteArray)).size + a2_0.size ≤ 9223372036854775807
    ·rw [if_pos c7] at H
     have c7b0 := eq_true c7; have c7b1 := xdt c7
     try have c7b2 : (9223372036854775807 < (((⟨#[109, 105, 110, 40]⟩ : ByteArray) ++ a1_0) ++ (⟨#[44, 32]⟩ : ByteArray)).size + a2_0.size) = False := eq_false (Nat.not_lt.2 c7)
     have c7b3 := c7b2
     try (simp only [ByteArray.size_append, psz, List.size_toArray, List.length_cons, List.length_nil, Nat.reduceAdd, Nat.zero_add] at c7b3)
     by_cases c8 : ((((⟨#[109, 105, 110, 40]⟩ : ByteArray) ++ a1_0) ++ (⟨#[44, 32]⟩ : ByteArray)) ++ a2_0).size + 1 ≤ 9223372036854775807
     ·rw [if_pos c8] at H
      have c8b0 := eq_true c8; have c8b1 := xdt c8
      try have c8b2 : (9223372036854775807 < ((((⟨#[109, 105, 110, 40]⟩ : ByteArray) ++ a1_0) ++ (⟨#[44, 32]⟩ : ByteArray)) ++ a2_0).size + 1) = False := eq_false (Nat.not_lt.2 c8)
      have c8b3 := c8b2
      try (simp only [ByteArray.size_append, psz, List.size_toArray, List.length_cons, List.length_nil, Nat.reduceAdd, Nat.zero_add] at c8b3)
      simp only [Option.some.injEq, Prod.mk.injEq] at H; obtain ⟨rfl, rfl⟩ := H
      go_enter Try.func69, Try.ntmps69
      go_wp2_with (first | ((with_reducible refine gate_dst (N := 4) rfl ?_); refine bx #[.string a1_0, .int .i64 a1_1] 70 ?_; intro gb141 hg w9 hbox hb; have BK141 := A_0 (hbox); have GW141 := A_0 ((z_29 : w.heap.size ≤ gb141)); have GE141 := A_0 ((z_29 : w.heap.size ≤ gb141)); replace HB := A_0 (xbs (z_12) hb); clear hb hbox hg) | ((with_reducible refine gate_dst (N := 5) rfl ?_); refine bx #[.string a2_0, .int .i64 a2_1] 70 ?_; intro gb142 hg w10 hbox hb; have BK142 := A_0 (hbox); have GW142 := A_0 ((z_34 : w.heap.size ≤ gb142)); have GE142 := A_0 ((z_34 : w.heap.size ≤ gb142)); replace HB := A_0 (xbs (z_35) hb); have NB141_142 := A_0 ((z_36 : gb141 ≠ gb142)); have NB142_141 := A_0 ((z_37 : gb142 ≠ gb141)); replace BK141 := A_0 (blk_below (g := gb141) (o := .cells #[.string a1_0, .int .i64 a1_1] 70 (0, 0)) (z_38) hb); clear hb hbox hg) | ((with_reducible refine gate_dst (N := 6) rfl ?_); refine bx #[.string (⟨#[]⟩ : ByteArray), .int .i64 0] 70 ?_; intro gb143 hg w11 hbox hb; have BK143 := A_0 (hbox); have GW143 := A_0 ((z_39 : w.heap.size ≤ gb143)); have GE143 := A_0 ((z_39 : w.heap.size ≤ gb143)); replace HB := A_0 (xbs (z_40) hb); have NB141_143 := A_0 ((z_36 : gb141 ≠ gb143)); have NB143_141 := A_0 ((z_37 : gb143 ≠ gb141)); replace BK141 := A_0 (blk_below (g := gb141) (o := .cells #[.string a1_0, .int .i64 a1_1] 70 (0, 0)) (z_38) hb); have NB142_143 := A_0 ((z_41 : gb142 ≠ gb143)); have NB143_142 := A_0 ((z_42 : gb143 ≠ gb142)); replace BK142 := A_0 (blk_below (g := gb142) (o := .cells #[.string a2_0, .int .i64 a2_1] 70 (0, 0)) (z_43) hb); clear hb hbox hg; have hnb12 := NB141_142.out; have hnc12 := NB142_141.out; have hnb13 := NB141_143.out; have hnc13 := NB143_141.out; obtain ⟨hcz14_0, hcz14_1⟩ := blkc2 BK141.out; obtain ⟨hfz14_0, hfz14_1⟩ := blkf2 BK141.out; have hnb15 := NB142_143.out; have hnc15 := NB143_142.out; obtain ⟨hcz16_0, hcz16_1⟩ := blkc2 BK142.out; obtain ⟨hfz16_0, hfz16_1⟩ := blkf2 BK142.out; obtain ⟨hcz17_0, hcz17_1⟩ := blkc2 BK143.out; obtain ⟨hfz17_0, hfz17_1⟩ := blkf2 BK143.out))
      refine bodyPost_ret (results_cell_row rfl _ _ gb143 70 #[.string (((((⟨#[109, 105, 110, 40]⟩ : ByteArray) ++ a1_0) ++ (⟨#[44, 32]⟩ : ByteArray)) ++ a2_0) ++ (⟨#[41]⟩ : ByteArray)), .int .i64 10] (0, 0) _ rfl (z_44) Try.underlying70 rfl (by kernel_rfl)) rfl ?_
      exact ⟨z_17, z_45⟩
     ·rw [if_neg c8] at H
      exact z_27
    ·rw [if_neg c7] at H
     exact z_27
   ·rw [if_neg c6] at H
    exact z_27
  ·rw [if_neg c5] at H
   exact z_27
 ·rw [if_neg c4] at H
  obtain ⟨c4b0, c4b1⟩ := xnq c4; by_cases c18 : a0 = 18
  ·rw [if_pos c18] at H
   obtain ⟨c18b0, c18b1⟩ := xbq c18; clear c18; by_cases c19 : 4 + a1_0.size ≤ 9223372036854775807
   ·rw [if_pos c19] at H
    have c19b0 := eq_true c19; have c19b1 := xdt c19
    try have c19b2 : (9223372036854775807 < 4 + a1_0.size) = False := eq_false (Nat.not_lt.2 c19)
    by_cases c20 : ((⟨#[109, 97, 120, 40]⟩ : ByteArray) ++ a1_0).size + 2 ≤ 9223372036854775807
    ·rw [if_pos c20] at H
     have c20b0 := eq_true c20; have c20b1 := xdt c20
     try have c20b2 : (9223372036854775807 < ((⟨#[109, 97, 120, 40]⟩ : ByteArray) ++ a1_0).size + 2) = False := eq_false (Nat.not_lt.2 c20)
     have c20b3 := c20b2
     try (simp only [ByteArray.size_append, psz, List.size_toArray, List.length_cons, List.length_nil, Nat.reduceAdd, Nat.zero_add] at c20b3)
     by_cases c21 : (((⟨#[109, 97, 120, 40]⟩ : ByteArray) ++ a1_0) ++ (⟨#[44, 32]⟩ : ByteArray)).size + a2_0.size ≤ 9223372036854775807
     ·rw [if_pos c21] at H
      have c21b0 := eq_true c21; have c21b1 := xdt c21
      try have c21b2 : (9223372036854775807 < (((⟨#[109, 97, 120, 40]⟩ : ByteArray) ++ a1_0) ++ (⟨#[44, 32]⟩ : ByteArray)).size + a2_0.size) = False := eq_false (Nat.not_lt.2 c21)
      have c21b3 := c21b2
      try (simp only [ByteArray.size_append, psz, List.size_toArray, List.length_cons, List.length_nil, Nat.reduceAdd, Nat.zero_add] at c21b3)
      by_cases c22 : ((((⟨#[109, 97, 120, 40]⟩ : ByteArray) ++ a1_0) ++ (⟨#[44, 32]⟩ : ByteArray)) ++ a2_0).size + 1 ≤ 9223372036854775807
      ·rw [if_pos c22] at H
       have c22b0 := eq_true c22; have c22b1 := xdt c22
       try have c22b2 : (9223372036854775807 < ((((⟨#[109, 97, 120, 40]⟩ : ByteArray) ++ a1_0) ++ (⟨#[44, 32]⟩ : ByteArray)) ++ a2_0).size + 1) = False := eq_false (Nat.not_lt.2 c22)
       have c22b3 := c22b2
       try (simp only [ByteArray.size_append, psz, List.size_toArray, List.length_cons, List.length_nil, Nat.reduceAdd, Nat.zero_add] at c22b3)
       simp only [Option.some.injEq, Prod.mk.injEq] at H; obtain ⟨rfl, rfl⟩ := H
       go_enter Try.func69, Try.ntmps69
       go_wp2_with (first | ((with_reducible refine gate_dst (N := 4) rfl ?_); refine bx #[.string a1_0, .int .i64 a1_1] 70 ?_; intro gb141 hg w23 hbox hb; have BK141 := A_0 (hbox); have GW141 := A_0 ((z_29 : w.heap.size ≤ gb141)); have GE141 := A_0 ((z_29 : w.heap.size ≤ gb141)); replace HB := A_0 (xbs (z_12) hb); clear hb hbox hg) | ((with_reducible refine gate_dst (N := 5) rfl ?_); refine bx #[.string a2_0, .int .i64 a2_1] 70 ?_; intro gb142 hg w24 hbox hb; have BK142 := A_0 (hbox); have GW142 := A_0 ((z_34 : w.heap.size ≤ gb142)); have GE142 := A_0 ((z_34 : w.heap.size ≤ gb142)); replace HB := A_0 (xbs (z_35) hb); have NB141_142 := A_0 ((z_36 : gb141 ≠ gb142)); have NB142_141 := A_0 ((z_37 : gb142 ≠ gb141)); replace BK141 := A_0 (blk_below (g := gb141) (o := .cells #[.string a1_0, .int .i64 a1_1] 70 (0, 0)) (z_38) hb); clear hb hbox hg) | ((with_reducible refine gate_dst (N := 6) rfl ?_); refine bx #[.string (⟨#[]⟩ : ByteArray), .int .i64 0] 70 ?_; intro gb143 hg w25 hbox hb; have BK143 := A_0 (hbox); have GW143 := A_0 ((z_39 : w.heap.size ≤ gb143)); have GE143 := A_0 ((z_39 : w.heap.size ≤ gb143)); replace HB := A_0 (xbs (z_40) hb); have NB141_143 := A_0 ((z_36 : gb141 ≠ gb143)); have NB143_141 := A_0 ((z_37 : gb143 ≠ gb141)); replace BK141 := A_0 (blk_below (g := gb141) (o := .cells #[.string a1_0, .int .i64 a1_1] 70 (0, 0)) (z_38) hb); have NB142_143 := A_0 ((z_41 : gb142 ≠ gb143)); have NB143_142 := A_0 ((z_42 : gb143 ≠ gb142)); replace BK142 := A_0 (blk_below (g := gb142) (o := .cells #[.string a2_0, .int .i64 a2_1] 70 (0, 0)) (z_43) hb); clear hb hbox hg; have hnb26 := NB141_142.out; have hnc26 := NB142_141.out; have hnb27 := NB141_143.out; have hnc27 := NB143_141.out; obtain ⟨hcz28_0, hcz28_1⟩ := blkc2 BK141.out; obtain ⟨hfz28_0, hfz28_1⟩ := blkf2 BK141.out; have hnb29 := NB142_143.out; have hnc29 := NB143_142.out; obtain ⟨hcz30_0, hcz30_1⟩ := blkc2 BK142.out; obtain ⟨hfz30_0, hfz30_1⟩ := blkf2 BK142.out; obtain ⟨hcz31_0, hcz31_1⟩ := blkc2 BK143.out; obtain ⟨hfz31_0, hfz31_1⟩ := blkf2 BK143.out))
       refine bodyPost_ret (results_cell_row rfl _ _ gb143 70 #[.string (((((⟨#[109, 97, 120, 40]⟩ : ByteArray) ++ a1_0) ++ (⟨#[44, 32]⟩ : ByteArray)) ++ a2_0) ++ (⟨#[41]⟩ : ByteArray)), .int .i64 10] (0, 0) _ rfl (z_44) Try.underlying70 rfl (by kernel_rfl)) rfl ?_
       exact ⟨z_17, z_45⟩
      ·rw [if_neg c22] at H
       exact z_27
     ·rw [if_neg c21] at H
      exact z_27
    ·rw [if_neg c20] at H
     exact z_27
   ·rw [if_neg c19] at H
    exact z_27
  ·rw [if_neg c18] at H
   obtain ⟨c18b0, c18b1⟩ := xnq c18; replace H := Option.bind_eq_some_iff.mp H; obtain ⟨⟨t144, t145⟩, A320, H⟩ := H; replace H : ((show_piece_in.f a1_0 a1_1 t145).bind fun t146 => (if t146.size + 1 ≤ 9223372036854775807 then (if (t146 ++ (⟨#[32]⟩ : ByteArray)).size + t144.size ≤ 9223372036854775807 then (if ((t146 ++ (⟨#[32]⟩ : ByteArray)) ++ t144).size + 1 ≤ 9223372036854775807 then ((show_piece_in.f a2_0 a2_1 (wrap64 (t145 + 1))).bind fun t147 => (if (((t146 ++ (⟨#[32]⟩ : ByteArray)) ++ t144) ++ (⟨#[32]⟩ : ByteArray)).size + t147.size ≤ 9223372036854775807 then (some ((((t146 ++ (⟨#[32]⟩ : ByteArray)) ++ t144) ++ (⟨#[32]⟩ : ByteArray)) ++ t147, t145)) else (none))) else (none)) else (none)) else (none))) = some (r1, r2) := H; have A32 := A_0 A320; clear A320; replace H := Option.bind_eq_some_iff.mp H; obtain ⟨t146, A330, H⟩ := H; replace H : (if t146.size + 1 ≤ 9223372036854775807 then (if (t146 ++ (⟨#[32]⟩ : ByteArray)).size + t144.size ≤ 9223372036854775807 then (if ((t146 ++ (⟨#[32]⟩ : ByteArray)) ++ t144).size + 1 ≤ 9223372036854775807 then ((show_piece_in.f a2_0 a2_1 (wrap64 (t145 + 1))).bind fun t147 => (if (((t146 ++ (⟨#[32]⟩ : ByteArray)) ++ t144) ++ (⟨#[32]⟩ : ByteArray)).size + t147.size ≤ 9223372036854775807 then (some ((((t146 ++ (⟨#[32]⟩ : ByteArray)) ++ t144) ++ (⟨#[32]⟩ : ByteArray)) ++ t147, t145)) else (none))) else (none)) else (none)) else (none)) = some (r1, r2) := H; have A33 := A_0 A330; clear A330; by_cases c34 : t146.size + 1 ≤ 9223372036854775807
   ·rw [if_pos c34] at H
    have c34b0 := eq_true c34; have c34b1 := xdt c34
    try have c34b2 : (9223372036854775807 < t146.size + 1) = False := eq_false (Nat.not_lt.2 c34)
    by_cases c35 : (t146 ++ (⟨#[32]⟩ : ByteArray)).size + t144.size ≤ 9223372036854775807
    ·rw [if_pos c35] at H
     have c35b0 := eq_true c35; have c35b1 := xdt c35
     try have c35b2 : (9223372036854775807 < (t146 ++ (⟨#[32]⟩ : ByteArray)).size + t144.size) = False := eq_false (Nat.not_lt.2 c35)
     have c35b3 := c35b2
     try (simp only [ByteArray.size_append, psz, List.size_toArray, List.length_cons, List.length_nil, Nat.reduceAdd, Nat.zero_add] at c35b3)
     by_cases c36 : ((t146 ++ (⟨#[32]⟩ : ByteArray)) ++ t144).size + 1 ≤ 9223372036854775807
     ·rw [if_pos c36] at H
      have c36b0 := eq_true c36; have c36b1 := xdt c36
      try have c36b2 : (9223372036854775807 < ((t146 ++ (⟨#[32]⟩ : ByteArray)) ++ t144).size + 1) = False := eq_false (Nat.not_lt.2 c36)
      have c36b3 := c36b2
      try (simp only [ByteArray.size_append, psz, List.size_toArray, List.length_cons, List.length_nil, Nat.reduceAdd, Nat.zero_add] at c36b3)
      replace H := Option.bind_eq_some_iff.mp H; obtain ⟨t147, A370, H⟩ := H; replace H : (if (((t146 ++ (⟨#[32]⟩ : ByteArray)) ++ t144) ++ (⟨#[32]⟩ : ByteArray)).size + t147.size ≤ 9223372036854775807 then (some ((((t146 ++ (⟨#[32]⟩ : ByteArray)) ++ t144) ++ (⟨#[32]⟩ : ByteArray)) ++ t147, t145)) else (none)) = some (r1, r2) := H; have A37 := A_0 A370; clear A370; by_cases c38 : (((t146 ++ (⟨#[32]⟩ : ByteArray)) ++ t144) ++ (⟨#[32]⟩ : ByteArray)).size + t147.size ≤ 9223372036854775807
      ·rw [if_pos c38] at H
       have c38b0 := eq_true c38; have c38b1 := xdt c38
       try have c38b2 : (9223372036854775807 < (((t146 ++ (⟨#[32]⟩ : ByteArray)) ++ t144) ++ (⟨#[32]⟩ : ByteArray)).size + t147.size) = False := eq_false (Nat.not_lt.2 c38)
       have c38b3 := c38b2
       try (simp only [ByteArray.size_append, psz, List.size_toArray, List.length_cons, List.length_nil, Nat.reduceAdd, Nat.zero_add] at c38b3)
       simp only [Option.some.injEq, Prod.mk.injEq] at H; obtain ⟨rfl, rfl⟩ := H
       go_enter Try.func69, Try.ntmps69
       try go_wp2_with (first | ((with_reducible refine gate_dst (N := 4) rfl ?_); refine bx #[.string a1_0, .int .i64 a1_1] 70 ?_; intro gb141 hg w39 hbox hb; have BK141 := A_0 (hbox); have GW141 := A_0 ((z_29 : w.heap.size ≤ gb141)); have GE141 := A_0 ((z_29 : w.heap.size ≤ gb141)); replace HB := A_0 (xbs (z_12) hb); clear hb hbox hg) | ((with_reducible refine gate_dst (N := 5) rfl ?_); refine bx #[.string a2_0, .int .i64 a2_1] 70 ?_; intro gb142 hg w40 hbox hb; have BK142 := A_0 (hbox); have GW142 := A_0 ((z_34 : w.heap.size ≤ gb142)); have GE142 := A_0 ((z_34 : w.heap.size ≤ gb142)); replace HB := A_0 (xbs (z_35) hb); have NB141_142 := A_0 ((z_36 : gb141 ≠ gb142)); have NB142_141 := A_0 ((z_37 : gb142 ≠ gb141)); replace BK141 := A_0 (blk_below (g := gb141) (o := .cells #[.string a1_0, .int .i64 a1_1] 70 (0, 0)) (z_38) hb); clear hb hbox hg) | ((with_reducible refine gate_dst (N := 6) rfl ?_); refine bx #[.string (⟨#[]⟩ : ByteArray), .int .i64 0] 70 ?_; intro gb143 hg w41 hbox hb; have BK143 := A_0 (hbox); have GW143 := A_0 ((z_39 : w.heap.size ≤ gb143)); have GE143 := A_0 ((z_39 : w.heap.size ≤ gb143)); replace HB := A_0 (xbs (z_40) hb); have NB141_143 := A_0 ((z_36 : gb141 ≠ gb143)); have NB143_141 := A_0 ((z_37 : gb143 ≠ gb141)); replace BK141 := A_0 (blk_below (g := gb141) (o := .cells #[.string a1_0, .int .i64 a1_1] 70 (0, 0)) (z_38) hb); have NB142_143 := A_0 ((z_41 : gb142 ≠ gb143)); have NB143_142 := A_0 ((z_42 : gb143 ≠ gb142)); replace BK142 := A_0 (blk_below (g := gb142) (o := .cells #[.string a2_0, .int .i64 a2_1] 70 (0, 0)) (z_43) hb); clear hb hbox hg) | ((with_reducible refine gate_callee (f := 19) rfl ?_); refine goesL_ (some 34) rfl rfl Try.func19 (by kernel_rfl) rfl #[.int .i64 a0] rfl (z_28) ?_; (with_reducible refine (show_Sign.calls k a0 t144 t145 _ A32.out).mono ?_); rintro e w42 ⟨rfl, hb⟩; refine ⟨_, rfl, ?_⟩; replace BK141 := A_0 (blk_below (g := gb141) (o := .cells #[.string a1_0, .int .i64 a1_1] 70 (0, 0)) (z_38) hb); replace BK142 := A_0 (blk_below (g := gb142) (o := .cells #[.string a2_0, .int .i64 a2_1] 70 (0, 0)) (z_43) hb); replace BK143 := A_0 (blk_below (g := gb143) (o := .cells #[.string (⟨#[]⟩ : ByteArray), .int .i64 0] 70 (0, 0)) (z_46) hb); replace HB := A_0 (xbs (z_45) hb); (try clear hb); (try clear hb2); (try clear hk); (try clear hi)))
       replace BK141 := A_0 (blk_drew BK141.out); replace BK142 := A_0 (blk_drew BK142.out); replace BK143 := A_0 (blk_drew BK143.out); replace HB := A_0 (below_drew1 HB.out); refine start_ (n := 15) (S := fun w' => w'.cell? ⟨gb141, 0, none⟩ = some (.string a1_0) ∧ w'.cell? ⟨gb141, 1, none⟩ = some (.int .i64 a1_1) ∧ w'.cell? ⟨gb142, 0, none⟩ = some (.string a2_0) ∧ w'.cell? ⟨gb142, 1, none⟩ = some (.int .i64 a2_1)) (ds := []) #[false, false, false, false, false, false, false, false, false, false, false, false, false, false, false] (by kernel_rfl) rfl rfl ⟨(xbc BK141.out 0).trans rfl, (xbc BK141.out 1).trans rfl, (xbc BK142.out 0).trans rfl, (xbc BK142.out 1).trans rfl⟩ (fun hHeld => ?_); refine with_tabW show_two.tab7 show_two.bits7 (fun HT_ HW_ => ?_); generalize w42.drew = w43 at BK141 BK142 BK143 HB hHeld ⊢; refine pure_ (i := 1) (N := some 38) (v := ?_) (a' := ?_) #[false, true, false, false, false, false, false, false, false, false, false, false, false, false, false] rfl rfl (any_of HT_.out (by kernel_rfl)) (fun _ _ _ h => h) (Or.inl ⟨by rfl, ?_⟩) ?_ ?_
       rotate_left
       ·intro w'
        go_simp
        with_reducible rfl
       rotate_left
       ·simp only [Act.put, List.setIfInBounds_toArray, List.set_cons_zero, List.set_cons_succ, i64_w, i32_w]
        rfl
       refine pure_ (i := 4) (N := some 41) (v := ?_) (a' := ?_) #[false, true, false, false, true, false, false, false, false, false, false, false, false, false, false] rfl rfl (any_of HT_.out (by kernel_rfl)) (fun _ _ _ h => h) (Or.inl ⟨by rfl, ?_⟩) ?_ ?_
       rotate_left
       ·intro w'
        go_simp
        with_reducible rfl
       rotate_left
       ·simp only [Act.put, List.setIfInBounds_toArray, List.set_cons_zero, List.set_cons_succ, i64_w, i32_w]
        rfl
       refine pure_ (i := 8) (N := some 45) (v := ?_) (a' := ?_) #[false, true, false, false, true, false, false, false, true, false, false, false, false, false, false] rfl rfl (any_of HT_.out (by kernel_rfl)) (fun _ _ _ h => h) (Or.inl ⟨by rfl, ?_⟩) ?_ ?_
       rotate_left
       ·intro w'
        go_simp
        with_reducible rfl
       rotate_left
       ·simp only [Act.put, List.setIfInBounds_toArray, List.set_cons_zero, List.set_cons_succ, i64_w, i32_w]
        rfl
       refine pure_ (i := 9) (N := some 46) (v := ?_) (a' := ?_) #[false, true, false, false, true, false, false, false, true, true, false, false, false, false, false] rfl rfl (any_of HT_.out (by kernel_rfl)) (fun _ _ _ h => h) (Or.inl ⟨by rfl, ?_⟩) ?_ ?_
       rotate_left
       ·intro w'
        go_simp
        with_reducible rfl
       rotate_left
       ·simp only [Act.put, List.setIfInBounds_toArray, List.set_cons_zero, List.set_cons_succ, i64_w, i32_w]
        rfl
       refine pure_ (i := 12) (N := some 49) (v := ?_) (a' := ?_) #[false, true, false, false, true, false, false, false, true, true, false, false, true, false, false] rfl rfl (any_of HT_.out (by kernel_rfl)) (fun _ _ _ h => h) (Or.inl ⟨by rfl, ?_⟩) ?_ ?_
       rotate_left
       ·intro w'
        go_simp
        with_reducible rfl
       rotate_left
       ·simp only [Act.put, List.setIfInBounds_toArray, List.set_cons_zero, List.set_cons_succ, i64_w, i32_w]
        rfl
       refine take_ (i := 0) (N := some 37) (v := ?_) (a' := ?_) #[true, true, false, false, true, false, false, false, true, true, false, false, true, false, false] rfl rfl (take_ofW HT_.out HW_.out (by kernel_rfl)) (fun _ _ _ h => h) (Or.inl ⟨by rfl, ?_⟩) hHeld ?_ ?_
       rotate_left
       ·rintro w' ⟨s0, s1, s2, s3⟩
        go_simp
        with_reducible rfl
       rotate_left
       ·simp only [Act.put, List.setIfInBounds_toArray, List.set_cons_zero, List.set_cons_succ, i64_w, i32_w]
        rfl
       refine take_ (i := 7) (N := some 44) (v := ?_) (a' := ?_) #[true, true, false, false, true, false, false, true, true, true, false, false, true, false, false] rfl rfl (take_ofW HT_.out HW_.out (by kernel_rfl)) (fun _ _ _ h => h) (Or.inl ⟨by rfl, ?_⟩) hHeld ?_ ?_
       rotate_left
       ·rintro w' ⟨s0, s1, s2, s3⟩
        go_simp
        with_reducible rfl
       rotate_left
       ·simp only [Act.put, List.setIfInBounds_toArray, List.set_cons_zero, List.set_cons_succ, i64_w, i32_w]
        rfl
       refine one_ (i := 2) (N := some 39) #[true, true, true, false, true, false, false, true, true, true, false, false, true, false, false] rfl rfl (one_of HT_.out (by kernel_rfl)) (by decide) (fun K hK => ?_)
       refine goes_ Try.func68 (by kernel_rfl) rfl #[.agg #[.string a1_0, .int .i64 a1_1], .int .i64 t145] (by rfl) rfl rfl (z_28) ?_
       with_reducible refine (show_piece_in.calls a1_0 a1_1 t145 t146 _ A33.out).mono ?_
       rintro e w44 ⟨rfl, hb⟩; refine ⟨_, rfl, ?_⟩; have n0_ := A_0 (blk_below (g := gb141) (o := .cells #[.string a1_0, .int .i64 a1_1] 70 (0, 0)) (z_38) hb); have n1_ := A_0 (blk_below (g := gb142) (o := .cells #[.string a2_0, .int .i64 a2_1] 70 (0, 0)) (z_43) hb); have n2_ := A_0 (blk_below (g := gb143) (o := .cells #[.string (⟨#[]⟩ : ByteArray), .int .i64 0] 70 (0, 0)) (z_46) hb); have n3_ := A_0 (xbs (z_45) hb); clear BK141; clear BK142; clear BK143; clear HB; have BK141 := n0_; have BK142 := n1_; have BK143 := n2_; have HB := n3_; clear n0_ n1_ n2_ n3_
       (try clear hb)
       (try clear hb2)
       (try clear hk)
       (try clear hi)
       refine hK.out _ _ ⟨(xbc BK141.out 0).trans rfl, (xbc BK141.out 1).trans rfl, (xbc BK142.out 0).trans rfl, (xbc BK142.out 1).trans rfl⟩ (fun hHeld => ?_)
       clear hK K; refine norm_ (a' := ?_) ?_ ?_
       rotate_left
       ·show Act.put _ (some 39) _ = _
        simp only [Act.put, List.setIfInBounds_toArray, List.set_cons_zero, List.set_cons_succ, i64_w, i32_w]
        rfl
       refine pure_ (i := 3) (N := some 40) (v := ?_) (a' := ?_) #[true, true, true, true, true, false, false, true, true, true, false, false, true, false, false] rfl rfl (any_of HT_.out (by kernel_rfl)) (fun _ _ _ h => h) (Or.inl ⟨by rfl, ?_⟩) ?_ ?_
       rotate_left
       ·intro w'
        go_simp
        with_reducible rfl
       rotate_left
       ·simp only [Act.put, List.setIfInBounds_toArray, List.set_cons_zero, List.set_cons_succ, i64_w, i32_w]
        rfl
       refine pure_ (i := 5) (N := some 42) (v := ?_) (a' := ?_) #[true, true, true, true, true, true, false, true, true, true, false, false, true, false, false] rfl rfl (any_of HT_.out (by kernel_rfl)) (fun _ _ _ h => h) (Or.inl ⟨by rfl, ?_⟩) ?_ ?_
       rotate_left
       ·intro w'
        go_simp
        with_reducible rfl
       rotate_left
       ·simp only [Act.put, List.setIfInBounds_toArray, List.set_cons_zero, List.set_cons_succ, i64_w, i32_w]
        rfl
       refine pure_ (i := 6) (N := some 43) (v := ?_) (a' := ?_) #[true, true, true, true, true, true, true, true, true, true, false, false, true, false, false] rfl rfl (any_of HT_.out (by kernel_rfl)) (fun _ _ _ h => h) (Or.inl ⟨by rfl, ?_⟩) ?_ ?_
       rotate_left
       ·intro w'
        go_simp
        with_reducible rfl
       rotate_left
       ·simp only [Act.put, List.setIfInBounds_toArray, List.set_cons_zero, List.set_cons_succ, i64_w, i32_w]
        rfl
       refine one_ (i := 10) (N := some 47) #[true, true, true, true, true, true, true, true, true, true, true, false, true, false, false] rfl rfl (one_of HT_.out (by kernel_rfl)) (by decide) (fun K hK => ?_)
       refine goes_ Try.func68 (by kernel_rfl) rfl #[.agg #[.string a2_0, .int .i64 a2_1], .int .i64 (wrap64 (t145 + 1))] (by rfl) rfl rfl (z_28) ?_
       with_reducible refine (show_piece_in.calls a2_0 a2_1 (wrap64 (t145 + 1)) t147 _ A37.out).mono ?_
       rintro e w45 ⟨rfl, hb⟩; refine ⟨_, rfl, ?_⟩; have n0_ := A_0 (blk_below (g := gb141) (o := .cells #[.string a1_0, .int .i64 a1_1] 70 (0, 0)) (z_38) hb); have n1_ := A_0 (blk_below (g := gb142) (o := .cells #[.string a2_0, .int .i64 a2_1] 70 (0, 0)) (z_43) hb); have n2_ := A_0 (blk_below (g := gb143) (o := .cells #[.string (⟨#[]⟩ : ByteArray), .int .i64 0] 70 (0, 0)) (z_46) hb); have n3_ := A_0 (xbs (z_45) hb); clear BK141; clear BK142; clear BK143; clear HB; have BK141 := n0_; have BK142 := n1_; have BK143 := n2_; have HB := n3_; clear n0_ n1_ n2_ n3_
       (try clear hb)
       (try clear hb2)
       (try clear hk)
       (try clear hi)
       refine hK.out _ _ ⟨(xbc BK141.out 0).trans rfl, (xbc BK141.out 1).trans rfl, (xbc BK142.out 0).trans rfl, (xbc BK142.out 1).trans rfl⟩ (fun hHeld => ?_)
       clear hK K; refine norm_ (a' := ?_) ?_ ?_
       rotate_left
       ·show Act.put _ (some 47) _ = _
        simp only [Act.put, List.setIfInBounds_toArray, List.set_cons_zero, List.set_cons_succ, i64_w, i32_w]
        rfl
       refine pure_ (i := 11) (N := some 48) (v := ?_) (a' := ?_) #[true, true, true, true, true, true, true, true, true, true, true, true, true, false, false] rfl rfl (any_of HT_.out (by kernel_rfl)) (fun _ _ _ h => h) (Or.inl ⟨by rfl, ?_⟩) ?_ ?_
       rotate_left
       ·intro w'
        go_simp
        with_reducible rfl
       rotate_left
       ·simp only [Act.put, List.setIfInBounds_toArray, List.set_cons_zero, List.set_cons_succ, i64_w, i32_w]
        rfl
       refine pure_ (i := 13) (N := some 50) (v := ?_) (a' := ?_) #[true, true, true, true, true, true, true, true, true, true, true, true, true, true, false] rfl rfl (any_of HT_.out (by kernel_rfl)) (fun _ _ _ h => h) (Or.inl ⟨by rfl, ?_⟩) ?_ ?_
       rotate_left
       ·intro w'
        go_simp
        with_reducible rfl
       rotate_left
       ·simp only [Act.put, List.setIfInBounds_toArray, List.set_cons_zero, List.set_cons_succ, i64_w, i32_w]
        rfl
       refine one_ (i := 14) (N := none) #[true, true, true, true, true, true, true, true, true, true, true, true, true, true, true] rfl rfl (one_of HT_.out (by kernel_rfl)) (by decide) (fun K hK => ?_)
       have hs46 : w45.cell? ⟨gb143, 0, none⟩ = some (.string (⟨#[]⟩ : ByteArray)) := (xbc BK143.out 0).trans rfl; have hfs46 := xbz BK143.out 0; have hns46_0 := NB141_143.out; have hns46_1 := NB142_143.out; have hms46_0 := NB143_141.out; have hms46_1 := NB143_142.out; have hs47 : w45.cell? ⟨gb143, 1, none⟩ = some (.int .i64 0) := (xbc BK143.out 1).trans rfl; have hfs47 := xbz BK143.out 1; have hns47_0 := NB141_143.out; have hns47_1 := NB142_143.out; have hms47_0 := NB143_141.out; have hms47_1 := NB143_142.out; refine skip_ (w1 := ?_) (by rfl) rfl ?_ ?_
       rotate_left
       ·go_simp
        rfl
       refine hK.out _ _ ⟨((cell_far (p := ⟨gb143, _, none⟩) NB141_143.out _).trans (((cell_far (p := ⟨gb143, _, none⟩) NB141_143.out _).trans (hHeld.1)))), ((cell_far (p := ⟨gb143, _, none⟩) NB141_143.out _).trans (((cell_far (p := ⟨gb143, _, none⟩) NB141_143.out _).trans (hHeld.2.1)))), ((cell_far (p := ⟨gb143, _, none⟩) NB142_143.out _).trans (((cell_far (p := ⟨gb143, _, none⟩) NB142_143.out _).trans (hHeld.2.2.1)))), ((cell_far (p := ⟨gb143, _, none⟩) NB142_143.out _).trans (((cell_far (p := ⟨gb143, _, none⟩) NB142_143.out _).trans (hHeld.2.2.2))))⟩ (fun hHeld => ?_)
       clear hK K; refine done_ (done_of HT_.out (by kernel_rfl)) ?_
       try go_wp2
       refine bodyPost_ret (results_cell_row rfl _ _ gb143 70 #[.string ((((t146 ++ (⟨#[32]⟩ : ByteArray)) ++ t144) ++ (⟨#[32]⟩ : ByteArray)) ++ t147), .int .i64 t145] (0, 0) _ rfl (z_44) Try.underlying70 rfl (by kernel_rfl)) rfl ?_
       exact ⟨z_17, z_45⟩
      ·rw [if_neg c38] at H
       exact z_27
     ·rw [if_neg c36] at H
      exact z_27
    ·rw [if_neg c35] at H
     exact z_27
   ·rw [if_neg c34] at H
    exact z_27
def isDig (c : Int) : Bool := decide (48 ≤ c) && decide (c ≤ 57)
def isLet (c : Int) : Bool := (decide (97 ≤ c) && decide (c ≤ 122)) || (decide (65 ≤ c) && decide (c ≤ 90)) || c == 95
def isAn (c : Int) : Bool := isLet c || isDig c
theorem digit_f (c : Int) : lex_digit.f c = some (isDig c) := by
 unfold lex_digit.f isDig; by_cases h : c ≥ 48
 ·rw [if_pos h, xdt (show 48 ≤ c from h)]; rfl
 ·rw [if_neg h, xdf (show ¬ 48 ≤ c from h)]; rfl
theorem letter_f (c : Int) : lex_letter.f c = some (isLet c) := by
 unfold lex_letter.f isLet; by_cases h : c ≥ 97
 ·rw [if_pos h, xdt (show 97 ≤ c from h)]
  by_cases h2 : c ≤ 122
  ·rw [if_pos h2, xdt h2]; rfl
  ·rw [if_neg h2, xdf h2]
   by_cases h3 : c ≥ 65
   ·rw [if_pos h3, xdt (show 65 ≤ c from h3), if_neg (by omega), xdf (show ¬ c ≤ 90 by omega)]; rfl
   ·omega
 ·rw [if_neg h, xdf (show ¬ 97 ≤ c from h)]
  by_cases h3 : c ≥ 65
  ·rw [if_pos h3, xdt (show 65 ≤ c from h3)]
   by_cases h4 : c ≤ 90
   ·rw [if_pos h4, xdt h4]; rfl
   ·rw [if_neg h4, xdf h4]; rfl
  ·rw [if_neg h3, xdf (show ¬ 65 ≤ c from h3)]; rfl
theorem toList_loop (s : ByteArray) : ∀ r i (acc : List UInt8), i + r = s.size → ByteArray.toList.loop s i acc = acc.reverse ++ s.data.toList.drop i
 | 0, i, acc, h => by
  unfold ByteArray.toList.loop; rw [if_neg (by omega)]; have : s.data.toList.length ≤ i := by rw [data_length]; omega
  rw [List.drop_eq_nil_of_le this, List.append_nil]
 | r + 1, i, acc, h => by
  unfold ByteArray.toList.loop; rw [if_pos (by omega), toList_loop s r (i + 1) _ (by omega)]; have hl : i < s.data.toList.length := by rw [data_length]; omega
  have hs : i < s.data.size := by rw [Array.length_toList] at hl; exact hl
  rw [List.drop_eq_getElem_cons hl, List.reverse_cons, List.append_assoc]
  have e : s.get! i = s.data.toList[i] := by
   show s.data[i]! = _; rw [getElem!_pos s.data i hs]; simp
  rw [e, List.singleton_append]
theorem toList_eq (s : ByteArray) : s.toList = s.data.toList := by
 unfold ByteArray.toList; rw [toList_loop s s.size 0 [] (by omega)]
 rfl
theorem len_toList (s : ByteArray) : s.toList.length = s.size := by rw [toList_eq, data_length]
def c8 (b : UInt8) : Int := (b.toNat : Int)
def lst (s : ByteArray) : List UInt8 := s.data.toList
theorem lst_len (s : ByteArray) : (lst s).length = s.size := data_length s
theorem bt_get (s : ByteArray) (i : Nat) (h : i < (lst s).length) : bt s (i : Int) = c8 (lst s)[i] := by
 have hs : i < s.size := by rw [← lst_len]; exact h
 unfold bt c8; simp only [Int.toNat_natCast]; rw [dif_pos hs]
 rfl
theorem bt_drop {s : ByteArray} {i : Nat} {c : UInt8} {l : List UInt8} (h : (lst s).drop i = c :: l) : i < s.size ∧ bt s (i : Int) = c8 c ∧ (lst s).drop (i + 1) = l := by
 have hl : i < (lst s).length := by
  by_cases q : i < (lst s).length
  ·exact q
  ·rw [List.drop_eq_nil_of_le (by omega)] at h; simp at h
 rw [List.drop_eq_getElem_cons hl] at h; injection h with h1 h2; exact ⟨by rw [← lst_len]; exact hl, by rw [bt_get s i hl, h1], h2⟩
theorem drop_nil {s : ByteArray} {i : Nat} (h : (lst s).drop i = []) (hi : i ≤ s.size) : i = s.size := by
 have := congrArg List.length h; rw [List.length_drop, lst_len] at this; simp at this
 omega
theorem wrap64_nat (i : Nat) (h : i ≤ 140737488351232) : wrap64 ((i : Int) + 1) = ((i + 1 : Nat) : Int) := by unfold wrap64; omega
def digB (b : UInt8) : Bool := isDig (c8 b)
def letB (b : UInt8) : Bool := isLet (c8 b)
def anB (b : UInt8) : Bool := isAn (c8 b)
def bs (l : List UInt8) : ByteArray := ⟨l.toArray⟩
theorem bs_lst (s : ByteArray) : bs (lst s) = s := by unfold bs lst; simp
theorem lst_bs (l : List UInt8) : lst (bs l) = l := by unfold bs lst; simp
theorem bs_size (l : List UInt8) : (bs l).size = l.length := by rw [← lst_len, lst_bs]
theorem bs_toList (l : List UInt8) : (bs l).toList = l := by rw [toList_eq]; exact lst_bs l
theorem lst_extract (s : ByteArray) (i j : Nat) : lst (s.extract i j) = ((lst s).drop i).take (j - i) := by
 unfold lst; rw [ByteArray.data_extract]; simp [List.take_drop]
def wordsB (t : List UInt8) : Bool := t == [118, 97, 114] || (t == [105, 102] || (t == [101, 108, 115, 101] || (t == [119, 104, 105, 108, 101] || (t == [101, 109, 105, 116] || (t == [105, 110, 116, 111] || (t == [102, 97, 105, 108] || (t == [115, 116, 111, 112] || (t == [109] || (t == [109, 105, 110] || (t == [109, 97, 120] || false))))))))))
theorem if_or (t a : List UInt8) (b : Bool) : (if t = a then some true else some b) = some (t == a || b) := by
 by_cases h : t = a
 ·rw [if_pos h, beq_iff_eq.2 h]; rfl
 ·rw [if_neg h, beq_eq_false_iff_ne.2 h]; rfl
theorem words_get (t : List UInt8) : lex_Words.f (bs t) = some (wordsB t) := by
 unfold lex_Words.f wordsB; simp only [bs_toList, if_or]
def nameB (t : List UInt8) : Bool := match t with
 | [] => false
 | c :: l => decide ((c :: l).length ≤ 12) && (letB c && (!wordsB (c :: l) && l.all anB))
theorem name_l0 (s : ByteArray) (hs : s.size ≤ 140737488351232) : ∀ (l : List UInt8) (i : Nat), (lst s).drop i = l → i ≤ s.size → ∃ k, lex_Name.l0 k s (s.size : Int) (i : Int) = some (l.all anB)
 | [], i, h, hi => by
  have e := drop_nil h hi; subst e; exact ⟨1, by rw [lex_Name.l0, if_neg (by omega)]; rfl⟩
 | c :: l, i, h, hi => by
  obtain ⟨h1, h2, h3⟩ := bt_drop h; obtain ⟨k, hk⟩ := name_l0 s hs l (i + 1) h3 (by omega); refine ⟨k + 1, ?_⟩; rw [lex_Name.l0, if_pos (by omega), if_pos (by omega), if_pos (by omega), h2, letter_f, wrap64_nat i (by omega)]; simp only [Option.bind_some]; cases hl : isLet (c8 c) with
  | true =>
   have ha : anB c = true := by unfold anB isAn; rw [hl]; rfl
   rw [if_pos rfl, hk, List.all_cons, ha, Bool.true_and]
  | false =>
   rw [if_neg (by simp), digit_f]; simp only [Option.bind_some]; cases hd : isDig (c8 c) with
   | true =>
    have ha : anB c = true := by unfold anB isAn; rw [hl, hd]; rfl
    rw [if_pos rfl, hk, List.all_cons, ha, Bool.true_and]
   | false =>
    have ha : anB c = false := by unfold anB isAn; rw [hl, hd]; rfl
    rw [if_neg (by simp), List.all_cons, ha, Bool.false_and]
theorem name_ok (s : ByteArray) (hs : s.size ≤ 140737488351232) : ∃ k, lex_Name.f k s = some (nameB (lst s)) := by
 have htl : s.toList = lst s := toList_eq s; have hlen := lst_len s; cases hl : lst s with
 | nil =>
  refine ⟨1, ?_⟩
  unfold lex_Name.f; rw [if_pos (htl.trans hl), lex_Name.j0, if_pos rfl]
  rfl
 | cons c l =>
  obtain ⟨h1, h2, h3⟩ := bt_drop (s := s) (i := 0) (c := c) (l := l) (by rw [List.drop_zero, hl]); obtain ⟨k, hk⟩ := name_l0 s hs (lst s) 0 rfl (Nat.zero_le _); have h2' : bt s 0 = c8 c := h2; have hne : ¬ s.toList = ([] : List UInt8) := by rw [htl, hl]; simp
  have hw : lex_Words.f s = some (wordsB (c :: l)) := by
   have := words_get (lst s); rw [bs_lst] at this; rw [this, hl]
  rw [hl] at hk hlen; have hnb : nameB (c :: l) = (decide ((c :: l).length ≤ 12) && (letB c && (!wordsB (c :: l) && l.all anB))) := rfl; refine ⟨k + 1, ?_⟩; unfold lex_Name.f; rw [if_neg hne, hnb]; by_cases q : (s.size : Int) > 12
  ·rw [if_pos q, lex_Name.j0, if_pos rfl, xdf (show ¬ (c :: l).length ≤ 12 by omega)]
   rfl
  ·rw [if_neg q, if_pos (by omega), h2', letter_f, xdt (show (c :: l).length ≤ 12 by omega)]
   simp only [Option.bind_some, Bool.true_and]; cases hlc : isLet (c8 c) with
   | false =>
    have : letB c = false := hlc; rw [if_neg (by simp), lex_Name.j0, if_pos rfl, this]
    rfl
   | true =>
    have : letB c = true := hlc; have ha : anB c = true := by unfold anB isAn; rw [hlc]; rfl
    rw [if_pos rfl, hw, this]; simp only [Option.bind_some, Bool.true_and]; cases hwb : wordsB (c :: l) with
    | true => rw [lex_Name.j0, if_pos rfl]; rfl
    | false =>
     rw [lex_Name.j0, if_neg (by simp)]; refine (show _ = _ from hk).trans ?_; rw [List.all_cons, ha]
     rfl
def dgB (u : Nat) : UInt8 := UInt8.ofNat (48 + u % 10)
def decR : Nat → Nat → List UInt8 → List UInt8
 | 0, _, ds => ds
 | k + 1, u, ds => if u / 10 = 0 then dgB u :: ds else decR k (u / 10) (dgB u :: ds)
def sizeB (a : Int) : Nat := if a < 0 then ((-a) % 18446744073709551616).toNat else (a % 18446744073709551616).toNat
def textB (a : Int) : List UInt8 := if a < 0 then 45 :: decR 20 (sizeB a) [] else decR 20 (sizeB a) []
theorem size_ok (a : Int) : num_size.f a = some ((sizeB a : Nat) : Int) := by
 unfold num_size.f sizeB; by_cases h : a < 0
 ·rw [if_pos h, if_pos h]
  congr 1
  rw [IntKind.wrap_u64, IntKind.wrap_u64]
  omega
 ·rw [if_neg h, if_neg h]
  congr 1
  rw [IntKind.wrap_u64]
  omega
theorem sizeB_lt (a : Int) : sizeB a < 18446744073709551616 := by
 unfold sizeB; by_cases h : a < 0
 ·rw [if_pos h]; omega
 ·rw [if_neg h]; omega
def cellT (x : Int) (ds : List UInt8) : List Value := List.replicate x.toNat (.int .u8 0) ++ ds.map (fun b => .int .u8 (c8 b))
theorem cellT_put (x : Int) (ds : List UInt8) (c : UInt8) (h : 1 ≤ x) : (cellT x ds).set (x - 1).toNat (.int .u8 (c8 c)) = cellT (x - 1) (c :: ds) := by
 unfold cellT; have e : x.toNat = (x - 1).toNat + 1 := by omega
 rw [e, List.replicate_succ', List.append_assoc, List.set_append_right _ _ (by simp)]; simp
theorem cellT_at (x : Int) (ds : List UInt8) (h : 1 ≤ x) : (cellT x ds)[(x - 1).toNat]? = some (.int .u8 0) := by
 unfold cellT; rw [List.getElem?_append_left (by simp; omega), List.getElem?_replicate, if_pos (by omega)]
theorem cellT_dig (x : Int) (ds : List UInt8) (i : Nat) (h : i < ds.length) : (cellT x ds)[x.toNat + i]? = some (.int .u8 (c8 (ds.getD i 0))) := by
 unfold cellT; rw [List.getElem?_append_right (by simp)]; simp only [List.length_replicate, Nat.add_sub_cancel_left, List.getElem?_map]; rw [List.getElem?_eq_getElem h]; simp [List.getD_eq_getElem?_getD, List.getElem?_eq_getElem h]
theorem c8_dig (u : Int) (h : 0 ≤ u) : c8 (dgB u.toNat) = 48 + u % 10 := by
 unfold c8 dgB; have : (48 + u.toNat % 10) % 256 = 48 + u.toNat % 10 := by omega
 rw [UInt8.toNat_ofNat', this]
 omega
theorem cellT_put1 (y : Int) (ds : List UInt8) (c : UInt8) (h : 0 ≤ y) : (cellT (y + 1) ds).set y.toNat (.int .u8 (c8 c)) = cellT y (c :: ds) := by
 have := cellT_put (y + 1) ds c (by omega); have e : y + 1 - 1 = y := by omega
 rw [e] at this; exact this
theorem cellT_at1 (y : Int) (ds : List UInt8) (h : 0 ≤ y) : (cellT (y + 1) ds)[y.toNat]? = some (.int .u8 0) := by
 have := cellT_at (y + 1) ds (by omega); have e : y + 1 - 1 = y := by omega
 rw [e] at this; exact this
theorem blkT_put {w : World} {g : Nat} {y : Int} {ds : List UInt8} (h : w.heap[g]? = some (.cells (cellT (y + 1) ds).toArray 133 (0, 0))) (h0 : 0 ≤ y) (c : UInt8) (v : Int) (hv : v = c8 c) : (w.setCell ⟨g, y.toNat, none⟩ (.int .u8 v)).heap[g]? = some (.cells (cellT y (c :: ds)).toArray 133 (0, 0)) := by
 subst hv; refine blk_put h y.toNat _ ?_; rw [← cellT_put1 y ds c h0]; simp
theorem slice_133 (g : Nat) (y : Int) (h0 : 0 ≤ y) (h1 : y < 20) (W : World) : (Instr.sliceAt 133 (.pointer (some ⟨g, 0, none⟩)) (some (.int .i64 y)) none none).run Try.prog W = .ok (.slice (some ⟨g, y.toNat, none⟩) (20 - y.toNat) (20 - y.toNat)) W := by
 have hu := Try.underlying133; have hu5 := Try.underlying5; have e1 : Try.prog.arrayLen 133 = 20 := by kernel_rfl
 have e2 : Try.prog.elem 133 = 5 := by kernel_rfl
 have hs : (sizeOf 5).run Try.prog W = .ok 1 W := by kernel_rfl
 have hne : ¬ (20 = y.toNat) := by omega
 have hb : y ≤ (20 : Nat) := by omega
 have := run_sliceAt_array_l (P := Try.prog) W 133 ⟨g, 0, none⟩ (by rw [e1, e2]; exact hu) .i64 y h0 (by rw [e1]; exact hb); rw [this, e1, e2, hs]; simp only [Result.andThen, slicedAt, if_neg hne, Addr.add, Nat.mul_one, Nat.zero_add]; by_cases hz : y.toNat = 0
 ·rw [if_pos hz, hz]
 ·rw [if_neg hz]
theorem conv_133 (g : Nat) (y : Int) (ds : List UInt8) (W : World) (h0 : 0 ≤ y) (hd : y.toNat + ds.length = 20) (h : W.heap[g]? = some (.cells (cellT y ds).toArray 133 (0, 0))) : (convert 62 9 (.slice (some ⟨g, y.toNat, none⟩) (20 - y.toNat) (20 - y.toNat))).run Try.prog W = .ok (.string (bs ds)) W := by
 have hl : (ds.map c8).length = 20 - y.toNat := by rw [List.length_map]; omega
 have := run_convert_bytes_arg (P := Try.prog) W 62 5 Try.underlying62 Try.underlying5 g y.toNat (20 - y.toNat) (20 - y.toNat) (ds.map c8) hl (fun i hi => by
  have hi2 : i < ds.length := by omega
  refine (xbc h _).trans ?_
  have := cellT_dig y ds i hi2; rw [List.getElem?_toArray, this]; simp [List.getD_eq_getElem?_getD, List.getElem?_eq_getElem hi2]) 9 Try.underlying9
 have e : strOfNums (ds.map c8) = bs ds := by
  unfold strOfNums bs; rw [List.map_map]
  have : ds.map ((fun n : Int => UInt8.ofNat n.toNat) ∘ c8) = ds := by
   conv => rhs; rw [← List.map_id ds]
   apply List.map_congr_left
   intro c _; simp [c8]
  rw [this]
 rw [this, e]
def TRel (b : Nat) (R : List UInt8) (w : World) (v4 v5 : Value) (w' : World) : Prop :=
 ∃ (y u : Int) (ds : List UInt8), v4 = .int .i64 (y + 1) ∧ v5 = .int .u64 u ∧ (b : Int) ≤ y ∧ y < 20 ∧ 0 ≤ u ∧ Aside0 (u ≤ 18446744073709551615) ∧ Aside0 (u.toNat < 10 ^ (y + 1 - b).toNat) ∧ Aside0 (y.toNat + 1 + ds.length = 20) ∧ Aside0 (decR (y + 1).toNat u.toNat ds = R) ∧
  Aside0 (w'.heap[w.heap.size]? = some (.cells (cellT (y + 1) ds).toArray 133 (0, 0))) ∧ Aside0 (Below w.heap.size w w')
theorem text_x (a : Int) (w : World) (h1 : a < 0 → sizeB a < 10000000000000000000) :
  Calls Try.prog 60 #[.int .i64 a] w fun e w' => e = .returned (.string (bs (textB a))) ∧ Below w.heap.size w w' := by
 obtain ⟨u0, hu0⟩ : ∃ u0 : Int, u0 = ((sizeB a : Nat) : Int) := ⟨_, rfl⟩; have hs := size_ok a; have hlt := sizeB_lt a; rw [← hu0] at hs; have HS := A_0 hs; have HB := A_0 (xbr w.heap.size w); have hub : 0 ≤ u0 := by omega
 have hu20 : u0.toNat < 10 ^ (20 - ((if a < 0 then 1 else 0 : Nat) : Int)).toNat := by
  rw [hu0, Int.toNat_natCast]; by_cases h : a < 0
  ·rw [if_pos h]
   have : (10 : Nat) ^ (20 - ((1 : Nat) : Int)).toNat = 10000000000000000000 := by decide
   rw [this]; exact h1 h
  ·rw [if_neg h]
   have : (10 : Nat) ^ (20 - ((0 : Nat) : Int)).toNat = 100000000000000000000 := by decide
   rw [this]; omega
 have HU := A_0 hu20; have HUB := A_0 (show u0 ≤ 18446744073709551615 by rw [hu0]; omega)
 have HR := A_0 (show decR (19 + 1 : Int).toNat u0.toNat [] = decR 20 (sizeB a) [] by rw [hu0]; rfl)
 clear hs hu20 hu0 h1 hlt
 go_enter Try.func60, Try.ntmps60
 go_wp2_with fail
 (with_reducible refine (num_size.calls a u0 _ HS.out).mono ?_)
 rintro e w' ⟨rfl, ⟨nd, rfl⟩⟩
 go_wp2
 go_loopw [4, 5] (fun v4 v5 wr => TRel (if a < 0 then 1 else 0) (decR 20 (sizeB a) []) w v4 v5 wr) (fun v4 _ _ => (intOf v4).toNat)
 case atStart =>
  refine ⟨19, u0, [], rfl, rfl, by split <;> omega, by omega, hub, HUB, HU, ⟨rfl⟩, HR, ⟨?_⟩, ⟨pw_below_drewN (below_alloc HB.out _) _⟩⟩
  exact blk_drewN (blk_new w _) _
 case round =>
  unfold TRel at hrel; clear HR HU HUB HB HS; obtain ⟨y, u, ds, rfl, rfl, hx0, hx1, hu, HUB, HU, HD, HR, BK, HB⟩ := hrel; have hy0 : 0 ≤ y := by omega
  have hcz : wr.cell? ⟨w.heap.size, y.toNat, none⟩ = some (.int .u8 0) := (xbc BK.out _).trans (by rw [List.getElem?_toArray]; exact cellT_at1 y ds hy0); have hfz := xbz BK.out y.toNat
  have hdv : IntKind.u64.wrap (u.tdiv 10) = u / 10 := by
   have := HUB.out; rw [Int.tdiv_eq_ediv_of_nonneg hu, IntKind.wrap_u64]
   omega
  have hw8 : IntKind.u8.wrap (48 + u % 10) = 48 + u % 10 := by rw [IntKind.wrap_u8]; omega
  have hc8 := c8_dig u hu; have HC8 := Lib.hid hc8; clear hc8; by_cases hq : u / 10 = 0
  ·have hqb : (u / 10 == 0) = true := beq_iff_eq.2 hq
   have hdr := HR.out; have hyn : (y + 1).toNat = y.toNat + 1 := by omega
   rw [hyn, decR, if_pos (by omega)] at hdr; have HDR := A_0 hdr; have HQ := Lib.hid hq; have BK2 := A_0 (blkT_put BK.out hy0 (dgB u.toNat) (48 + u % 10) HC8.out.symm); clear hq hdr hyn HR; by_cases hneg : a < 0
   ·have hb0 := xdt hneg
    have hy1 : 1 ≤ y := by rw [if_pos hneg] at hx0; omega
    obtain ⟨z, rfl⟩ : ∃ z, y = z + 1 := ⟨y - 1, by omega⟩
    have hz0 : 0 ≤ z := by omega
    have hsl := slice_133 w.heap.size z hz0 (by omega); have BK3 := A_0 (blkT_put BK2.out hz0 45 45 rfl); have hcv := conv_133 w.heap.size z _ _ hz0 (by have := HD.out; simp only [List.length_cons]; omega) BK3.out; have hcz2 : (wr.setCell ⟨w.heap.size, (z + 1).toNat, none⟩ (.int .u8 (48 + u % 10))).cell? ⟨w.heap.size, z.toNat, none⟩ = some (.int .u8 0) := (xbc BK2.out _).trans (by rw [List.getElem?_toArray]; exact cellT_at1 z _ hz0); have hfz2 := xbz BK2.out z.toNat; have hz1 : z < 20 := by omega
    have HN := Lib.hid hneg
    go_wp2
    go_ret
    refine ⟨?_, below_set (below_set HB.out (xlr _)) (xlr _)⟩
    unfold textB; rw [if_pos HN.out, ← HDR.out]
    rfl
   ·have hb0 := xdf hneg
    have hsl := slice_133 w.heap.size y hy0 hx1; have hcv := conv_133 w.heap.size y _ _ hy0 (by have := HD.out; simp only [List.length_cons]; omega) BK2.out; have HN := Lib.hid hneg
    go_wp2
    go_ret
    refine ⟨?_, below_set HB.out (xlr _)⟩
    unfold textB; rw [if_neg (show ¬ a < 0 by have := HN.out; omega), ← HDR.out]
    rfl
  ·have hqb : (u / 10 == 0) = false := beq_eq_false_iff_ne.2 hq
   have hyn : (y + 1).toNat = y.toNat + 1 := by omega
   have hdr := HR.out; rw [hyn, decR, if_neg (by omega)] at hdr; have HDR := A_0 (show decR y.toNat (u / 10).toNat (dgB u.toNat :: ds) = decR 20 (sizeB a) [] by rw [show (u / 10).toNat = u.toNat / 10 by omega]; exact hdr)
   have BK2 := A_0 (blkT_put BK.out hy0 (dgB u.toNat) (48 + u % 10) HC8.out.symm); have hpw : (y + 1 - ((if a < 0 then 1 else 0 : Nat) : Int)).toNat = (y - ((if a < 0 then 1 else 0 : Nat) : Int)).toNat + 1 := by omega
   have hu2 := HU.out; rw [hpw, Nat.pow_succ] at hu2
   have hu3 : (u / 10).toNat < 10 ^ (y - ((if a < 0 then 1 else 0 : Nat) : Int)).toNat := by
    rw [show (u / 10).toNat = u.toNat / 10 by omega]
    exact Nat.div_lt_of_lt_mul (by rw [Nat.mul_comm]; exact hu2)
   have hy2 : ((if a < 0 then 1 else 0 : Nat) : Int) ≤ y - 1 := by
    by_cases hh : ((if a < 0 then 1 else 0 : Nat) : Int) ≤ y - 1
    ·exact hh
    ·exfalso
     rw [show (y - ((if a < 0 then 1 else 0 : Nat) : Int)).toNat = 0 by omega] at hu3
     omega
   obtain ⟨z, rfl⟩ : ∃ z, y = z + 1 := ⟨y - 1, by omega⟩
   have hz0 : ((if a < 0 then 1 else 0 : Nat) : Int) ≤ z := by omega
   have hz1 : z < 20 := by omega
   have HZ := Lib.hid hz0; have HU3 := A_0 hu3; have HD2 := A_0 (show z.toNat + 1 + (dgB u.toNat :: ds).length = 20 by have := HD.out; simp only [List.length_cons]; omega)
   have hu10 : 0 ≤ u / 10 := by omega
   have HU10 := A_0 (show u / 10 ≤ 18446744073709551615 by have := HUB.out; omega)
   clear hdr hpw hu2 hu3 hy2 hyn HR hq hz0 HU
   go_wp2
   go_roundw
   case rel => exact ⟨z, u / 10, dgB u.toNat :: ds, rfl, rfl, HZ.out, hz1, hu10, ⟨HU10.out⟩, HU3, HD2, HDR, ⟨BK2.out⟩, ⟨below_set HB.out (xlr _)⟩⟩
   case measure => simp [intOf]; omega
def num_Text.f (a : Int) : Option ByteArray := if a < 0 ∧ ¬ sizeB a < 10000000000000000000 then none else some (bs (textB a))
theorem num_Text.calls (a0 : Int) (r : ByteArray) (w : World) (h : num_Text.f a0 = some r) : Calls Try.prog 60 #[.int .i64 a0] w fun e w' => e = .returned (.string r) ∧ Below w.heap.size w w' := by
 unfold num_Text.f at h; by_cases c : a0 < 0 ∧ ¬ sizeB a0 < 10000000000000000000
 ·rw [if_pos c] at h; simp at h
 ·rw [if_neg c] at h
  have e := xsi h; subst e
  exact text_x a0 w (fun q => by
   by_cases c2 : sizeB a0 < 10000000000000000000
   ·exact c2
   ·exact absurd ⟨q, c2⟩ c)
end Go.Proofs.Ytobkdmmnbnpemaa.K
