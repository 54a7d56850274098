/- The counter: a statement and statements in a block, walked by hand. -/
import Derived.Test.YtobkdmmnbnpemaaXKY1
import Derived.Lib.Hide
import Derived.Deep.CutBlock
namespace Go.Proofs.Ytobkdmmnbnpemaa.K
open Go.RowKit Go.Proofs.YtobkdmmnbnpemaaW.PrintWords Go.Proofs.YtobkdmmnbnpemaaW.PrintLast Go.Proofs.YtobkdmmnbnpemaaW.PrintMore
attribute [local go_sem] max2_int min2_int max_two min_two max_three min_three max_four min_four
set_option linter.unusedVariables false
set_option linter.unusedSimpArgs false
theorem name_L (s : ByteArray) (b : Bool) (w : World) (h : nameB (lst s) = b) : Calls Try.prog 119 #[.string s] w fun e w' => e = .returned (.bool b) ∧ Drawn0 w w' := by
  subst h; obtain ⟨k, hk⟩ := name_any s; exact lex_Name.calls k s _ w hk
set_option maxHeartbeats 8000000 in
set_option maxRecDepth 100000 in
theorem stmt_kind (k : Int) (f1 : ByteArray) (f2 : Int) (l3 : List S38) (l4 l5 : List S41) (L3 L4 L5 : Nat) (A3 A4 A5 : Option Addr) (c3 c4 c5 : Nat) (n : Int) (g : Nat) (w0 w : World) (h0 : 0 ≤ n) (h1 : n ≤ 600) (hI : IsS95 w0 w g n) (hB : Below w0.heap.size w0 w) (bl : Int) (hbl0 : 0 ≤ bl) (hbl1 : bl ≤ 13) (hk : ∀ j : Int, 1 ≤ j → j ≤ 9 → k ≠ j) : Calls Try.prog 94 #[.pointer (some ⟨g, 0, none⟩), .agg #[.int .i64 k, .string f1, .int .i64 f2, .slice A3 L3 c3, .slice A4 L4 c4, .slice A5 L5 c5], .int .i64 bl] w (CPost false n g w0 w) := by
  have hu41 := Try.underlying41; have HI := A_0 hI; have HB := A_0 hB; have HK := A_0 (KeepBut.refl w g none); clear hI hB; have e1 : (k == 1) = false := beq_eq_false_iff_ne.2 (hk 1 (by omega) (by omega)); have e2 : (k == 2) = false := beq_eq_false_iff_ne.2 (hk 2 (by omega) (by omega)); have e3 : (k == 3) = false := beq_eq_false_iff_ne.2 (hk 3 (by omega) (by omega)); have e4 : (k == 4) = false := beq_eq_false_iff_ne.2 (hk 4 (by omega) (by omega)); have e5 : (k == 5) = false := beq_eq_false_iff_ne.2 (hk 5 (by omega) (by omega)); have e6 : (k == 6) = false := beq_eq_false_iff_ne.2 (hk 6 (by omega) (by omega)); have e7 : (k == 7) = false := beq_eq_false_iff_ne.2 (hk 7 (by omega) (by omega)); have e8 : (k == 8) = false := beq_eq_false_iff_ne.2 (hk 8 (by omega) (by omega)); have e9 : (k == 9) = false := beq_eq_false_iff_ne.2 (hk 9 (by omega) (by omega)); clear hk
  go_enter Try.func94, Try.ntmps94
  go_wp2_with (first | ((with_reducible refine gate_dst (N := 4) rfl ?_); refine box_event ?hg (N := 4) ?hd (cs := #[.int .i64 k, .string f1, .int .i64 f2, .slice A3 L3 c3, .slice A4 L4 c4, .slice A5 L5 c5]) (t := 41) ?hr ?_; (case hd => rfl); (case hg => rfl); (case hr => first | (go_simp; done) | (go_simp; rfl)); intro gb hg w2 hbox hb; have n0_ := A_0 (below_step HB.out hb); have n1_ := A_0 (IsS95.below HI.out hb); have n2_ := A_0 ((HK.out).trans (KeepBut.of_below hb g none) (.inl rfl)); have n3_ := A_0 hbox; have n4_ := A_0 (show gb ≠ g by have := IsS95.fresh HI.out gb (Nat.le_of_eq hg.symm); exact this); clear HB HI HK hb hbox hg; have HB := n0_; have HI := n1_; have HK := n2_; have BK := n3_; have GN := n4_; clear n0_ n1_ n2_ n3_ n4_; obtain ⟨hcz0, hcz1, hcz2, hcz3, hcz4, hcz5⟩ := blkc6 BK.out; obtain ⟨hfz0, hfz1, hfz2, hfz3, hfz4, hfz5⟩ := blkf6 BK.out))
  go_ret
  exact z_193
set_option maxHeartbeats 8000000 in
set_option maxRecDepth 100000 in
theorem stmt_b1 (k : Int) (f1 : ByteArray) (f2 : Int) (l3 : List S38) (l4 l5 : List S41) (L3 L4 L5 : Nat) (A3 A4 A5 : Option Addr) (c3 c4 c5 : Nat) (n : Int) (g : Nat) (w0 w : World) (h0 : 0 ≤ n) (h1 : n ≤ 600) (hI : IsS95 w0 w g n) (hB : Below w0.heap.size w0 w) (bl : Int) (hbl0 : 0 ≤ bl) (hbl1 : bl ≤ 13) (W : Int) (nm nb : Bool) (hW : 0 ≤ W ∧ W ≤ 2) (hk : (k = 1 ∧ W = 1 ∧ nm = true) ∨ (k = 2 ∧ W = 1 ∧ nm = true) ∨ (k = 3 ∧ W = 2 ∧ nm = false) ∨ (k = 4 ∧ W = 1 ∧ nm = false) ∨ (k = 5 ∧ W = 1 ∧ nm = false) ∨ (k = 6 ∧ W = 1 ∧ nm = false) ∨ (k = 7 ∧ W = 1 ∧ nm = false) ∨ (k = 8 ∧ W = 1 ∧ nm = false) ∨ (k = 9 ∧ W = 0 ∧ nm = false)) (hnb : nameB (lst f1) = nb) (hl : (L3 : Int) ≠ W) : Calls Try.prog 94 #[.pointer (some ⟨g, 0, none⟩), .agg #[.int .i64 k, .string f1, .int .i64 f2, .slice A3 L3 c3, .slice A4 L4 c4, .slice A5 L5 c5], .int .i64 bl] w (CPost false n g w0 w) := by
  have hu41 := Try.underlying41; have HI := A_0 hI; have HB := A_0 hB; have HK := A_0 (KeepBut.refl w g none); clear hI hB; have HKI := Lib.hid hk; have HN := A_0 hnb; clear hk hnb; have e1 : ((L3 : Int) != W) = true := bne_iff_ne.2 hl; have e1' : ((L3 : Int) == W) = false := beq_eq_false_iff_ne.2 hl; clear hl
  go_enter Try.func94, Try.ntmps94
  go_upto_block 0 with (first | ((with_reducible refine gate_dst (N := 4) rfl ?_); refine box_event ?hg (N := 4) ?hd (cs := #[.int .i64 k, .string f1, .int .i64 f2, .slice A3 L3 c3, .slice A4 L4 c4, .slice A5 L5 c5]) (t := 41) ?hr ?_; (case hd => rfl); (case hg => rfl); (case hr => first | (go_simp; done) | (go_simp; rfl)); intro gb hg w2 hbox hb; have n0_ := A_0 (below_step HB.out hb); have n1_ := A_0 (IsS95.below HI.out hb); have n2_ := A_0 ((HK.out).trans (KeepBut.of_below hb g none) (.inl rfl)); have n3_ := A_0 hbox; have n4_ := A_0 (show gb ≠ g by have := IsS95.fresh HI.out gb (Nat.le_of_eq hg.symm); exact this); clear HB HI HK hb hbox hg; have HB := n0_; have HI := n1_; have HK := n2_; have BK := n3_; have GN := n4_; clear n0_ n1_ n2_ n3_ n4_; obtain ⟨hcz0, hcz1, hcz2, hcz3, hcz4, hcz5⟩ := blkc6 BK.out; obtain ⟨hfz0, hfz1, hfz2, hfz3, hfz4, hfz5⟩ := blkf6 BK.out))
  go_cut [7, 8] (fun s7 s8 wx => s7 = .int .i64 W ∧ s8 = .bool nm ∧ w2 = wx)
  case first =>
    rcases HKI.out with ⟨rfl, rfl, rfl⟩ | ⟨rfl, rfl, rfl⟩ | ⟨rfl, rfl, rfl⟩ | ⟨rfl, rfl, rfl⟩ | ⟨rfl, rfl, rfl⟩ | ⟨rfl, rfl, rfl⟩ | ⟨rfl, rfl, rfl⟩ | ⟨rfl, rfl, rfl⟩ | ⟨rfl, rfl, rfl⟩
    all_goals (go_wp2_with fail; go_meet; exact z_197)
  case rest =>
    obtain ⟨rfl, rfl, rfl⟩ := hcut
    go_wp2_with (first | (go_at_call 119; (with_reducible refine (name_L f1 _ _ HN.out).mono ?_); rintro e w' ⟨rfl, ⟨nd, rfl⟩⟩))
    go_ret
    exact z_193
set_option maxHeartbeats 8000000 in
set_option maxRecDepth 100000 in
theorem stmt_b2 (k : Int) (f1 : ByteArray) (f2 : Int) (l3 : List S38) (l4 l5 : List S41) (L3 L4 L5 : Nat) (A3 A4 A5 : Option Addr) (c3 c4 c5 : Nat) (n : Int) (g : Nat) (w0 w : World) (h0 : 0 ≤ n) (h1 : n ≤ 600) (hI : IsS95 w0 w g n) (hB : Below w0.heap.size w0 w) (bl : Int) (hbl0 : 0 ≤ bl) (hbl1 : bl ≤ 13) (W : Int) (nm nb : Bool) (hW : 0 ≤ W ∧ W ≤ 2) (hk : (k = 1 ∧ W = 1 ∧ nm = true) ∨ (k = 2 ∧ W = 1 ∧ nm = true) ∨ (k = 3 ∧ W = 2 ∧ nm = false) ∨ (k = 4 ∧ W = 1 ∧ nm = false) ∨ (k = 5 ∧ W = 1 ∧ nm = false) ∨ (k = 6 ∧ W = 1 ∧ nm = false) ∨ (k = 7 ∧ W = 1 ∧ nm = false) ∨ (k = 8 ∧ W = 1 ∧ nm = false) ∨ (k = 9 ∧ W = 0 ∧ nm = false)) (hnb : nameB (lst f1) = nb) (hl : (L3 : Int) = W) (hn : nm ≠ nb) : Calls Try.prog 94 #[.pointer (some ⟨g, 0, none⟩), .agg #[.int .i64 k, .string f1, .int .i64 f2, .slice A3 L3 c3, .slice A4 L4 c4, .slice A5 L5 c5], .int .i64 bl] w (CPost false n g w0 w) := by
  have hu41 := Try.underlying41; have HI := A_0 hI; have HB := A_0 hB; have HK := A_0 (KeepBut.refl w g none); clear hI hB; have HKI := Lib.hid hk; have HN := A_0 hnb; clear hk hnb; have e1 : ((L3 : Int) != W) = false := bne_eq_false_iff_eq.2 hl; have e1' : ((L3 : Int) == W) = true := beq_iff_eq.2 hl; have HL := Lib.hid hl; clear hl
  go_enter Try.func94, Try.ntmps94
  go_upto_block 0 with (first | ((with_reducible refine gate_dst (N := 4) rfl ?_); refine box_event ?hg (N := 4) ?hd (cs := #[.int .i64 k, .string f1, .int .i64 f2, .slice A3 L3 c3, .slice A4 L4 c4, .slice A5 L5 c5]) (t := 41) ?hr ?_; (case hd => rfl); (case hg => rfl); (case hr => first | (go_simp; done) | (go_simp; rfl)); intro gb hg w2 hbox hb; have n0_ := A_0 (below_step HB.out hb); have n1_ := A_0 (IsS95.below HI.out hb); have n2_ := A_0 ((HK.out).trans (KeepBut.of_below hb g none) (.inl rfl)); have n3_ := A_0 hbox; have n4_ := A_0 (show gb ≠ g by have := IsS95.fresh HI.out gb (Nat.le_of_eq hg.symm); exact this); clear HB HI HK hb hbox hg; have HB := n0_; have HI := n1_; have HK := n2_; have BK := n3_; have GN := n4_; clear n0_ n1_ n2_ n3_ n4_; obtain ⟨hcz0, hcz1, hcz2, hcz3, hcz4, hcz5⟩ := blkc6 BK.out; obtain ⟨hfz0, hfz1, hfz2, hfz3, hfz4, hfz5⟩ := blkf6 BK.out))
  go_cut [7, 8] (fun s7 s8 wx => s7 = .int .i64 W ∧ s8 = .bool nm ∧ w2 = wx)
  case first =>
    rcases HKI.out with ⟨rfl, rfl, rfl⟩ | ⟨rfl, rfl, rfl⟩ | ⟨rfl, rfl, rfl⟩ | ⟨rfl, rfl, rfl⟩ | ⟨rfl, rfl, rfl⟩ | ⟨rfl, rfl, rfl⟩ | ⟨rfl, rfl, rfl⟩ | ⟨rfl, rfl, rfl⟩ | ⟨rfl, rfl, rfl⟩
    all_goals (go_wp2_with fail; go_meet; exact z_197)
  case rest =>
    obtain ⟨rfl, rfl, rfl⟩ := hcut; cases nm <;> cases nb <;> (first | exact absurd rfl hn | (clear hn; go_wp2_with (first | (go_at_call 119; (with_reducible refine (name_L f1 _ _ HN.out).mono ?_); rintro e w' ⟨rfl, ⟨nd, rfl⟩⟩)); go_ret; exact z_193))
set_option maxHeartbeats 8000000 in
set_option maxRecDepth 100000 in
theorem stmt_b3 (k : Int) (f1 : ByteArray) (f2 : Int) (l3 : List S38) (l4 l5 : List S41) (L3 L4 L5 : Nat) (A3 A4 A5 : Option Addr) (c3 c4 c5 : Nat) (n : Int) (g : Nat) (w0 w : World) (h0 : 0 ≤ n) (h1 : n ≤ 600) (hI : IsS95 w0 w g n) (hB : Below w0.heap.size w0 w) (bl : Int) (hbl0 : 0 ≤ bl) (hbl1 : bl ≤ 13) (W : Int) (nm nb : Bool) (hW : 0 ≤ W ∧ W ≤ 2) (hk : (k = 1 ∧ W = 1 ∧ nm = true) ∨ (k = 2 ∧ W = 1 ∧ nm = true) ∨ (k = 3 ∧ W = 2 ∧ nm = false) ∨ (k = 4 ∧ W = 1 ∧ nm = false) ∨ (k = 5 ∧ W = 1 ∧ nm = false) ∨ (k = 6 ∧ W = 1 ∧ nm = false) ∨ (k = 7 ∧ W = 1 ∧ nm = false) ∨ (k = 8 ∧ W = 1 ∧ nm = false) ∨ (k = 9 ∧ W = 0 ∧ nm = false)) (hnb : nameB (lst f1) = nb) (hl : (L3 : Int) = W) (hn : nm = false) (hn2 : nb = false) (hf : f1.toList ≠ []) : Calls Try.prog 94 #[.pointer (some ⟨g, 0, none⟩), .agg #[.int .i64 k, .string f1, .int .i64 f2, .slice A3 L3 c3, .slice A4 L4 c4, .slice A5 L5 c5], .int .i64 bl] w (CPost false n g w0 w) := by
  have hu41 := Try.underlying41; have HI := A_0 hI; have HB := A_0 hB; have HK := A_0 (KeepBut.refl w g none); clear hI hB; have HKI := Lib.hid hk; have HN := A_0 hnb; clear hk hnb; have e1 : ((L3 : Int) != W) = false := bne_eq_false_iff_eq.2 hl; have e1' : ((L3 : Int) == W) = true := beq_iff_eq.2 hl; have HL := Lib.hid hl; clear hl; have HNM := Lib.hid hn; have HNB := Lib.hid hn2; clear hn hn2; have e2 : (f1.toList == ([] : List UInt8)) = false := beq_eq_false_iff_ne.2 hf; have e3 : (f1.toList != ([] : List UInt8)) = true := bne_iff_ne.2 hf; have e4 : (!f1.toList.isEmpty) = true := by
    cases h : f1.toList with
    | nil => exact absurd h hf
    | cons => rfl
  have e5 : f1.toList.isEmpty = false := by
    cases h : f1.toList with
    | nil => exact absurd h hf
    | cons => rfl
  go_enter Try.func94, Try.ntmps94
  go_upto_block 0 with (first | ((with_reducible refine gate_dst (N := 4) rfl ?_); refine box_event ?hg (N := 4) ?hd (cs := #[.int .i64 k, .string f1, .int .i64 f2, .slice A3 L3 c3, .slice A4 L4 c4, .slice A5 L5 c5]) (t := 41) ?hr ?_; (case hd => rfl); (case hg => rfl); (case hr => first | (go_simp; done) | (go_simp; rfl)); intro gb hg w2 hbox hb; have n0_ := A_0 (below_step HB.out hb); have n1_ := A_0 (IsS95.below HI.out hb); have n2_ := A_0 ((HK.out).trans (KeepBut.of_below hb g none) (.inl rfl)); have n3_ := A_0 hbox; have n4_ := A_0 (show gb ≠ g by have := IsS95.fresh HI.out gb (Nat.le_of_eq hg.symm); exact this); clear HB HI HK hb hbox hg; have HB := n0_; have HI := n1_; have HK := n2_; have BK := n3_; have GN := n4_; clear n0_ n1_ n2_ n3_ n4_; obtain ⟨hcz0, hcz1, hcz2, hcz3, hcz4, hcz5⟩ := blkc6 BK.out; obtain ⟨hfz0, hfz1, hfz2, hfz3, hfz4, hfz5⟩ := blkf6 BK.out))
  go_cut [7, 8] (fun s7 s8 wx => s7 = .int .i64 W ∧ s8 = .bool nm ∧ w2 = wx)
  case first =>
    rcases HKI.out with ⟨rfl, rfl, rfl⟩ | ⟨rfl, rfl, rfl⟩ | ⟨rfl, rfl, rfl⟩ | ⟨rfl, rfl, rfl⟩ | ⟨rfl, rfl, rfl⟩ | ⟨rfl, rfl, rfl⟩ | ⟨rfl, rfl, rfl⟩ | ⟨rfl, rfl, rfl⟩ | ⟨rfl, rfl, rfl⟩
    all_goals (go_wp2_with fail; go_meet; exact z_197)
  case rest =>
    obtain ⟨rfl, rfl, rfl⟩ := hcut; obtain rfl := HNM.out; obtain rfl := HNB.out
    go_wp2_with (first | (go_at_call 119; (with_reducible refine (name_L f1 _ _ HN.out).mono ?_); rintro e w' ⟨rfl, ⟨nd, rfl⟩⟩))
    go_ret
    exact z_193
set_option maxHeartbeats 8000000 in
set_option maxRecDepth 100000 in
theorem stmt_b4 (k : Int) (f1 : ByteArray) (f2 : Int) (l3 : List S38) (l4 l5 : List S41) (L3 L4 L5 : Nat) (A3 A4 A5 : Option Addr) (c3 c4 c5 : Nat) (n : Int) (g : Nat) (w0 w : World) (h0 : 0 ≤ n) (h1 : n ≤ 600) (hI : IsS95 w0 w g n) (hB : Below w0.heap.size w0 w) (bl : Int) (hbl0 : 0 ≤ bl) (hbl1 : bl ≤ 13) (W : Int) (nm nb : Bool) (hW : 0 ≤ W ∧ W ≤ 2) (hk : (k = 1 ∧ W = 1 ∧ nm = true) ∨ (k = 2 ∧ W = 1 ∧ nm = true) ∨ (k = 3 ∧ W = 2 ∧ nm = false) ∨ (k = 4 ∧ W = 1 ∧ nm = false) ∨ (k = 5 ∧ W = 1 ∧ nm = false) ∨ (k = 6 ∧ W = 1 ∧ nm = false) ∨ (k = 7 ∧ W = 1 ∧ nm = false) ∨ (k = 8 ∧ W = 1 ∧ nm = false) ∨ (k = 9 ∧ W = 0 ∧ nm = false)) (hnb : nameB (lst f1) = nb) (hl : (L3 : Int) = W) (hn : (nm = true ∧ nb = true) ∨ (nm = false ∧ nb = false ∧ f1.toList = [])) (hc : (k = 5 ∧ (f2 < 0 ∨ (0 ≤ f2 ∧ 255 < f2))) ∨ (k ≠ 5 ∧ f2 ≠ 0)) : Calls Try.prog 94 #[.pointer (some ⟨g, 0, none⟩), .agg #[.int .i64 k, .string f1, .int .i64 f2, .slice A3 L3 c3, .slice A4 L4 c4, .slice A5 L5 c5], .int .i64 bl] w (CPost false n g w0 w) := by
  have hu41 := Try.underlying41; have HI := A_0 hI; have HB := A_0 hB; have HK := A_0 (KeepBut.refl w g none); clear hI hB; have HKI := Lib.hid hk; have HN := A_0 hnb; clear hk hnb; have e1 : ((L3 : Int) != W) = false := bne_eq_false_iff_eq.2 hl; have e1' : ((L3 : Int) == W) = true := beq_iff_eq.2 hl; have HL := Lib.hid hl; clear hl; have HNM := Lib.hid hn; clear hn; have HCL := Lib.hid hc; clear hc
  go_enter Try.func94, Try.ntmps94
  go_upto_block 0 with (first | ((with_reducible refine gate_dst (N := 4) rfl ?_); refine box_event ?hg (N := 4) ?hd (cs := #[.int .i64 k, .string f1, .int .i64 f2, .slice A3 L3 c3, .slice A4 L4 c4, .slice A5 L5 c5]) (t := 41) ?hr ?_; (case hd => rfl); (case hg => rfl); (case hr => first | (go_simp; done) | (go_simp; rfl)); intro gb hg w2 hbox hb; have n0_ := A_0 (below_step HB.out hb); have n1_ := A_0 (IsS95.below HI.out hb); have n2_ := A_0 ((HK.out).trans (KeepBut.of_below hb g none) (.inl rfl)); have n3_ := A_0 hbox; have n4_ := A_0 (show gb ≠ g by have := IsS95.fresh HI.out gb (Nat.le_of_eq hg.symm); exact this); clear HB HI HK hb hbox hg; have HB := n0_; have HI := n1_; have HK := n2_; have BK := n3_; have GN := n4_; clear n0_ n1_ n2_ n3_ n4_; obtain ⟨hcz0, hcz1, hcz2, hcz3, hcz4, hcz5⟩ := blkc6 BK.out; obtain ⟨hfz0, hfz1, hfz2, hfz3, hfz4, hfz5⟩ := blkf6 BK.out))
  go_cut [7, 8] (fun s7 s8 wx => s7 = .int .i64 W ∧ s8 = .bool nm ∧ w2 = wx)
  case first =>
    rcases HKI.out with ⟨rfl, rfl, rfl⟩ | ⟨rfl, rfl, rfl⟩ | ⟨rfl, rfl, rfl⟩ | ⟨rfl, rfl, rfl⟩ | ⟨rfl, rfl, rfl⟩ | ⟨rfl, rfl, rfl⟩ | ⟨rfl, rfl, rfl⟩ | ⟨rfl, rfl, rfl⟩ | ⟨rfl, rfl, rfl⟩
    all_goals (go_wp2_with fail; go_meet; exact z_197)
  case rest =>
    obtain ⟨rfl, rfl, rfl⟩ := hcut; rcases HCL.out with ⟨hk5, hc | ⟨hc0, hc⟩⟩ | ⟨hk5, hc⟩
    · have k5 : (k == 5) = true := beq_iff_eq.2 hk5
      have k5' : (k != 5) = false := bne_eq_false_iff_eq.2 hk5; have c1 : decide (f2 < 0) = true := decide_eq_true hc; clear hk5; rcases HNM.out with ⟨rfl, rfl⟩ | ⟨rfl, rfl, hf⟩
      · go_wp2_with (first | (go_at_call 119; (with_reducible refine (name_L f1 _ _ HN.out).mono ?_); rintro e w' ⟨rfl, ⟨nd, rfl⟩⟩))
        go_ret
        exact z_193
      · have e2 : (f1.toList == ([] : List UInt8)) = true := beq_iff_eq.2 hf
        have e3 : (f1.toList != ([] : List UInt8)) = false := bne_eq_false_iff_eq.2 hf; have e5 : f1.toList.isEmpty = true := by rw [hf]; rfl
        have e4 : (!f1.toList.isEmpty) = false := by rw [hf]; rfl
        go_wp2_with (first | (go_at_call 119; (with_reducible refine (name_L f1 _ _ HN.out).mono ?_); rintro e w' ⟨rfl, ⟨nd, rfl⟩⟩))
        go_ret
        exact z_193
    · have k5 : (k == 5) = true := beq_iff_eq.2 hk5
      have k5' : (k != 5) = false := bne_eq_false_iff_eq.2 hk5; have c1 : decide (f2 < 0) = false := decide_eq_false (by omega); have c2 : decide (255 < f2) = true := decide_eq_true hc; clear hk5; rcases HNM.out with ⟨rfl, rfl⟩ | ⟨rfl, rfl, hf⟩
      · go_wp2_with (first | (go_at_call 119; (with_reducible refine (name_L f1 _ _ HN.out).mono ?_); rintro e w' ⟨rfl, ⟨nd, rfl⟩⟩))
        go_ret
        exact z_193
      · have e2 : (f1.toList == ([] : List UInt8)) = true := beq_iff_eq.2 hf
        have e3 : (f1.toList != ([] : List UInt8)) = false := bne_eq_false_iff_eq.2 hf; have e5 : f1.toList.isEmpty = true := by rw [hf]; rfl
        have e4 : (!f1.toList.isEmpty) = false := by rw [hf]; rfl
        go_wp2_with (first | (go_at_call 119; (with_reducible refine (name_L f1 _ _ HN.out).mono ?_); rintro e w' ⟨rfl, ⟨nd, rfl⟩⟩))
        go_ret
        exact z_193
    · have k5 : (k == 5) = false := beq_eq_false_iff_ne.2 hk5
      have k5' : (k != 5) = true := bne_iff_ne.2 hk5; have c1 : (f2 == 0) = false := beq_eq_false_iff_ne.2 hc; have c2 : (f2 != 0) = true := bne_iff_ne.2 hc; rcases HNM.out with ⟨rfl, rfl⟩ | ⟨rfl, rfl, hf⟩
      · go_wp2_with (first | (go_at_call 119; (with_reducible refine (name_L f1 _ _ HN.out).mono ?_); rintro e w' ⟨rfl, ⟨nd, rfl⟩⟩))
        go_ret
        exact z_193
      · have e2 : (f1.toList == ([] : List UInt8)) = true := beq_iff_eq.2 hf
        have e3 : (f1.toList != ([] : List UInt8)) = false := bne_eq_false_iff_eq.2 hf; have e5 : f1.toList.isEmpty = true := by rw [hf]; rfl
        have e4 : (!f1.toList.isEmpty) = false := by rw [hf]; rfl
        go_wp2_with (first | (go_at_call 119; (with_reducible refine (name_L f1 _ _ HN.out).mono ?_); rintro e w' ⟨rfl, ⟨nd, rfl⟩⟩))
        go_ret
        exact z_193
set_option maxHeartbeats 8000000 in
set_option maxRecDepth 100000 in
theorem stmt_b5 (k : Int) (f1 : ByteArray) (f2 : Int) (l3 : List S38) (l4 l5 : List S41) (L3 L4 L5 : Nat) (A3 A4 A5 : Option Addr) (c3 c4 c5 : Nat) (n : Int) (g : Nat) (w0 w : World) (h0 : 0 ≤ n) (h1 : n ≤ 600) (hI : IsS95 w0 w g n) (hB : Below w0.heap.size w0 w) (bl : Int) (hbl0 : 0 ≤ bl) (hbl1 : bl ≤ 13) (W : Int) (nm nb : Bool) (hW : 0 ≤ W ∧ W ≤ 2) (hk : (k = 1 ∧ W = 1 ∧ nm = true) ∨ (k = 2 ∧ W = 1 ∧ nm = true) ∨ (k = 3 ∧ W = 2 ∧ nm = false) ∨ (k = 4 ∧ W = 1 ∧ nm = false) ∨ (k = 5 ∧ W = 1 ∧ nm = false) ∨ (k = 6 ∧ W = 1 ∧ nm = false) ∨ (k = 7 ∧ W = 1 ∧ nm = false) ∨ (k = 8 ∧ W = 1 ∧ nm = false) ∨ (k = 9 ∧ W = 0 ∧ nm = false)) (hnb : nameB (lst f1) = nb) (hl : (L3 : Int) = W) (hn : (nm = true ∧ nb = true) ∨ (nm = false ∧ nb = false ∧ f1.toList = [])) (hc : (k = 5 ∧ 0 ≤ f2 ∧ f2 ≤ 255) ∨ (k ≠ 5 ∧ f2 = 0)) (hk7 : k ≠ 7) (hk6 : k ≠ 6) (hl4 : L4 ≠ 0) : Calls Try.prog 94 #[.pointer (some ⟨g, 0, none⟩), .agg #[.int .i64 k, .string f1, .int .i64 f2, .slice A3 L3 c3, .slice A4 L4 c4, .slice A5 L5 c5], .int .i64 bl] w (CPost false n g w0 w) := by
  have hu41 := Try.underlying41; have HI := A_0 hI; have HB := A_0 hB; have HK := A_0 (KeepBut.refl w g none); clear hI hB; have HKI := Lib.hid hk; have HN := A_0 hnb; clear hk hnb; have e1 : ((L3 : Int) != W) = false := bne_eq_false_iff_eq.2 hl; have e1' : ((L3 : Int) == W) = true := beq_iff_eq.2 hl; have HL := Lib.hid hl; clear hl; have HNM := Lib.hid hn; clear hn; have HCL := Lib.hid hc; clear hc; have k7 : (k == 7) = false := beq_eq_false_iff_ne.2 hk7; have k6 : (k == 6) = false := beq_eq_false_iff_ne.2 hk6; have l4b : decide (0 < L4) = true := decide_eq_true (by omega); have l4c : decide ((0 : Int) < (L4 : Int)) = true := decide_eq_true (by omega); have l4d : 0 < L4 := by omega
  go_enter Try.func94, Try.ntmps94
  go_upto_block 0 with (first | ((with_reducible refine gate_dst (N := 4) rfl ?_); refine box_event ?hg (N := 4) ?hd (cs := #[.int .i64 k, .string f1, .int .i64 f2, .slice A3 L3 c3, .slice A4 L4 c4, .slice A5 L5 c5]) (t := 41) ?hr ?_; (case hd => rfl); (case hg => rfl); (case hr => first | (go_simp; done) | (go_simp; rfl)); intro gb hg w2 hbox hb; have n0_ := A_0 (below_step HB.out hb); have n1_ := A_0 (IsS95.below HI.out hb); have n2_ := A_0 ((HK.out).trans (KeepBut.of_below hb g none) (.inl rfl)); have n3_ := A_0 hbox; have n4_ := A_0 (show gb ≠ g by have := IsS95.fresh HI.out gb (Nat.le_of_eq hg.symm); exact this); clear HB HI HK hb hbox hg; have HB := n0_; have HI := n1_; have HK := n2_; have BK := n3_; have GN := n4_; clear n0_ n1_ n2_ n3_ n4_; obtain ⟨hcz0, hcz1, hcz2, hcz3, hcz4, hcz5⟩ := blkc6 BK.out; obtain ⟨hfz0, hfz1, hfz2, hfz3, hfz4, hfz5⟩ := blkf6 BK.out))
  go_cut [7, 8] (fun s7 s8 wx => s7 = .int .i64 W ∧ s8 = .bool nm ∧ w2 = wx)
  case first =>
    rcases HKI.out with ⟨rfl, rfl, rfl⟩ | ⟨rfl, rfl, rfl⟩ | ⟨rfl, rfl, rfl⟩ | ⟨rfl, rfl, rfl⟩ | ⟨rfl, rfl, rfl⟩ | ⟨rfl, rfl, rfl⟩ | ⟨rfl, rfl, rfl⟩ | ⟨rfl, rfl, rfl⟩ | ⟨rfl, rfl, rfl⟩
    all_goals (go_wp2_with fail; go_meet; exact z_197)
  case rest =>
    obtain ⟨rfl, rfl, rfl⟩ := hcut; go_upto_region 16 with fail
    go_cut [47] (fun s47 wx => s47 = .bool false ∧ ∃ nq, w2.drewN nq = wx)
    case first =>
      rcases HNM.out with ⟨rfl, rfl⟩ | ⟨rfl, rfl, hf⟩
      · go_wp2_with (first | (go_at_call 119; (with_reducible refine (name_L f1 _ _ HN.out).mono ?_); rintro e w' ⟨rfl, ⟨nd, rfl⟩⟩))
        go_meet
        exact ⟨rfl, _, rfl⟩
      · have e2 : (f1.toList == ([] : List UInt8)) = true := beq_iff_eq.2 hf
        have e3 : (f1.toList != ([] : List UInt8)) = false := bne_eq_false_iff_eq.2 hf; have e5 : f1.toList.isEmpty = true := by rw [hf]; rfl
        have e4 : (!f1.toList.isEmpty) = false := by rw [hf]; rfl
        go_wp2_with (first | (go_at_call 119; (with_reducible refine (name_L f1 _ _ HN.out).mono ?_); rintro e w' ⟨rfl, ⟨nd, rfl⟩⟩))
        go_meet
        exact ⟨rfl, _, rfl⟩
    case rest =>
      obtain ⟨rfl, nq, rfl⟩ := hcut; go_upto_region 18 with fail
      go_cut [70] (fun s70 wx => s70 = .bool false ∧ w2.drewN nq = wx)
      case first =>
        rcases HCL.out with ⟨hk5, hc0, hc1⟩ | ⟨hk5, hc⟩
        · have k5 : (k == 5) = true := beq_iff_eq.2 hk5
          have k5' : (k != 5) = false := bne_eq_false_iff_eq.2 hk5; have c1 : decide (f2 < 0) = false := decide_eq_false (by omega); have c2 : decide (255 < f2) = false := decide_eq_false (by omega); clear hk5
          go_wp2_with fail
          go_meet
          exact ⟨rfl, rfl⟩
        · have k5 : (k == 5) = false := beq_eq_false_iff_ne.2 hk5
          have k5' : (k != 5) = true := bne_iff_ne.2 hk5; have c1 : (f2 == 0) = true := beq_iff_eq.2 hc; have c2 : (f2 != 0) = false := bne_eq_false_iff_eq.2 hc; have HCE := Lib.hid hc; clear hc
          go_wp2_with fail
          go_meet
          exact ⟨rfl, rfl⟩
      case rest =>
        obtain ⟨rfl, rfl⟩ := hcut
        go_wp2_with (first | (go_at_call 119; (with_reducible refine (name_L f1 _ _ HN.out).mono ?_); rintro e w' ⟨rfl, ⟨nd, rfl⟩⟩))
        go_ret
        exact z_193
set_option maxHeartbeats 8000000 in
set_option maxRecDepth 100000 in
theorem stmt_b6 (k : Int) (f1 : ByteArray) (f2 : Int) (l3 : List S38) (l4 l5 : List S41) (L3 L4 L5 : Nat) (A3 A4 A5 : Option Addr) (c3 c4 c5 : Nat) (n : Int) (g : Nat) (w0 w : World) (h0 : 0 ≤ n) (h1 : n ≤ 600) (hI : IsS95 w0 w g n) (hB : Below w0.heap.size w0 w) (bl : Int) (hbl0 : 0 ≤ bl) (hbl1 : bl ≤ 13) (W : Int) (nm nb : Bool) (hW : 0 ≤ W ∧ W ≤ 2) (hk : (k = 1 ∧ W = 1 ∧ nm = true) ∨ (k = 2 ∧ W = 1 ∧ nm = true) ∨ (k = 3 ∧ W = 2 ∧ nm = false) ∨ (k = 4 ∧ W = 1 ∧ nm = false) ∨ (k = 5 ∧ W = 1 ∧ nm = false) ∨ (k = 6 ∧ W = 1 ∧ nm = false) ∨ (k = 7 ∧ W = 1 ∧ nm = false) ∨ (k = 8 ∧ W = 1 ∧ nm = false) ∨ (k = 9 ∧ W = 0 ∧ nm = false)) (hnb : nameB (lst f1) = nb) (hl : (L3 : Int) = W) (hn : (nm = true ∧ nb = true) ∨ (nm = false ∧ nb = false ∧ f1.toList = [])) (hc : (k = 5 ∧ 0 ≤ f2 ∧ f2 ≤ 255) ∨ (k ≠ 5 ∧ f2 = 0)) (hb : k = 7 ∨ L4 = 0) (hk6 : k ≠ 6) (hl5 : L5 ≠ 0) : Calls Try.prog 94 #[.pointer (some ⟨g, 0, none⟩), .agg #[.int .i64 k, .string f1, .int .i64 f2, .slice A3 L3 c3, .slice A4 L4 c4, .slice A5 L5 c5], .int .i64 bl] w (CPost false n g w0 w) := by
  have hu41 := Try.underlying41; have HI := A_0 hI; have HB := A_0 hB; have HK := A_0 (KeepBut.refl w g none); clear hI hB; have HKI := Lib.hid hk; have HN := A_0 hnb; clear hk hnb; have e1 : ((L3 : Int) != W) = false := bne_eq_false_iff_eq.2 hl; have e1' : ((L3 : Int) == W) = true := beq_iff_eq.2 hl; have HL := Lib.hid hl; clear hl; have HNM := Lib.hid hn; clear hn; have HCL := Lib.hid hc; have HBD := Lib.hid hb; clear hc hb; have k6 : (k == 6) = false := beq_eq_false_iff_ne.2 hk6; have k6' : (k != 6) = true := bne_iff_ne.2 hk6; have l5b : decide (0 < L5) = true := decide_eq_true (by omega); have l5c : decide ((0 : Int) < (L5 : Int)) = true := decide_eq_true (by omega); have l5d : 0 < L5 := by omega
  go_enter Try.func94, Try.ntmps94
  go_upto_block 0 with (first | ((with_reducible refine gate_dst (N := 4) rfl ?_); refine box_event ?hg (N := 4) ?hd (cs := #[.int .i64 k, .string f1, .int .i64 f2, .slice A3 L3 c3, .slice A4 L4 c4, .slice A5 L5 c5]) (t := 41) ?hr ?_; (case hd => rfl); (case hg => rfl); (case hr => first | (go_simp; done) | (go_simp; rfl)); intro gb hg w2 hbox hb; have n0_ := A_0 (below_step HB.out hb); have n1_ := A_0 (IsS95.below HI.out hb); have n2_ := A_0 ((HK.out).trans (KeepBut.of_below hb g none) (.inl rfl)); have n3_ := A_0 hbox; have n4_ := A_0 (show gb ≠ g by have := IsS95.fresh HI.out gb (Nat.le_of_eq hg.symm); exact this); clear HB HI HK hb hbox hg; have HB := n0_; have HI := n1_; have HK := n2_; have BK := n3_; have GN := n4_; clear n0_ n1_ n2_ n3_ n4_; obtain ⟨hcz0, hcz1, hcz2, hcz3, hcz4, hcz5⟩ := blkc6 BK.out; obtain ⟨hfz0, hfz1, hfz2, hfz3, hfz4, hfz5⟩ := blkf6 BK.out))
  go_cut [7, 8] (fun s7 s8 wx => s7 = .int .i64 W ∧ s8 = .bool nm ∧ w2 = wx)
  case first =>
    rcases HKI.out with ⟨rfl, rfl, rfl⟩ | ⟨rfl, rfl, rfl⟩ | ⟨rfl, rfl, rfl⟩ | ⟨rfl, rfl, rfl⟩ | ⟨rfl, rfl, rfl⟩ | ⟨rfl, rfl, rfl⟩ | ⟨rfl, rfl, rfl⟩ | ⟨rfl, rfl, rfl⟩ | ⟨rfl, rfl, rfl⟩
    all_goals (go_wp2_with fail; go_meet; exact z_197)
  case rest =>
    obtain ⟨rfl, rfl, rfl⟩ := hcut; go_upto_region 16 with fail
    go_cut [47] (fun s47 wx => s47 = .bool false ∧ ∃ nq, w2.drewN nq = wx)
    case first =>
      rcases HNM.out with ⟨rfl, rfl⟩ | ⟨rfl, rfl, hf⟩
      · go_wp2_with (first | (go_at_call 119; (with_reducible refine (name_L f1 _ _ HN.out).mono ?_); rintro e w' ⟨rfl, ⟨nd, rfl⟩⟩))
        go_meet
        exact ⟨rfl, _, rfl⟩
      · have e2 : (f1.toList == ([] : List UInt8)) = true := beq_iff_eq.2 hf
        have e3 : (f1.toList != ([] : List UInt8)) = false := bne_eq_false_iff_eq.2 hf; have e5 : f1.toList.isEmpty = true := by rw [hf]; rfl
        have e4 : (!f1.toList.isEmpty) = false := by rw [hf]; rfl
        go_wp2_with (first | (go_at_call 119; (with_reducible refine (name_L f1 _ _ HN.out).mono ?_); rintro e w' ⟨rfl, ⟨nd, rfl⟩⟩))
        go_meet
        exact ⟨rfl, _, rfl⟩
    case rest =>
      obtain ⟨rfl, nq, rfl⟩ := hcut; go_upto_region 18 with fail
      go_cut [70] (fun s70 wx => s70 = .bool false ∧ w2.drewN nq = wx)
      case first =>
        rcases HCL.out with ⟨hk5, hc0, hc1⟩ | ⟨hk5, hc⟩
        · have k5 : (k == 5) = true := beq_iff_eq.2 hk5
          have k5' : (k != 5) = false := bne_eq_false_iff_eq.2 hk5; have c1 : decide (f2 < 0) = false := decide_eq_false (by omega); have c2 : decide (255 < f2) = false := decide_eq_false (by omega); clear hk5
          go_wp2_with fail
          go_meet
          exact ⟨rfl, rfl⟩
        · have k5 : (k == 5) = false := beq_eq_false_iff_ne.2 hk5
          have k5' : (k != 5) = true := bne_iff_ne.2 hk5; have c1 : (f2 == 0) = true := beq_iff_eq.2 hc; have c2 : (f2 != 0) = false := bne_eq_false_iff_eq.2 hc; have HCE := Lib.hid hc; clear hc
          go_wp2_with fail
          go_meet
          exact ⟨rfl, rfl⟩
      case rest =>
        obtain ⟨rfl, rfl⟩ := hcut; by_cases hk7 : k = 7
        · have k7 : (k == 7) = true := beq_iff_eq.2 hk7
          clear hk7
          go_wp2_with (first | (go_at_call 119; (with_reducible refine (name_L f1 _ _ HN.out).mono ?_); rintro e w' ⟨rfl, ⟨nd, rfl⟩⟩))
          go_ret
          exact z_193
        · have k7 : (k == 7) = false := beq_eq_false_iff_ne.2 hk7
          have hz : L4 = 0 := by rcases HBD.out with x | x; exact absurd x hk7; exact x
          have l4b : decide (0 < L4) = false := decide_eq_false (by omega); have l4c : decide ((0 : Int) < (L4 : Int)) = false := decide_eq_false (by omega); have l4d : ¬ 0 < L4 := by omega
          have HZ := Lib.hid hz; clear hz
          go_wp2_with (first | (go_at_call 119; (with_reducible refine (name_L f1 _ _ HN.out).mono ?_); rintro e w' ⟨rfl, ⟨nd, rfl⟩⟩))
          go_ret
          exact z_193
theorem pair_of {α β : Type} (p : α × β) : ∃ a b, p = (a, b) := ⟨p.1, p.2, rfl⟩
def BlockC (b : Nat) : Prop := ∀ (l : List S41) (L : Nat) (A : Option Addr) (c : Nat) (n : Int) (r : Bool) (m : Int) (g : Nat) (w0 w : World), l.length = L → Kd.C k41 w0 A l.length l → L ≤ c → 0 ≤ n → n ≤ 600 → IsS95 w0 w g n → Below w0.heap.size w0 w → cB b n l = (r, m) →
      ∀ bl : Int, bl = 13 - (b : Int) → Calls Try.prog 55 #[.pointer (some ⟨g, 0, none⟩), .slice A L c, .int .i64 bl] w (CPost r m g w0 w)
theorem BlockC.use {b : Nat} (h : BlockC b) : ∀ (l : List S41) (L : Nat) (A : Option Addr) (c : Nat) (n : Int) (r : Bool) (m : Int) (g : Nat) (w0 w : World), l.length = L → Kd.C k41 w0 A l.length l → L ≤ c → 0 ≤ n → n ≤ 600 → IsS95 w0 w g n → Below w0.heap.size w0 w → cB b n l = (r, m) →
      ∀ bl : Int, bl = 13 - (b : Int) → Calls Try.prog 55 #[.pointer (some ⟨g, 0, none⟩), .slice A L c, .int .i64 bl] w (CPost r m g w0 w) := h
def SFin (b : Nat) (lp : Bool) (l4 l5 : List S41) (L5 : Nat) (b1 : Bool) (m1 : Int) (r : Bool) (m : Int) : Prop :=
  (b1 = false ∧ r = false ∧ m = m1) ∨ (b1 = true ∧ lp = false ∧ L5 = 0 ∧ r = true ∧ m = m1) ∨
  (b1 = true ∧ lp = true ∧ 0 ≤ m1 ∧ m1 ≤ 600 ∧ cB b m1 l4 = (false, m) ∧ r = false) ∨
  (b1 = true ∧ lp = true ∧ 0 ≤ m1 ∧ m1 ≤ 600 ∧ cB b m1 l4 = (true, m) ∧ r = true ∧ L5 = 0) ∨
  (b1 = true ∧ lp = true ∧ 0 ≤ m1 ∧ m1 ≤ 600 ∧ ∃ m2, cB b m1 l4 = (true, m2) ∧ 0 ≤ m2 ∧ m2 ≤ 600 ∧ L5 ≠ 0 ∧ cB b m2 l5 = (r, m))
def SRel (k : Int) (f1 : ByteArray) (f2 : Int) (A3 A4 A5 : Option Addr) (L3 c3 L4 c4 L5 c5 gb : Nat) (l3 : List S38) (r : Bool × Int) (g : Nat) (w0 w : World) (v101 : Value) (w' : World) : Prop :=
  ∃ (i m : Int), v101 = .int .i64 i ∧ 0 ≤ i ∧ i ≤ (L3 : Int) ∧ 0 ≤ m ∧ m ≤ 600 ∧ Aside0 (goE (cE 48) m (l3.drop i.toNat) = r) ∧ Aside0 (IsS95 w0 w' g m) ∧ Aside0 (Below w0.heap.size w0 w') ∧ Aside0 (KeepBut w w' g none) ∧ Aside0 (w'.heap[gb]? = some (.cells #[.int .i64 k, .string f1, .int .i64 f2, .slice A3 L3 c3, .slice A4 L4 c4, .slice A5 L5 c5] 41 (0, 0)))
set_option maxHeartbeats 8000000 in
set_option maxRecDepth 100000 in
theorem stmt_ok (k : Int) (f1 : ByteArray) (f2 : Int) (l3 : List S38) (l4 l5 : List S41) (L3 L4 L5 : Nat) (A3 A4 A5 : Option Addr) (c3 c4 c5 : Nat) (n : Int) (g : Nat) (w0 w : World) (h0 : 0 ≤ n) (h1 : n ≤ 600) (hI : IsS95 w0 w g n) (hB : Below w0.heap.size w0 w) (bl : Int) (hbl0 : 0 ≤ bl) (hbl1 : bl ≤ 13) (W : Int) (nm nb : Bool) (hW : 0 ≤ W ∧ W ≤ 2) (hk : (k = 1 ∧ W = 1 ∧ nm = true) ∨ (k = 2 ∧ W = 1 ∧ nm = true) ∨ (k = 3 ∧ W = 2 ∧ nm = false) ∨ (k = 4 ∧ W = 1 ∧ nm = false) ∨ (k = 5 ∧ W = 1 ∧ nm = false) ∨ (k = 6 ∧ W = 1 ∧ nm = false) ∨ (k = 7 ∧ W = 1 ∧ nm = false) ∨ (k = 8 ∧ W = 1 ∧ nm = false) ∨ (k = 9 ∧ W = 0 ∧ nm = false)) (hnb : nameB (lst f1) = nb) (hl : (L3 : Int) = W) (hn : (nm = true ∧ nb = true) ∨ (nm = false ∧ nb = false ∧ f1.toList = [])) (hc : (k = 5 ∧ 0 ≤ f2 ∧ f2 ≤ 255) ∨ (k ≠ 5 ∧ f2 = 0)) (b : Nat) (BC0 : BlockC b) (hbl : bl + 1 = 13 - (b : Int)) (hL3 : l3.length = L3) (hL4 : l4.length = L4) (hL5 : l5.length = L5) (hC3 : Kd.C k38 w0 A3 l3.length l3) (hC4 : Kd.C k41 w0 A4 l4.length l4) (hC5 : Kd.C k41 w0 A5 l5.length l5) (hcs4 : L4 ≤ c4) (hcs5 : L5 ≤ c5) (lp : Bool) (hlp : (k ≠ 6 ∧ k = 7 ∧ lp = true) ∨ (k = 6 ∧ k ≠ 7 ∧ lp = true) ∨ (k ≠ 6 ∧ k ≠ 7 ∧ lp = false)) (hbd : (lp = true ∧ k = 6) ∨ (lp = true ∧ k ≠ 6 ∧ L5 = 0) ∨ (lp = false ∧ k ≠ 6 ∧ L4 = 0 ∧ L5 = 0)) (b1 : Bool) (m1 : Int) (r : Bool) (m : Int) (hr : goE (cE 48) n l3 = (b1, m1)) (hfin : SFin b lp l4 l5 L5 b1 m1 r m) : Calls Try.prog 94 #[.pointer (some ⟨g, 0, none⟩), .agg #[.int .i64 k, .string f1, .int .i64 f2, .slice A3 L3 c3, .slice A4 L4 c4, .slice A5 L5 c5], .int .i64 bl] w (CPost r m g w0 w) := by
  have hu41 := Try.underlying41; have HI := A_0 hI; have HB := A_0 hB; have HK := A_0 (KeepBut.refl w g none); clear hI hB; have HKI := Lib.hid hk; have HN := A_0 hnb; clear hk hnb; have e1 : ((L3 : Int) != W) = false := bne_eq_false_iff_eq.2 hl; have e1' : ((L3 : Int) == W) = true := beq_iff_eq.2 hl; have HL := Lib.hid hl; clear hl; have HNM := Lib.hid hn; clear hn; have HCL := Lib.hid hc; have BC := A_0 BC0; have HBL := A_0 hbl; have HL3 := A_0 hL3; have HL4 := A_0 hL4; have HL5 := A_0 hL5; have HC3 := A_0 hC3; have HC4 := A_0 hC4; have HC5 := A_0 hC5; have HCS4 := A_0 hcs4; have HCS5 := A_0 hcs5; have HR := A_0 hr; have HFIN := A_0 hfin; have HLP := Lib.hid (show ((k == 7) = true ∧ (k == 6) = false ∧ lp = true) ∨ ((k == 7) = false ∧ (k == 6) = true ∧ lp = true) ∨ ((k == 7) = false ∧ (k == 6) = false ∧ lp = false) by
    rcases hlp with ⟨a, c, d⟩ | ⟨a, c, d⟩ | ⟨a, c, d⟩
    · exact .inl ⟨beq_iff_eq.2 c, beq_eq_false_iff_ne.2 a, d⟩
    · exact .inr (.inl ⟨beq_eq_false_iff_ne.2 c, beq_iff_eq.2 a, d⟩)
    · exact .inr (.inr ⟨beq_eq_false_iff_ne.2 c, beq_eq_false_iff_ne.2 a, d⟩))
  have HBD := Lib.hid (show (lp = true ∧ (k == 6) = true) ∨ (lp = true ∧ (k == 6) = false ∧ L5 = 0) ∨ (lp = false ∧ (k == 6) = false ∧ L4 = 0 ∧ L5 = 0) by
    rcases hbd with ⟨a, c⟩ | ⟨a, c, d⟩ | ⟨a, c, d⟩
    · exact .inl ⟨a, beq_iff_eq.2 c⟩
    · exact .inr (.inl ⟨a, beq_eq_false_iff_ne.2 c, d⟩)
    · exact .inr (.inr ⟨a, beq_eq_false_iff_ne.2 c, d⟩))
  clear hc BC0 hbl hL3 hL4 hL5 hC3 hC4 hC5 hcs4 hcs5 hr hfin hlp hbd; have hW2 : (L3 : Int) ≤ 2 := by have := HL.out; omega
  have hblb : bl + 1 ≤ 14 := by omega
  go_enter Try.func94, Try.ntmps94
  go_upto_block 0 with (first | ((with_reducible refine gate_dst (N := 4) rfl ?_); refine box_event ?hg (N := 4) ?hd (cs := #[.int .i64 k, .string f1, .int .i64 f2, .slice A3 L3 c3, .slice A4 L4 c4, .slice A5 L5 c5]) (t := 41) ?hr ?_; (case hd => rfl); (case hg => rfl); (case hr => first | (go_simp; done) | (go_simp; rfl)); intro gb hg w2 hbox hb; have n0_ := A_0 (below_step HB.out hb); have n1_ := A_0 (IsS95.below HI.out hb); have n2_ := A_0 ((HK.out).trans (KeepBut.of_below hb g none) (.inl rfl)); have n3_ := A_0 hbox; have n4_ := A_0 (show gb ≠ g by have := IsS95.fresh HI.out gb (Nat.le_of_eq hg.symm); exact this); clear HB HI HK hb hbox hg; have HB := n0_; have HI := n1_; have HK := n2_; have BK := n3_; have GN := n4_; clear n0_ n1_ n2_ n3_ n4_; obtain ⟨hcz0, hcz1, hcz2, hcz3, hcz4, hcz5⟩ := blkc6 BK.out; obtain ⟨hfz0, hfz1, hfz2, hfz3, hfz4, hfz5⟩ := blkf6 BK.out))
  go_cut [7, 8] (fun s7 s8 wx => s7 = .int .i64 W ∧ s8 = .bool nm ∧ w2 = wx)
  case first =>
    rcases HKI.out with ⟨rfl, rfl, rfl⟩ | ⟨rfl, rfl, rfl⟩ | ⟨rfl, rfl, rfl⟩ | ⟨rfl, rfl, rfl⟩ | ⟨rfl, rfl, rfl⟩ | ⟨rfl, rfl, rfl⟩ | ⟨rfl, rfl, rfl⟩ | ⟨rfl, rfl, rfl⟩ | ⟨rfl, rfl, rfl⟩
    all_goals (go_wp2_with fail; go_meet; exact z_197)
  case rest =>
    obtain ⟨rfl, rfl, rfl⟩ := hcut; go_upto_region 16 with fail
    go_cut [47] (fun s47 wx => s47 = .bool false ∧ ∃ nq, w2.drewN nq = wx)
    case first =>
      rcases HNM.out with ⟨rfl, rfl⟩ | ⟨rfl, rfl, hf⟩
      · go_wp2_with (first | (go_at_call 119; (with_reducible refine (name_L f1 _ _ HN.out).mono ?_); rintro e w' ⟨rfl, ⟨nd, rfl⟩⟩))
        go_meet
        exact ⟨rfl, _, rfl⟩
      · have e2 : (f1.toList == ([] : List UInt8)) = true := beq_iff_eq.2 hf
        have e3 : (f1.toList != ([] : List UInt8)) = false := bne_eq_false_iff_eq.2 hf; have e5 : f1.toList.isEmpty = true := by rw [hf]; rfl
        have e4 : (!f1.toList.isEmpty) = false := by rw [hf]; rfl
        go_wp2_with (first | (go_at_call 119; (with_reducible refine (name_L f1 _ _ HN.out).mono ?_); rintro e w' ⟨rfl, ⟨nd, rfl⟩⟩))
        go_meet
        exact ⟨rfl, _, rfl⟩
    case rest =>
      obtain ⟨rfl, nq, rfl⟩ := hcut; go_upto_region 18 with fail
      go_cut [70] (fun s70 wx => s70 = .bool false ∧ w2.drewN nq = wx)
      case first =>
        rcases HCL.out with ⟨hk5, hc0, hc1⟩ | ⟨hk5, hc⟩
        · have k5 : (k == 5) = true := beq_iff_eq.2 hk5
          have k5' : (k != 5) = false := bne_eq_false_iff_eq.2 hk5; have c1 : decide (f2 < 0) = false := decide_eq_false (by omega); have c2 : decide (255 < f2) = false := decide_eq_false (by omega); clear hk5
          go_wp2_with fail
          go_meet
          exact ⟨rfl, rfl⟩
        · have k5 : (k == 5) = false := beq_eq_false_iff_ne.2 hk5
          have k5' : (k != 5) = true := bne_iff_ne.2 hk5; have c1 : (f2 == 0) = true := beq_iff_eq.2 hc; have c2 : (f2 != 0) = false := bne_eq_false_iff_eq.2 hc; have HCE := Lib.hid hc; clear hc
          go_wp2_with fail
          go_meet
          exact ⟨rfl, rfl⟩
      case rest =>
        obtain ⟨rfl, rfl⟩ := hcut; go_upto_region 20 with fail
        go_cut [9] (fun s9 wx => s9 = .bool lp ∧ w2.drewN nq = wx)
        case first =>
          rcases HLP.out with ⟨k7, k6, rfl⟩ | ⟨k7, k6, rfl⟩ | ⟨k7, k6, rfl⟩
          all_goals (go_wp2_with fail; go_meet; exact ⟨rfl, rfl⟩)
        case rest =>
          obtain ⟨rfl, rfl⟩ := hcut; go_upto_region 21 with fail
          go_cut [97] (fun s97 wx => s97 = .bool false ∧ w2.drewN nq = wx)
          case first =>
            rcases HBD.out with ⟨rfl, k6⟩ | ⟨rfl, k6, hl5⟩ | ⟨rfl, k6, hl4, hl5⟩
            · have k6' : (k != 6) = false := by rw [bne, k6]; rfl
              go_wp2_with fail
              go_meet
              exact ⟨rfl, rfl⟩
            · have k6' : (k != 6) = true := by rw [bne, k6]; rfl
              have l5b : decide (0 < L5) = false := decide_eq_false (by omega); have l5c : decide ((0 : Int) < (L5 : Int)) = false := decide_eq_false (by omega); have l5d : ¬ 0 < L5 := by omega
              have HZ := Lib.hid hl5; clear hl5
              go_wp2_with fail
              go_meet
              exact ⟨rfl, rfl⟩
            · have k6' : (k != 6) = true := by rw [bne, k6]; rfl
              have l4b : decide (0 < L4) = false := decide_eq_false (by omega); have l4c : decide ((0 : Int) < (L4 : Int)) = false := decide_eq_false (by omega); have l4d : ¬ 0 < L4 := by omega
              have l5b : decide (0 < L5) = false := decide_eq_false (by omega); have l5c : decide ((0 : Int) < (L5 : Int)) = false := decide_eq_false (by omega); have l5d : ¬ 0 < L5 := by omega
              have HZ := Lib.hid hl5; have HZ4 := Lib.hid hl4; clear hl5 hl4
              go_wp2_with fail
              go_meet
              exact ⟨rfl, rfl⟩
          case rest =>
            obtain ⟨rfl, rfl⟩ := hcut
            go_wp2
            go_loopw [101] (fun v101 wr => SRel k f1 f2 A3 A4 A5 L3 c3 L4 c4 L5 c5 gb l3 (b1, m1) g w0 w v101 wr) (fun v101 _ => L3 - (intOf v101).toNat)
            case atStart => exact ⟨0, n, rfl, Int.le_refl _, by omega, h0, h1, HR, ⟨z_195⟩, ⟨z_16⟩, ⟨z_196⟩, ⟨z_198⟩⟩
            case round =>
              unfold SRel at hrel; clear HR HI HB HK BK hcz0 hfz0 hcz1 hfz1 hcz2 hfz2 hcz3 hfz3 hcz4 hfz4 hcz5 hfz5; obtain ⟨i, j, rfl, hi0, hi1, hj0, hj1, HR, HI, HB, HK, BK⟩ := hrel; by_cases hlt : i < (L3 : Int)
              · have hlt' : i < (l3.length : Int) := by rw [HL3.out]; exact hlt
                have hb0 : decide (i < (L3 : Int)) = true := decide_eq_true hlt; have hdr := drop_rd38 l3 i hi0 hlt'; have HR0 := HR.out; rw [hdr] at HR0; unfold goE at HR0; obtain ⟨ad, Aq, cq, eA, hx0, hx1, hx2, hx3, hx4, hl4, hi4⟩ := at_T38 HC3.out i hi0 hlt'; subst eA; replace hx0 := (HB.out.cell (World.block_lt_of_cell? w0 _ hx0)).trans hx0; replace hx1 := (HB.out.cell (World.block_lt_of_cell? w0 _ hx1)).trans hx1; replace hx2 := (HB.out.cell (World.block_lt_of_cell? w0 _ hx2)).trans hx2; replace hx3 := (HB.out.cell (World.block_lt_of_cell? w0 _ hx3)).trans hx3; replace hx4 := (HB.out.cell (World.block_lt_of_cell? w0 _ hx4)).trans hx4; have HC4 := A_0 hi4; have HL4 := A_0 hl4; have p1 := eq_true hi0; have p2 := eq_true hlt; obtain ⟨bq, mq, hr1⟩ : ∃ bq mq, cE 48 j (rd_T38 l3 i) = (bq, mq) := pair_of _; have hin := cE_in 48 j (rd_T38 l3 i) hj0 hj1; rw [hr1] at HR0 hin; have HR1 := A_0 (show cE 48 j ⟨(rd_T38 l3 i).f0, (rd_T38 l3 i).f1, (rd_T38 l3 i).f2, (rd_T38 l3 i).f3, (rd_T38 l3 i).f4⟩ = (bq, mq) from by rw [eta38]; exact hr1)
                have HIN := A_0 hin; clear hdr hr1 hi4 hl4 hin HR; cases bq with
                | true =>
                  have HR := A_0 (show goE (cE 48) mq (l3.drop (i + 1).toNat) = (b1, m1) from HR0); clear HR0
                  go_wp2_with fail
                  (with_reducible refine ((expr_all 48 (by omega)).use (rd_T38 l3 i).f0 (rd_T38 l3 i).f1 (rd_T38 l3 i).f2 (rd_T38 l3 i).f3 (rd_T38 l3 i).f4 Aq cq j true mq g w0 _ HC4.out HL4.out hj0 hj1 (z_195) (z_16) HR1.out 1 (by omega)).mono ?_)
                  rintro e w5 ⟨rfl, hi5, hb5, hk5⟩; have n0_ := A_0 hi5; have n1_ := A_0 hb5; have n3_ := A_0 (KeepBut.blk (o := .cells #[.int .i64 k, .string f1, .int .i64 f2, .slice _ L3 c3, .slice A4 L4 c4, .slice A5 L5 c5] 41 (0, 0)) hk5 (z_198) GN.out (by simp)); have n2_ := A_0 (KeepBut.trans (show KeepBut w _ g none from z_196) hk5 (.inl rfl)); clear HI HB HK BK hi5 hb5 hk5; have HI := n0_; have HB := n1_; have HK := n2_; have BK := n3_; clear n0_ n1_ n2_ n3_
                  go_wp2
                  go_roundw
                  case rel => exact ⟨i + 1, mq, rfl, by omega, by omega, HIN.out.1, HIN.out.2.2 rfl, HR, ⟨z_195⟩, ⟨z_16⟩, ⟨z_196⟩, ⟨z_198⟩⟩
                  case measure => simp [intOf]; omega
                | false =>
                  have HE := A_0 (show (false, mq) = (b1, m1) from HR0); clear HR0
                  go_wp2_with fail
                  (with_reducible refine ((expr_all 48 (by omega)).use (rd_T38 l3 i).f0 (rd_T38 l3 i).f1 (rd_T38 l3 i).f2 (rd_T38 l3 i).f3 (rd_T38 l3 i).f4 Aq cq j false mq g w0 _ HC4.out HL4.out hj0 hj1 (z_195) (z_16) HR1.out 1 (by omega)).mono ?_)
                  rintro e w5 ⟨rfl, hi5, hb5, hk5⟩; have n0_ := A_0 hi5; have n1_ := A_0 hb5; have n3_ := A_0 (KeepBut.blk (o := .cells #[.int .i64 k, .string f1, .int .i64 f2, .slice _ L3 c3, .slice A4 L4 c4, .slice A5 L5 c5] 41 (0, 0)) hk5 (z_198) GN.out (by simp)); have n2_ := A_0 (KeepBut.trans (show KeepBut w _ g none from z_196) hk5 (.inl rfl)); clear HI HB HK BK hi5 hb5 hk5; have HI := n0_; have HB := n1_; have HK := n2_; have BK := n3_; clear n0_ n1_ n2_ n3_
                  go_wp2
                  go_ret
                  have he := HE.out; injection he with he1 he2; subst he1 he2; have hfin := HFIN.out; unfold SFin at hfin; have hfin2 : r = false ∧ m = mq := by
                    rcases hfin with h | h | h | h | h
                    · exact h.2
                    all_goals exact absurd h.1 (by simp)
                  obtain ⟨rfl, rfl⟩ := hfin2; exact z_193
              · have hb0 : decide (i < (L3 : Int)) = false := decide_eq_false hlt
                have he : goE (cE 48) j (l3.drop i.toNat) = (true, j) := by
                  rw [List.drop_eq_nil_of_le (by have := HL3.out; omega)]
                  rfl
                have he2 := he.symm.trans HR.out; injection he2 with e1 e2; have hfin := HFIN.out; rw [← e1, ← e2] at hfin; unfold SFin at hfin; clear he HR e1 e2 HFIN; obtain ⟨hcz0, hcz1, hcz2, hcz3, hcz4, hcz5⟩ := blkc6 BK.out; obtain ⟨hfz0, hfz1, hfz2, hfz3, hfz4, hfz5⟩ := blkf6 BK.out; rcases hfin with h | ⟨_, h2, h3, h4, h5⟩ | ⟨_, h2, h3, h4, h5, h6⟩ | ⟨_, h2, h3, h4, h5, h6, h7⟩ | ⟨_, h2, h3, h4, m2, h5, h6, h7, h8, h9⟩
                · exact absurd h.1 (by simp)
                · subst h2 h4 h5
                  have l5a : ((L5 : Int) == 0) = true := beq_iff_eq.2 (by omega); have HZ := Lib.hid h3; clear h3
                  go_wp2
                  go_ret
                  exact z_193
                · subst h2 h6
                  have H5 := A_0 h5; clear h5
                  go_wp2_with fail
                  (with_reducible refine (BC.out.use l4 L4 A4 c4 j false m g w0 _ HL4.out HC4.out (by have := HCS4.out; omega) h3 h4 (z_195) (z_16) H5.out _ HBL.out).mono ?_)
                  rintro e w5 ⟨rfl, hi5, hb5, hk5⟩; have n0_ := A_0 hi5; have n1_ := A_0 hb5; have n3_ := A_0 (KeepBut.blk (o := .cells #[.int .i64 k, .string f1, .int .i64 f2, .slice _ L3 c3, .slice A4 L4 c4, .slice A5 L5 c5] 41 (0, 0)) hk5 (z_198) GN.out (by simp)); have n2_ := A_0 (KeepBut.trans (show KeepBut w _ g none from z_196) hk5 (.inl rfl)); clear HI HB HK BK hi5 hb5 hk5; have HI := n0_; have HB := n1_; have HK := n2_; have BK := n3_; clear n0_ n1_ n2_ n3_
                  go_wp2
                  go_ret
                  exact z_193
                · subst h2 h6
                  have H5 := A_0 h5; have l5a : ((L5 : Int) == 0) = true := beq_iff_eq.2 (by omega); have HZ := Lib.hid h7; clear h5 h7
                  go_wp2_with fail
                  (with_reducible refine (BC.out.use l4 L4 A4 c4 j true m g w0 _ HL4.out HC4.out (by have := HCS4.out; omega) h3 h4 (z_195) (z_16) H5.out _ HBL.out).mono ?_)
                  rintro e w5 ⟨rfl, hi5, hb5, hk5⟩; have n0_ := A_0 hi5; have n1_ := A_0 hb5; have n3_ := A_0 (KeepBut.blk (o := .cells #[.int .i64 k, .string f1, .int .i64 f2, .slice _ L3 c3, .slice A4 L4 c4, .slice A5 L5 c5] 41 (0, 0)) hk5 (z_198) GN.out (by simp)); have n2_ := A_0 (KeepBut.trans (show KeepBut w _ g none from z_196) hk5 (.inl rfl)); clear HI HB HK BK hi5 hb5 hk5; have HI := n0_; have HB := n1_; have HK := n2_; have BK := n3_; clear n0_ n1_ n2_ n3_; clear hcz0 hfz0 hcz1 hfz1 hcz2 hfz2 hcz3 hfz3 hcz4 hfz4 hcz5 hfz5; obtain ⟨hcz0, hcz1, hcz2, hcz3, hcz4, hcz5⟩ := blkc6 BK.out; obtain ⟨hfz0, hfz1, hfz2, hfz3, hfz4, hfz5⟩ := blkf6 BK.out
                  go_wp2
                  go_ret
                  exact z_193
                · subst h2
                  have H5 := A_0 h5; have H9 := A_0 h9; have l5a : ((L5 : Int) == 0) = false := beq_eq_false_iff_ne.2 (by omega); clear h5 h9
                  go_wp2_with fail
                  (with_reducible refine (BC.out.use l4 L4 A4 c4 j true m2 g w0 _ HL4.out HC4.out (by have := HCS4.out; omega) h3 h4 (z_195) (z_16) H5.out _ HBL.out).mono ?_)
                  rintro e w5 ⟨rfl, hi5, hb5, hk5⟩; have n0_ := A_0 hi5; have n1_ := A_0 hb5; have n3_ := A_0 (KeepBut.blk (o := .cells #[.int .i64 k, .string f1, .int .i64 f2, .slice _ L3 c3, .slice A4 L4 c4, .slice A5 L5 c5] 41 (0, 0)) hk5 (z_198) GN.out (by simp)); have n2_ := A_0 (KeepBut.trans (show KeepBut w _ g none from z_196) hk5 (.inl rfl)); clear HI HB HK BK hi5 hb5 hk5; have HI := n0_; have HB := n1_; have HK := n2_; have BK := n3_; clear n0_ n1_ n2_ n3_; clear hcz0 hfz0 hcz1 hfz1 hcz2 hfz2 hcz3 hfz3 hcz4 hfz4 hcz5 hfz5; obtain ⟨hcz0, hcz1, hcz2, hcz3, hcz4, hcz5⟩ := blkc6 BK.out; obtain ⟨hfz0, hfz1, hfz2, hfz3, hfz4, hfz5⟩ := blkf6 BK.out; cases r with
                  | true =>
                    go_wp2_with fail
                    (with_reducible refine (BC.out.use l5 L5 A5 c5 m2 true m g w0 _ HL5.out HC5.out (by have := HCS5.out; omega) h6 h7 (z_195) (z_16) H9.out _ HBL.out).mono ?_)
                    rintro e w6 ⟨rfl, hi5, hb5, hk5⟩; have n0_ := A_0 hi5; have n1_ := A_0 hb5; have n3_ := A_0 (KeepBut.blk (o := .cells #[.int .i64 k, .string f1, .int .i64 f2, .slice _ L3 c3, .slice A4 L4 c4, .slice A5 L5 c5] 41 (0, 0)) hk5 (z_198) GN.out (by simp)); have n2_ := A_0 (KeepBut.trans (show KeepBut w _ g none from z_196) hk5 (.inl rfl)); clear HI HB HK BK hi5 hb5 hk5; have HI := n0_; have HB := n1_; have HK := n2_; have BK := n3_; clear n0_ n1_ n2_ n3_
                    go_wp2
                    go_ret
                    exact z_193
                  | false =>
                    go_wp2_with fail
                    (with_reducible refine (BC.out.use l5 L5 A5 c5 m2 false m g w0 _ HL5.out HC5.out (by have := HCS5.out; omega) h6 h7 (z_195) (z_16) H9.out _ HBL.out).mono ?_)
                    rintro e w6 ⟨rfl, hi5, hb5, hk5⟩; have n0_ := A_0 hi5; have n1_ := A_0 hb5; have n3_ := A_0 (KeepBut.blk (o := .cells #[.int .i64 k, .string f1, .int .i64 f2, .slice _ L3 c3, .slice A4 L4 c4, .slice A5 L5 c5] 41 (0, 0)) hk5 (z_198) GN.out (by simp)); have n2_ := A_0 (KeepBut.trans (show KeepBut w _ g none from z_196) hk5 (.inl rfl)); clear HI HB HK BK hi5 hb5 hk5; have HI := n0_; have HB := n1_; have HK := n2_; have BK := n3_; clear n0_ n1_ n2_ n3_
                    go_wp2
                    go_ret
                    exact z_193
end Go.Proofs.Ytobkdmmnbnpemaa.K
