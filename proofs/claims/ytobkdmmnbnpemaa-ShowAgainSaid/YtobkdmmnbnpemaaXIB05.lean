/- Texts of the claim, one behind the other. -/
import Derived.Test.YtobkdmmnbnpemaaXIB04
import Derived.Deep.RegionHeld3
import Derived.Lib.Hide
import Derived.Test.YtobkdmmnbnpemaaXIB00
import Derived.Test.YtobkdmmnbnpemaaXIB03
import Derived.Outline
import Derived.Test.YtobkdmmnbnpemaaXIB01
import Derived.Lib.EndianBits
set_option maxHeartbeats 16000000
set_option maxRecDepth 100000
namespace Go.Proofs.Ytobkdmmnbnpemaa.K
open Go.RowKit Go.Proofs.YtobkdmmnbnpemaaW.PrintWords Go.Proofs.YtobkdmmnbnpemaaW.PrintLast Go.Proofs.YtobkdmmnbnpemaaW.PrintMore
attribute [local go_sem] max2_int min2_int max_two min_two max_three min_three max_four min_four
set_option linter.unusedVariables false
set_option linter.unusedSimpArgs false
theorem sBx_get {f : Int → S41 → Option (List UInt8)} {n : Int} {l : List S41} {b : List UInt8} (h : sBx f n l = some b) : l.length ≤ 1000000 ∧ sB f n l = some b := by
 unfold sBx at h; by_cases q : l.length ≤ 1000000
 ·rw [if_pos q] at h; exact ⟨q, h⟩
 ·rw [if_neg q] at h; simp at h
theorem branch_none (K d : Nat) (f : Int → S41 → Option (List UInt8)) (SC0 : StC d f) (ahead test : ByteArray) (k : Int) (f1 : ByteArray) (f2 : Int) (l3 : List S38) (l4 l5 : List S41) (L3 L4 L5 : Nat) (A3 A4 A5 : Option Addr) (c3 c4 c5 : Nat) (n : Int) (r t b : List UInt8) (g : Nat) (w0 w : World)
 (hn0 : 0 ≤ n) (hn1 : n + d + 1 ≤ 900) (hW : IsW w0.heap.size w g t n) (hB : Below w0.heap.size w0 w) (hL3 : l3.length = L3) (hL4 : l4.length = L4) (hL5 : l5.length = L5) (hC3 : Kd.C k38 w0 A3 l3.length l3) (hC4 : Kd.C k41 w0 A4 l4.length l4) (hC5 : Kd.C k41 w0 A5 l5.length l5) (hc3 : L3 ≤ c3) (hc4 : L4 ≤ c4) (hc5 : L5 ≤ c5) (hs : t.length + r.length ≤ 1000000000) (hb : sBx f (n + 1) l4 = some b) (h5 : L5 = 0) (hr : r = lineB n [ahead, ⟨#[105, 102, 32, 40]⟩, test, ⟨#[41, 32, 123]⟩] ++ (b ++ lineB n [⟨#[125]⟩])) :
  Calls Try.prog 62 #[.pointer (some ⟨g, 0, none⟩), .string ahead, .agg #[.int .i64 k, .string f1, .int .i64 f2, .slice A3 L3 c3, .slice A4 L4 c4, .slice A5 L5 c5], .string test] w (LPost w0.heap.size g (t ++ r) n w0 w) := by
 have hu41 := Try.underlying41; have hu38 := Try.underlying38; have HW := A_0 hW; have HB := A_0 hB; have HB2 := A_0 (xbr w.heap.size w); have SC := A_0 SC0; have HL3 := A_0 hL3; have HL4 := A_0 hL4; have HL5 := A_0 hL5; have HC3 := A_0 hC3; have HC4 := A_0 hC4; have HC5 := A_0 hC5; have HN1 := A_0 hn1; have HS := A_0 hs; have HC4L := A_0 hc4; have HC5L := A_0 hc5; have hn9 : n ≤ 900 := by omega
 clear SC0 hW hB hL3 hL4 hL5 hC3 hC4 hC5 hs hn1 hc4 hc5; have hl4 : l4.length ≤ 1000000 ∧ sB f (n + 1) l4 = some b := sBx_get hb; have HBS := A_0 hl4; clear hl4 hb; have HRR := A_0 hr; clear hr; have GE := A_0 (IsW.ge HW.out); have l5a : ((L5 : Int) == 1) = false := beq_eq_false_iff_ne.2 (by omega); have l5b : decide (0 < L5) = false := xdf (by omega); have l5c : decide ((0 : Int) < (L5 : Int)) = false := xdf (by omega); have l5d : ¬ 0 < L5 := by omega
 have HZ := Lib.hid h5; clear h5
 have SZ1 := A_0 (show (t).length + (([ahead, ⟨#[105, 102, 32, 40]⟩, test, ⟨#[41, 32, 123]⟩] : List ByteArray).map lst).flatten.length ≤ 1000000000 by
  refine size_line (n := n) ?_
  have := HS.out; rw [HRR.out] at this; simp only [List.length_append] at this ⊢
  omega)
 have SZ2 := A_0 (show (t ++ lineB n [ahead, ⟨#[105, 102, 32, 40]⟩, test, ⟨#[41, 32, 123]⟩]).length + (b).length ≤ 1000000000 by
  have := HS.out; rw [HRR.out] at this; simp only [List.length_append] at this ⊢
  omega)
 have SZ3 := A_0 (show (t ++ lineB n [ahead, ⟨#[105, 102, 32, 40]⟩, test, ⟨#[41, 32, 123]⟩] ++ b).length + (([⟨#[125]⟩] : List ByteArray).map lst).flatten.length ≤ 1000000000 by
  refine size_line (n := n) ?_
  have := HS.out; rw [HRR.out] at this; simp only [List.length_append] at this ⊢
  omega)
 go_enter Try.func62, Try.ntmps62
 go_wp2_with (first | ((with_reducible refine gate_dst (N := 6) rfl ?_); refine bx (a41 k f1 f2 A3 L3 c3 A4 L4 c4 A5 L5 c5) 41 ?_; intro gb hg w2 hbox hb; replace HB2 := A_0 (xbs HB2.out hb); have BK := A_0 hbox; have GE2 := A_0 (show w.heap.size ≤ gb by rw [hg]; exact xlr _); clear hb hbox hg; obtain ⟨hcz0, hcz1, hcz2, hcz3, hcz4, hcz5⟩ := blkc6 BK.out; obtain ⟨hfz0, hfz1, hfz2, hfz3, hfz4, hfz5⟩ := blkf6 BK.out))
 replace HW := A_0 (IsW.below HW.out HB2.out); replace HB := A_0 (show Below w0.heap.size w0 w2 from (HB.out).trans (HB2.out.mono (below_size HB.out))); have HK := A_0 (KeepT.of_below HB2.out g); clear HB2
 go_wp2_with fail
 (with_reducible refine (line_calls t n [ahead, ⟨#[105, 102, 32, 40]⟩, test, ⟨#[41, 32, 123]⟩] _ 4 g w0 _ hn0 (by omega) rfl (by omega) (z_1) (z_2) (blk_lit4 _ _ _ _ _) SZ1.out).mono ?_)
 rintro e w6 ⟨rfl, hw6, hb6, hk6⟩; have n0_ := A_0 hw6; have n1_ := A_0 hb6; have n4_ := A_0 (KeepT.blk (cs := a41 k f1 f2 A3 L3 c3 A4 L4 c4 A5 L5 c5) (t := 41) hk6 (z_5) (IsW.ne_blk HW.out BK.out (by decide)) (by decide)); have n3_ := A_0 (KeepT.trans (show KeepT w _ g from z_3) hk6); clear HW HB HK BK hw6 hb6 hk6 hcz0 hfz0 hcz1 hfz1 hcz2 hfz2 hcz3 hfz3 hcz4 hfz4 hcz5 hfz5; have HW := n0_; have HB := n1_; have HK := n3_; have BK := n4_; clear n0_ n1_ n3_ n4_; obtain ⟨hcz0, hcz1, hcz2, hcz3, hcz4, hcz5⟩ := blkc6 BK.out; obtain ⟨hfz0, hfz1, hfz2, hfz3, hfz4, hfz5⟩ := blkf6 BK.out
 go_wp2_with fail
 (with_reducible refine (within_calls d f SC.out l4 L4 A4 c4 n b (t ++ lineB n [ahead, ⟨#[105, 102, 32, 40]⟩, test, ⟨#[41, 32, 123]⟩]) g w0 _ HBS.out.2 hn0 (by have := HN1.out; omega) HL4.out (z_1) (z_2) HC4.out HC4L.out (z_7) SZ2.out).mono ?_)
 rintro e w7 ⟨rfl, hw6, hb6, hk6⟩; have n0_ := A_0 hw6; have n1_ := A_0 hb6; have n4_ := A_0 (KeepT.blk (cs := a41 k f1 f2 A3 L3 c3 A4 L4 c4 A5 L5 c5) (t := 41) hk6 (z_5) (IsW.ne_blk HW.out BK.out (by decide)) (by decide)); have n3_ := A_0 (KeepT.trans (show KeepT w _ g from z_3) hk6); clear HW HB HK BK hw6 hb6 hk6 hcz0 hfz0 hcz1 hfz1 hcz2 hfz2 hcz3 hfz3 hcz4 hfz4 hcz5 hfz5; have HW := n0_; have HB := n1_; have HK := n3_; have BK := n4_; clear n0_ n1_ n3_ n4_; obtain ⟨hcz0, hcz1, hcz2, hcz3, hcz4, hcz5⟩ := blkc6 BK.out; obtain ⟨hfz0, hfz1, hfz2, hfz3, hfz4, hfz5⟩ := blkf6 BK.out
 go_wp2_with fail
 (with_reducible refine (line_calls (t ++ lineB n [ahead, ⟨#[105, 102, 32, 40]⟩, test, ⟨#[41, 32, 123]⟩] ++ b) n [⟨#[125]⟩] _ 1 g w0 _ hn0 (by omega) rfl (by omega) (z_1) (z_2) (blk_lit1 _ _) SZ3.out).mono ?_)
 rintro e w8 ⟨rfl, hw6, hb6, hk6⟩; have n0_ := A_0 hw6; have n1_ := A_0 hb6; have n4_ := A_0 (KeepT.blk (cs := a41 k f1 f2 A3 L3 c3 A4 L4 c4 A5 L5 c5) (t := 41) hk6 (z_5) (IsW.ne_blk HW.out BK.out (by decide)) (by decide)); have n3_ := A_0 (KeepT.trans (show KeepT w _ g from z_3) hk6); clear HW HB HK BK hw6 hb6 hk6 hcz0 hfz0 hcz1 hfz1 hcz2 hfz2 hcz3 hfz3 hcz4 hfz4 hcz5 hfz5; have HW := n0_; have HB := n1_; have HK := n3_; have BK := n4_; clear n0_ n1_ n3_ n4_; obtain ⟨hcz0, hcz1, hcz2, hcz3, hcz4, hcz5⟩ := blkc6 BK.out; obtain ⟨hfz0, hfz1, hfz2, hfz3, hfz4, hfz5⟩ := blkf6 BK.out
 go_wp2
 go_end0
 exact z_8
theorem branch_else (K d : Nat) (f : Int → S41 → Option (List UInt8)) (SC0 : StC d f) (ahead test : ByteArray) (k : Int) (f1 : ByteArray) (f2 : Int) (l3 : List S38) (l4 l5 : List S41) (L3 L4 L5 : Nat) (A3 A4 A5 : Option Addr) (c3 c4 c5 : Nat) (n : Int) (r t b : List UInt8) (g : Nat) (w0 w : World)
 (hn0 : 0 ≤ n) (hn1 : n + d + 1 ≤ 900) (hW : IsW w0.heap.size w g t n) (hB : Below w0.heap.size w0 w) (hL3 : l3.length = L3) (hL4 : l4.length = L4) (hL5 : l5.length = L5) (hC3 : Kd.C k38 w0 A3 l3.length l3) (hC4 : Kd.C k41 w0 A4 l4.length l4) (hC5 : Kd.C k41 w0 A5 l5.length l5) (hc3 : L3 ≤ c3) (hc4 : L4 ≤ c4) (hc5 : L5 ≤ c5) (hs : t.length + r.length ≤ 1000000000) (hb : sBx f (n + 1) l4 = some b) (e5 : List UInt8) (hb5 : sBx f (n + 1) l5 = some e5) (h5 : L5 ≠ 0) (hif : L5 = 1 → (rd_T41 l5 0).f0 ≠ 6) (hr : r = lineB n [ahead, ⟨#[105, 102, 32, 40]⟩, test, ⟨#[41, 32, 123]⟩] ++ (b ++ (lineB n [⟨#[125, 32, 101, 108, 115, 101, 32, 123]⟩] ++ (e5 ++ lineB n [⟨#[125]⟩])))) :
  Calls Try.prog 62 #[.pointer (some ⟨g, 0, none⟩), .string ahead, .agg #[.int .i64 k, .string f1, .int .i64 f2, .slice A3 L3 c3, .slice A4 L4 c4, .slice A5 L5 c5], .string test] w (LPost w0.heap.size g (t ++ r) n w0 w) := by
 have hl5 : l5.length ≤ 1000000 ∧ sB f (n + 1) l5 = some e5 := sBx_get hb5; have HBS5 := A_0 hl5; clear hl5 hb5; have hu41 := Try.underlying41; have hu38 := Try.underlying38; have HW := A_0 hW; have HB := A_0 hB; have HB2 := A_0 (xbr w.heap.size w); have SC := A_0 SC0; have HL3 := A_0 hL3; have HL4 := A_0 hL4; have HL5 := A_0 hL5; have HC3 := A_0 hC3; have HC4 := A_0 hC4; have HC5 := A_0 hC5; have HN1 := A_0 hn1; have HS := A_0 hs; have HC4L := A_0 hc4; have HC5L := A_0 hc5; have hn9 : n ≤ 900 := by omega
 clear SC0 hW hB hL3 hL4 hL5 hC3 hC4 hC5 hs hn1 hc4 hc5; have hl4 : l4.length ≤ 1000000 ∧ sB f (n + 1) l4 = some b := sBx_get hb; have HBS := A_0 hl4; clear hl4 hb; have HRR := A_0 hr; clear hr; have GE := A_0 (IsW.ge HW.out); have l5b : decide (0 < L5) = true := xdt (by omega); have l5c : decide ((0 : Int) < (L5 : Int)) = true := xdt (by omega); have l5d : 0 < L5 := by omega
 have HIF := Lib.hid hif; clear hif
 have SZ1 := A_0 (show (t).length + (([ahead, ⟨#[105, 102, 32, 40]⟩, test, ⟨#[41, 32, 123]⟩] : List ByteArray).map lst).flatten.length ≤ 1000000000 by
  refine size_line (n := n) ?_
  have := HS.out; rw [HRR.out] at this; simp only [List.length_append] at this ⊢
  omega)
 have SZ2 := A_0 (show (t ++ lineB n [ahead, ⟨#[105, 102, 32, 40]⟩, test, ⟨#[41, 32, 123]⟩]).length + (b).length ≤ 1000000000 by
  have := HS.out; rw [HRR.out] at this; simp only [List.length_append] at this ⊢
  omega)
 have SZ3 := A_0 (show (t ++ lineB n [ahead, ⟨#[105, 102, 32, 40]⟩, test, ⟨#[41, 32, 123]⟩] ++ b).length + (([⟨#[125, 32, 101, 108, 115, 101, 32, 123]⟩] : List ByteArray).map lst).flatten.length ≤ 1000000000 by
  refine size_line (n := n) ?_
  have := HS.out; rw [HRR.out] at this; simp only [List.length_append] at this ⊢
  omega)
 have SZ4 := A_0 (show (t ++ lineB n [ahead, ⟨#[105, 102, 32, 40]⟩, test, ⟨#[41, 32, 123]⟩] ++ b ++ lineB n [⟨#[125, 32, 101, 108, 115, 101, 32, 123]⟩]).length + (e5).length ≤ 1000000000 by
  have := HS.out; rw [HRR.out] at this; simp only [List.length_append] at this ⊢
  omega)
 have SZ5 := A_0 (show (t ++ lineB n [ahead, ⟨#[105, 102, 32, 40]⟩, test, ⟨#[41, 32, 123]⟩] ++ b ++ lineB n [⟨#[125, 32, 101, 108, 115, 101, 32, 123]⟩] ++ e5).length + (([⟨#[125]⟩] : List ByteArray).map lst).flatten.length ≤ 1000000000 by
  refine size_line (n := n) ?_
  have := HS.out; rw [HRR.out] at this; simp only [List.length_append] at this ⊢
  omega)
 go_enter Try.func62, Try.ntmps62
 go_wp2_with (first | ((with_reducible refine gate_dst (N := 6) rfl ?_); refine bx (a41 k f1 f2 A3 L3 c3 A4 L4 c4 A5 L5 c5) 41 ?_; intro gb hg w2 hbox hb; replace HB2 := A_0 (xbs HB2.out hb); have BK := A_0 hbox; have GE2 := A_0 (show w.heap.size ≤ gb by rw [hg]; exact xlr _); clear hb hbox hg; obtain ⟨hcz0, hcz1, hcz2, hcz3, hcz4, hcz5⟩ := blkc6 BK.out; obtain ⟨hfz0, hfz1, hfz2, hfz3, hfz4, hfz5⟩ := blkf6 BK.out))
 replace HW := A_0 (IsW.below HW.out HB2.out); replace HB := A_0 (show Below w0.heap.size w0 w2 from (HB.out).trans (HB2.out.mono (below_size HB.out))); have HK := A_0 (KeepT.of_below HB2.out g); clear HB2
 go_wp2_with fail
 (with_reducible refine (line_calls t n [ahead, ⟨#[105, 102, 32, 40]⟩, test, ⟨#[41, 32, 123]⟩] _ 4 g w0 _ hn0 (by omega) rfl (by omega) (z_1) (z_2) (blk_lit4 _ _ _ _ _) SZ1.out).mono ?_)
 rintro e w6 ⟨rfl, hw6, hb6, hk6⟩; have n0_ := A_0 hw6; have n1_ := A_0 hb6; have n4_ := A_0 (KeepT.blk (cs := a41 k f1 f2 A3 L3 c3 A4 L4 c4 A5 L5 c5) (t := 41) hk6 (z_5) (IsW.ne_blk HW.out BK.out (by decide)) (by decide)); have n3_ := A_0 (KeepT.trans (show KeepT w _ g from z_3) hk6); clear HW HB HK BK hw6 hb6 hk6 hcz0 hfz0 hcz1 hfz1 hcz2 hfz2 hcz3 hfz3 hcz4 hfz4 hcz5 hfz5; have HW := n0_; have HB := n1_; have HK := n3_; have BK := n4_; clear n0_ n1_ n3_ n4_; obtain ⟨hcz0, hcz1, hcz2, hcz3, hcz4, hcz5⟩ := blkc6 BK.out; obtain ⟨hfz0, hfz1, hfz2, hfz3, hfz4, hfz5⟩ := blkf6 BK.out
 go_wp2_with fail
 (with_reducible refine (within_calls d f SC.out l4 L4 A4 c4 n b (t ++ lineB n [ahead, ⟨#[105, 102, 32, 40]⟩, test, ⟨#[41, 32, 123]⟩]) g w0 _ HBS.out.2 hn0 (by have := HN1.out; omega) HL4.out (z_1) (z_2) HC4.out HC4L.out (z_7) SZ2.out).mono ?_)
 rintro e w7 ⟨rfl, hw6, hb6, hk6⟩; have n0_ := A_0 hw6; have n1_ := A_0 hb6; have n4_ := A_0 (KeepT.blk (cs := a41 k f1 f2 A3 L3 c3 A4 L4 c4 A5 L5 c5) (t := 41) hk6 (z_5) (IsW.ne_blk HW.out BK.out (by decide)) (by decide)); have n3_ := A_0 (KeepT.trans (show KeepT w _ g from z_3) hk6); clear HW HB HK BK hw6 hb6 hk6 hcz0 hfz0 hcz1 hfz1 hcz2 hfz2 hcz3 hfz3 hcz4 hfz4 hcz5 hfz5; have HW := n0_; have HB := n1_; have HK := n3_; have BK := n4_; clear n0_ n1_ n3_ n4_; obtain ⟨hcz0, hcz1, hcz2, hcz3, hcz4, hcz5⟩ := blkc6 BK.out; obtain ⟨hfz0, hfz1, hfz2, hfz3, hfz4, hfz5⟩ := blkf6 BK.out; by_cases h1 : L5 = 1
 ·have l5a : ((L5 : Int) == 1) = true := beq_iff_eq.2 (by omega)
  have hk6 : ((rd_T41 l5 0).f0 == 6) = false := beq_eq_false_iff_ne.2 (HIF.out h1); have hl5p : (0 : Int) < (l5.length : Int) := by have := HL5.out; omega
  obtain ⟨ad, Aa, ca, Ab, cb, Ac, cc, eA, hx0, _, _, _, _, _, _⟩ := at_T41 HC5.out 0 (Int.le_refl _) hl5p; subst eA; replace hx0 := (HB.out.cell (xqb w0 _ hx0)).trans hx0; rw [show ((0 : Int)).toNat = 0 from rfl, Nat.zero_mul, Addr.add_zero'] at hx0; have HONE := Lib.hid h1; clear h1
  go_wp2_with fail
  (with_reducible refine (line_calls (t ++ lineB n [ahead, ⟨#[105, 102, 32, 40]⟩, test, ⟨#[41, 32, 123]⟩] ++ b) n [⟨#[125, 32, 101, 108, 115, 101, 32, 123]⟩] _ 1 g w0 _ hn0 (by omega) rfl (by omega) (z_1) (z_2) (blk_lit1 _ _) SZ3.out).mono ?_)
  rintro e w8 ⟨rfl, hw6, hb6, hk6⟩; have n0_ := A_0 hw6; have n1_ := A_0 hb6; have n4_ := A_0 (KeepT.blk (cs := a41 k f1 f2 A3 L3 c3 A4 L4 c4 (some ad) L5 c5) (t := 41) hk6 (z_5) (IsW.ne_blk HW.out BK.out (by decide)) (by decide)); have n3_ := A_0 (KeepT.trans (show KeepT w _ g from z_3) hk6); clear HW HB HK BK hw6 hb6 hk6 hcz0 hfz0 hcz1 hfz1 hcz2 hfz2 hcz3 hfz3 hcz4 hfz4 hcz5 hfz5; have HW := n0_; have HB := n1_; have HK := n3_; have BK := n4_; clear n0_ n1_ n3_ n4_; obtain ⟨hcz0, hcz1, hcz2, hcz3, hcz4, hcz5⟩ := blkc6 BK.out; obtain ⟨hfz0, hfz1, hfz2, hfz3, hfz4, hfz5⟩ := blkf6 BK.out
  go_wp2_with fail
  (with_reducible refine (within_calls d f SC.out l5 L5 (some ad) c5 n e5 (t ++ lineB n [ahead, ⟨#[105, 102, 32, 40]⟩, test, ⟨#[41, 32, 123]⟩] ++ b ++ lineB n [⟨#[125, 32, 101, 108, 115, 101, 32, 123]⟩]) g w0 _ HBS5.out.2 hn0 (by have := HN1.out; omega) HL5.out (z_1) (z_2) HC5.out HC5L.out (by have := HBS5.out.1; have := HL5.out; omega) SZ4.out).mono ?_)
  rintro e w9 ⟨rfl, hw6, hb6, hk6⟩; have n0_ := A_0 hw6; have n1_ := A_0 hb6; have n4_ := A_0 (KeepT.blk (cs := a41 k f1 f2 A3 L3 c3 A4 L4 c4 (some ad) L5 c5) (t := 41) hk6 (z_5) (IsW.ne_blk HW.out BK.out (by decide)) (by decide)); have n3_ := A_0 (KeepT.trans (show KeepT w _ g from z_3) hk6); clear HW HB HK BK hw6 hb6 hk6 hcz0 hfz0 hcz1 hfz1 hcz2 hfz2 hcz3 hfz3 hcz4 hfz4 hcz5 hfz5; have HW := n0_; have HB := n1_; have HK := n3_; have BK := n4_; clear n0_ n1_ n3_ n4_; obtain ⟨hcz0, hcz1, hcz2, hcz3, hcz4, hcz5⟩ := blkc6 BK.out; obtain ⟨hfz0, hfz1, hfz2, hfz3, hfz4, hfz5⟩ := blkf6 BK.out
  go_wp2_with fail
  (with_reducible refine (line_calls (t ++ lineB n [ahead, ⟨#[105, 102, 32, 40]⟩, test, ⟨#[41, 32, 123]⟩] ++ b ++ lineB n [⟨#[125, 32, 101, 108, 115, 101, 32, 123]⟩] ++ e5) n [⟨#[125]⟩] _ 1 g w0 _ hn0 (by omega) rfl (by omega) (z_1) (z_2) (blk_lit1 _ _) SZ5.out).mono ?_)
  rintro e w10 ⟨rfl, hw6, hb6, hk6⟩; have n0_ := A_0 hw6; have n1_ := A_0 hb6; have n4_ := A_0 (KeepT.blk (cs := a41 k f1 f2 A3 L3 c3 A4 L4 c4 (some ad) L5 c5) (t := 41) hk6 (z_5) (IsW.ne_blk HW.out BK.out (by decide)) (by decide)); have n3_ := A_0 (KeepT.trans (show KeepT w _ g from z_3) hk6); clear HW HB HK BK hw6 hb6 hk6 hcz0 hfz0 hcz1 hfz1 hcz2 hfz2 hcz3 hfz3 hcz4 hfz4 hcz5 hfz5; have HW := n0_; have HB := n1_; have HK := n3_; have BK := n4_; clear n0_ n1_ n3_ n4_; obtain ⟨hcz0, hcz1, hcz2, hcz3, hcz4, hcz5⟩ := blkc6 BK.out; obtain ⟨hfz0, hfz1, hfz2, hfz3, hfz4, hfz5⟩ := blkf6 BK.out
  go_wp2
  go_end0
  exact z_8
 ·have l5a : ((L5 : Int) == 1) = false := beq_eq_false_iff_ne.2 (by omega)
  go_wp2_with fail
  (with_reducible refine (line_calls (t ++ lineB n [ahead, ⟨#[105, 102, 32, 40]⟩, test, ⟨#[41, 32, 123]⟩] ++ b) n [⟨#[125, 32, 101, 108, 115, 101, 32, 123]⟩] _ 1 g w0 _ hn0 (by omega) rfl (by omega) (z_1) (z_2) (blk_lit1 _ _) SZ3.out).mono ?_)
  rintro e w8 ⟨rfl, hw6, hb6, hk6⟩; have n0_ := A_0 hw6; have n1_ := A_0 hb6; have n4_ := A_0 (KeepT.blk (cs := a41 k f1 f2 A3 L3 c3 A4 L4 c4 A5 L5 c5) (t := 41) hk6 (z_5) (IsW.ne_blk HW.out BK.out (by decide)) (by decide)); have n3_ := A_0 (KeepT.trans (show KeepT w _ g from z_3) hk6); clear HW HB HK BK hw6 hb6 hk6 hcz0 hfz0 hcz1 hfz1 hcz2 hfz2 hcz3 hfz3 hcz4 hfz4 hcz5 hfz5; have HW := n0_; have HB := n1_; have HK := n3_; have BK := n4_; clear n0_ n1_ n3_ n4_; obtain ⟨hcz0, hcz1, hcz2, hcz3, hcz4, hcz5⟩ := blkc6 BK.out; obtain ⟨hfz0, hfz1, hfz2, hfz3, hfz4, hfz5⟩ := blkf6 BK.out
  go_wp2_with fail
  (with_reducible refine (within_calls d f SC.out l5 L5 A5 c5 n e5 (t ++ lineB n [ahead, ⟨#[105, 102, 32, 40]⟩, test, ⟨#[41, 32, 123]⟩] ++ b ++ lineB n [⟨#[125, 32, 101, 108, 115, 101, 32, 123]⟩]) g w0 _ HBS5.out.2 hn0 (by have := HN1.out; omega) HL5.out (z_1) (z_2) HC5.out HC5L.out (by have := HBS5.out.1; have := HL5.out; omega) SZ4.out).mono ?_)
  rintro e w9 ⟨rfl, hw6, hb6, hk6⟩; have n0_ := A_0 hw6; have n1_ := A_0 hb6; have n4_ := A_0 (KeepT.blk (cs := a41 k f1 f2 A3 L3 c3 A4 L4 c4 A5 L5 c5) (t := 41) hk6 (z_5) (IsW.ne_blk HW.out BK.out (by decide)) (by decide)); have n3_ := A_0 (KeepT.trans (show KeepT w _ g from z_3) hk6); clear HW HB HK BK hw6 hb6 hk6 hcz0 hfz0 hcz1 hfz1 hcz2 hfz2 hcz3 hfz3 hcz4 hfz4 hcz5 hfz5; have HW := n0_; have HB := n1_; have HK := n3_; have BK := n4_; clear n0_ n1_ n3_ n4_; obtain ⟨hcz0, hcz1, hcz2, hcz3, hcz4, hcz5⟩ := blkc6 BK.out; obtain ⟨hfz0, hfz1, hfz2, hfz3, hfz4, hfz5⟩ := blkf6 BK.out
  go_wp2_with fail
  (with_reducible refine (line_calls (t ++ lineB n [ahead, ⟨#[105, 102, 32, 40]⟩, test, ⟨#[41, 32, 123]⟩] ++ b ++ lineB n [⟨#[125, 32, 101, 108, 115, 101, 32, 123]⟩] ++ e5) n [⟨#[125]⟩] _ 1 g w0 _ hn0 (by omega) rfl (by omega) (z_1) (z_2) (blk_lit1 _ _) SZ5.out).mono ?_)
  rintro e w10 ⟨rfl, hw6, hb6, hk6⟩; have n0_ := A_0 hw6; have n1_ := A_0 hb6; have n4_ := A_0 (KeepT.blk (cs := a41 k f1 f2 A3 L3 c3 A4 L4 c4 A5 L5 c5) (t := 41) hk6 (z_5) (IsW.ne_blk HW.out BK.out (by decide)) (by decide)); have n3_ := A_0 (KeepT.trans (show KeepT w _ g from z_3) hk6); clear HW HB HK BK hw6 hb6 hk6 hcz0 hfz0 hcz1 hfz1 hcz2 hfz2 hcz3 hfz3 hcz4 hfz4 hcz5 hfz5; have HW := n0_; have HB := n1_; have HK := n3_; have BK := n4_; clear n0_ n1_ n3_ n4_; obtain ⟨hcz0, hcz1, hcz2, hcz3, hcz4, hcz5⟩ := blkc6 BK.out; obtain ⟨hfz0, hfz1, hfz2, hfz3, hfz4, hfz5⟩ := blkf6 BK.out
  go_wp2
  go_end0
  exact z_8
theorem branch_elif (K d : Nat) (f : Int → S41 → Option (List UInt8)) (SC0 : StC d f) (ahead test : ByteArray) (k : Int) (f1 : ByteArray) (f2 : Int) (l3 : List S38) (l4 l5 : List S41) (L3 L4 L5 : Nat) (A3 A4 A5 : Option Addr) (c3 c4 c5 : Nat) (n : Int) (r t b : List UInt8) (g : Nat) (w0 w : World)
 (hn0 : 0 ≤ n) (hn1 : n + d + 1 ≤ 900) (hW : IsW w0.heap.size w g t n) (hB : Below w0.heap.size w0 w) (hL3 : l3.length = L3) (hL4 : l4.length = L4) (hL5 : l5.length = L5) (hC3 : Kd.C k38 w0 A3 l3.length l3) (hC4 : Kd.C k41 w0 A4 l4.length l4) (hC5 : Kd.C k41 w0 A5 l5.length l5) (hc3 : L3 ≤ c3) (hc4 : L4 ≤ c4) (hc5 : L5 ≤ c5) (hs : t.length + r.length ≤ 1000000000) (hb : sBx f (n + 1) l4 = some b) (br : Int → ByteArray → S41 → ByteArray → Option (List UInt8)) (BC0 : BrC d br) (x : ByteArray) (r2 : List UInt8) (h5 : L5 = 1) (hk6 : (rd_T41 l5 0).f0 = 6) (hne : (rd_T41 l5 0).f3.length ≠ 0) (hx : exT K (rd_T38 (rd_T41 l5 0).f3 0) = some x) (hr2 : br n ⟨#[125, 32, 101, 108, 115, 101, 32]⟩ (rd_T41 l5 0) x = some r2) (hr : r = lineB n [ahead, ⟨#[105, 102, 32, 40]⟩, test, ⟨#[41, 32, 123]⟩] ++ (b ++ r2)) :
  Calls Try.prog 62 #[.pointer (some ⟨g, 0, none⟩), .string ahead, .agg #[.int .i64 k, .string f1, .int .i64 f2, .slice A3 L3 c3, .slice A4 L4 c4, .slice A5 L5 c5], .string test] w (LPost w0.heap.size g (t ++ r) n w0 w) := by
 have BC := A_0 BC0; have HRX := A_0 (show show_Expr.f K (rd_T38 (rd_T41 l5 0).f3 0).f0 (rd_T38 (rd_T41 l5 0).f3 0).f1 (rd_T38 (rd_T41 l5 0).f3 0).f2 (rd_T38 (rd_T41 l5 0).f3 0).f3 (rd_T38 (rd_T41 l5 0).f3 0).f4 = some x from hx); have HR2 := A_0 (show br n ⟨#[125, 32, 101, 108, 115, 101, 32]⟩ ⟨(rd_T41 l5 0).f0, (rd_T41 l5 0).f1, (rd_T41 l5 0).f2, (rd_T41 l5 0).f3, (rd_T41 l5 0).f4, (rd_T41 l5 0).f5⟩ x = some r2 from by rw [eta41]; exact hr2)
 have hk6b : ((rd_T41 l5 0).f0 == 6) = true := beq_iff_eq.2 hk6; have HK6 := Lib.hid hk6; clear BC0 hx hr2 hk6; have hu41 := Try.underlying41; have hu38 := Try.underlying38; have HW := A_0 hW; have HB := A_0 hB; have HB2 := A_0 (xbr w.heap.size w); have SC := A_0 SC0; have HL3 := A_0 hL3; have HL4 := A_0 hL4; have HL5 := A_0 hL5; have HC3 := A_0 hC3; have HC4 := A_0 hC4; have HC5 := A_0 hC5; have HN1 := A_0 hn1; have HS := A_0 hs; have HC4L := A_0 hc4; have HC5L := A_0 hc5; have hn9 : n ≤ 900 := by omega
 clear SC0 hW hB hL3 hL4 hL5 hC3 hC4 hC5 hs hn1 hc4 hc5; have hl4 : l4.length ≤ 1000000 ∧ sB f (n + 1) l4 = some b := sBx_get hb; have HBS := A_0 hl4; clear hl4 hb; have HRR := A_0 hr; clear hr; have GE := A_0 (IsW.ge HW.out); have l5a : ((L5 : Int) == 1) = true := beq_iff_eq.2 (by omega); have l5p : 0 < L5 := by omega
 have l5pi : (0 : Int) < (L5 : Int) := by omega
 have HONE := Lib.hid h5; have HNE := A_0 hne; clear h5 hne
 have SZ1 := A_0 (show (t).length + (([ahead, ⟨#[105, 102, 32, 40]⟩, test, ⟨#[41, 32, 123]⟩] : List ByteArray).map lst).flatten.length ≤ 1000000000 by
  refine size_line (n := n) ?_
  have := HS.out; rw [HRR.out] at this; simp only [List.length_append] at this ⊢
  omega)
 have SZ2 := A_0 (show (t ++ lineB n [ahead, ⟨#[105, 102, 32, 40]⟩, test, ⟨#[41, 32, 123]⟩]).length + (b).length ≤ 1000000000 by
  have := HS.out; rw [HRR.out] at this; simp only [List.length_append] at this ⊢
  omega)
 have SZ3 := A_0 (show (t ++ lineB n [ahead, ⟨#[105, 102, 32, 40]⟩, test, ⟨#[41, 32, 123]⟩] ++ b).length + (r2).length ≤ 1000000000 by
  have := HS.out; rw [HRR.out] at this; simp only [List.length_append] at this ⊢
  omega)
 go_enter Try.func62, Try.ntmps62
 go_wp2_with (first | ((with_reducible refine gate_dst (N := 6) rfl ?_); refine bx (a41 k f1 f2 A3 L3 c3 A4 L4 c4 A5 L5 c5) 41 ?_; intro gb hg w2 hbox hb; replace HB2 := A_0 (xbs HB2.out hb); have BK := A_0 hbox; have GE2 := A_0 (show w.heap.size ≤ gb by rw [hg]; exact xlr _); clear hb hbox hg; obtain ⟨hcz0, hcz1, hcz2, hcz3, hcz4, hcz5⟩ := blkc6 BK.out; obtain ⟨hfz0, hfz1, hfz2, hfz3, hfz4, hfz5⟩ := blkf6 BK.out))
 replace HW := A_0 (IsW.below HW.out HB2.out); replace HB := A_0 (show Below w0.heap.size w0 w2 from (HB.out).trans (HB2.out.mono (below_size HB.out))); have HK := A_0 (KeepT.of_below HB2.out g); clear HB2
 go_wp2_with fail
 (with_reducible refine (line_calls t n [ahead, ⟨#[105, 102, 32, 40]⟩, test, ⟨#[41, 32, 123]⟩] _ 4 g w0 _ hn0 (by omega) rfl (by omega) (z_1) (z_2) (blk_lit4 _ _ _ _ _) SZ1.out).mono ?_)
 rintro e w6 ⟨rfl, hw6, hb6, hk6⟩; have n0_ := A_0 hw6; have n1_ := A_0 hb6; have n4_ := A_0 (KeepT.blk (cs := a41 k f1 f2 A3 L3 c3 A4 L4 c4 A5 L5 c5) (t := 41) hk6 (z_5) (IsW.ne_blk HW.out BK.out (by decide)) (by decide)); have n3_ := A_0 (KeepT.trans (show KeepT w _ g from z_3) hk6); clear HW HB HK BK hw6 hb6 hk6 hcz0 hfz0 hcz1 hfz1 hcz2 hfz2 hcz3 hfz3 hcz4 hfz4 hcz5 hfz5; have HW := n0_; have HB := n1_; have HK := n3_; have BK := n4_; clear n0_ n1_ n3_ n4_; obtain ⟨hcz0, hcz1, hcz2, hcz3, hcz4, hcz5⟩ := blkc6 BK.out; obtain ⟨hfz0, hfz1, hfz2, hfz3, hfz4, hfz5⟩ := blkf6 BK.out
 go_wp2_with fail
 (with_reducible refine (within_calls d f SC.out l4 L4 A4 c4 n b (t ++ lineB n [ahead, ⟨#[105, 102, 32, 40]⟩, test, ⟨#[41, 32, 123]⟩]) g w0 _ HBS.out.2 hn0 (by have := HN1.out; omega) HL4.out (z_1) (z_2) HC4.out HC4L.out (z_7) SZ2.out).mono ?_)
 rintro e w7 ⟨rfl, hw6, hb6, hk6⟩; have n0_ := A_0 hw6; have n1_ := A_0 hb6; have n4_ := A_0 (KeepT.blk (cs := a41 k f1 f2 A3 L3 c3 A4 L4 c4 A5 L5 c5) (t := 41) hk6 (z_5) (IsW.ne_blk HW.out BK.out (by decide)) (by decide)); have n3_ := A_0 (KeepT.trans (show KeepT w _ g from z_3) hk6); clear HW HB HK BK hw6 hb6 hk6 hcz0 hfz0 hcz1 hfz1 hcz2 hfz2 hcz3 hfz3 hcz4 hfz4 hcz5 hfz5; have HW := n0_; have HB := n1_; have HK := n3_; have BK := n4_; clear n0_ n1_ n3_ n4_; obtain ⟨hcz0, hcz1, hcz2, hcz3, hcz4, hcz5⟩ := blkc6 BK.out; obtain ⟨hfz0, hfz1, hfz2, hfz3, hfz4, hfz5⟩ := blkf6 BK.out; have hl5p : (0 : Int) < (l5.length : Int) := by have := HL5.out; omega
 obtain ⟨ad, Aa, ca, Ab, cb, Ac, cc, eA, hx0, hx1, hx2, hx3, hx4, hx5, ga3, hi3, ga4, hi4, ga5, hi5⟩ := at_T41 HC5.out 0 (Int.le_refl _) hl5p; subst eA; have hep : (0 : Int) < ((rd_T41 l5 0).f3.length : Int) := by have := HNE.out; omega
 obtain ⟨ae, Ae, ce, eB, hy0, hy1, hy2, hy3, hy4, gb4, hj4⟩ := at_T38 hi3 0 (Int.le_refl _) hep; subst eB; simp only [show ((0 : Int)).toNat = 0 from rfl, Nat.zero_mul, Addr.add_zero'] at hx0 hx1 hx2 hx3 hx4 hx5 hy0 hy1 hy2 hy3 hy4; have HCa := A_0 hi3; have HCb := A_0 hi4; have HCc := A_0 hi5; have HLa := A_0 ga3; have HLb := A_0 ga4; have HLc := A_0 ga5; have HCE := A_0 (Kd.C_below hj4 HB.out); have HLE := A_0 gb4; have hep2 : 0 < (rd_T41 l5 0).f3.length := by have := HNE.out; omega
 have kx0 := A_0 hx0; replace hx0 := (HB.out.cell (xqb w0 _ hx0)).trans hx0; have kx1 := A_0 hx1; replace hx1 := (HB.out.cell (xqb w0 _ hx1)).trans hx1; have kx2 := A_0 hx2; replace hx2 := (HB.out.cell (xqb w0 _ hx2)).trans hx2; have kx3 := A_0 hx3; replace hx3 := (HB.out.cell (xqb w0 _ hx3)).trans hx3; have kx4 := A_0 hx4; replace hx4 := (HB.out.cell (xqb w0 _ hx4)).trans hx4; have kx5 := A_0 hx5; replace hx5 := (HB.out.cell (xqb w0 _ hx5)).trans hx5; have ky0 := A_0 hy0; replace hy0 := (HB.out.cell (xqb w0 _ hy0)).trans hy0; have ky1 := A_0 hy1; replace hy1 := (HB.out.cell (xqb w0 _ hy1)).trans hy1; have ky2 := A_0 hy2; replace hy2 := (HB.out.cell (xqb w0 _ hy2)).trans hy2; have ky3 := A_0 hy3; replace hy3 := (HB.out.cell (xqb w0 _ hy3)).trans hy3; have ky4 := A_0 hy4; replace hy4 := (HB.out.cell (xqb w0 _ hy4)).trans hy4; clear hi3 hi4 hi5 ga3 ga4 ga5 hj4 gb4 hl5p
 go_wp2
 go_region_held3 (fun w' => w'.cell? ⟨gb, 5, none⟩ = some (.slice (some ad) L5 c5) ∧ w'.cell? ad = some (.int .i64 (rd_T41 l5 0).f0) ∧ w'.cell? ⟨ad.block, ad.off + 1, none⟩ = some (.string (rd_T41 l5 0).f1) ∧ w'.cell? ⟨ad.block, ad.off + 2, none⟩ = some (.int .i64 (rd_T41 l5 0).f2) ∧ w'.cell? ⟨ad.block, ad.off + 3, none⟩ = some (.slice (some ae) (rd_T41 l5 0).f3.length ca) ∧ w'.cell? ⟨ad.block, ad.off + 4, none⟩ = some (.slice Ab (rd_T41 l5 0).f4.length cb) ∧ w'.cell? ⟨ad.block, ad.off + 5, none⟩ = some (.slice Ac (rd_T41 l5 0).f5.length cc) ∧ w'.cell? ae = some (.int .i64 (rd_T38 (rd_T41 l5 0).f3 0).f0) ∧ w'.cell? ⟨ae.block, ae.off + 1, none⟩ = some (.int .i64 (rd_T38 (rd_T41 l5 0).f3 0).f1) ∧ w'.cell? ⟨ae.block, ae.off + 2, none⟩ = some (.string (rd_T38 (rd_T41 l5 0).f3 0).f2) ∧ w'.cell? ⟨ae.block, ae.off + 3, none⟩ = some (.int .i64 (rd_T38 (rd_T41 l5 0).f3 0).f3) ∧ w'.cell? ⟨ae.block, ae.off + 4, none⟩ = some (.slice Ae (rd_T38 (rd_T41 l5 0).f3 0).f4.length ce)) (go_keep) (first | (go_at_call 23; (with_reducible refine (show_Expr.calls K _ _ _ _ _ _ (rd_T38 (rd_T41 l5 0).f3 0).f4 x _ (by (with_reducible repeat (first | refine Kd.C_alloc ?_ _ | refine Kd.C_drewN ?_ _ | refine Kd.C_drew ?_)); exact HCE.out) HLE.out HRX.out).mono ?_); rintro e wE ⟨rfl, hb7⟩; have b1_ := blk_below (show _ = some (b41 k f1 f2 A3 L3 c3 A4 L4 c4 (some ad) L5 c5) from (z_5)) hb7; have kb5_ : wE.cell? ⟨gb, 5, none⟩ = some (.slice (some ad) L5 c5) := (xbc b1_ 5).trans rfl; have hBE := xbs (show Below w0.heap.size w0 _ from z_2) hb7; have qx0_ := (hBE.cell (xqb w0 _ kx0.out)).trans kx0.out; have qx1_ := (hBE.cell (xqb w0 _ kx1.out)).trans kx1.out; have qx2_ := (hBE.cell (xqb w0 _ kx2.out)).trans kx2.out; have qx3_ := (hBE.cell (xqb w0 _ kx3.out)).trans kx3.out; have qx4_ := (hBE.cell (xqb w0 _ kx4.out)).trans kx4.out; have qx5_ := (hBE.cell (xqb w0 _ kx5.out)).trans kx5.out; have qy0_ := (hBE.cell (xqb w0 _ ky0.out)).trans ky0.out; have qy1_ := (hBE.cell (xqb w0 _ ky1.out)).trans ky1.out; have qy2_ := (hBE.cell (xqb w0 _ ky2.out)).trans ky2.out; have qy3_ := (hBE.cell (xqb w0 _ ky3.out)).trans ky3.out; have qy4_ := (hBE.cell (xqb w0 _ ky4.out)).trans ky4.out; replace HW := A_0 (IsW.below (show IsW w0.heap.size _ g (t ++ lineB n [ahead, ⟨#[105, 102, 32, 40]⟩, test, ⟨#[41, 32, 123]⟩] ++ b) n from z_1) hb7); replace HB := A_0 hBE; replace HK := A_0 (KeepT.below (show KeepT w _ g from z_3) hb7); replace BK := A_0 b1_; clear hb7 b1_ hBE HCE) | (go_at_call 62; (with_reducible refine (BC.out.use _ x (rd_T41 l5 0).f0 (rd_T41 l5 0).f1 (rd_T41 l5 0).f2 (rd_T41 l5 0).f3 (rd_T41 l5 0).f4 (rd_T41 l5 0).f5 _ _ _ (some ae) Ab Ac ca cb cc n r2 (t ++ lineB n [ahead, ⟨#[105, 102, 32, 40]⟩, test, ⟨#[41, 32, 123]⟩] ++ b) g w0 _ HR2.out hn0 (by have := HN1.out; omega) (z_1) (z_2) rfl rfl rfl HCa.out HCb.out HCc.out HLa.out HLb.out HLc.out SZ3.out).mono ?_); rintro e wF ⟨rfl, hw6, hb6, hk6⟩; have b1_ := KeepT.blk (cs := a41 k f1 f2 A3 L3 c3 A4 L4 c4 (some ad) L5 c5) (t := 41) hk6 (z_5) (IsW.ne_blk HW.out BK.out (by decide)) (by decide); have kb5_ : wF.cell? ⟨gb, 5, none⟩ = some (.slice (some ad) L5 c5) := (xbc b1_ 5).trans rfl; have qx0_ := (hb6.cell (xqb w0 _ kx0.out)).trans kx0.out; have qx1_ := (hb6.cell (xqb w0 _ kx1.out)).trans kx1.out; have qx2_ := (hb6.cell (xqb w0 _ kx2.out)).trans kx2.out; have qx3_ := (hb6.cell (xqb w0 _ kx3.out)).trans kx3.out; have qx4_ := (hb6.cell (xqb w0 _ kx4.out)).trans kx4.out; have qx5_ := (hb6.cell (xqb w0 _ kx5.out)).trans kx5.out; have qy0_ := (hb6.cell (xqb w0 _ ky0.out)).trans ky0.out; have qy1_ := (hb6.cell (xqb w0 _ ky1.out)).trans ky1.out; have qy2_ := (hb6.cell (xqb w0 _ ky2.out)).trans ky2.out; have qy3_ := (hb6.cell (xqb w0 _ ky3.out)).trans ky3.out; have qy4_ := (hb6.cell (xqb w0 _ ky4.out)).trans ky4.out; replace HW := A_0 hw6; replace HB := A_0 hb6; replace HK := A_0 (KeepT.trans (show KeepT w _ g from z_3) hk6); clear hw6 hb6 hk6))
 go_wp2
 go_end0
 exact z_8
def stGw (K : Nat) (f : Int → S41 → Option (List UInt8)) (br : Int → ByteArray → S41 → ByteArray → Option (List UInt8)) (n : Int) (s : S41) : Option (List UInt8) := if s.f3.length ≤ 2 ∧ 1 ≤ s.f0 ∧ s.f0 ≤ 9 then stF K f br n s else none
def wG (K : Nat) : Nat → (Int → S41 → Option (List UInt8)) × (Int → ByteArray → S41 → ByteArray → Option (List UInt8))
 | 0 => (fun _ _ => none, fun _ _ _ _ => none)
 | d + 1 => (stGw K (wG K d).1 (brF K (wG K d).1 (wG K d).2), brF K (wG K d).1 (wG K d).2)
theorem head1_get {xs : List ByteArray} {g : ByteArray → Option (List UInt8)} {r : List UInt8} (h : head1 xs g = some r) : ∃ x xr, xs = x :: xr ∧ g x = some r := by
 cases xs with
 | nil => simp [head1] at h
 | cons x xr => exact ⟨x, xr, rfl, h⟩
theorem head2_get {xs : List ByteArray} {g : ByteArray → ByteArray → Option (List UInt8)} {r : List UInt8} (h : head2 xs g = some r) : ∃ x y xr, xs = x :: y :: xr ∧ g x y = some r := by
 match xs, h with
 | [], h => simp [head2] at h
 | [_], h => simp [head2] at h
 | x :: y :: xr, h => exact ⟨x, y, xr, rfl, h⟩
theorem br_step (K d : Nat) (f : Int → S41 → Option (List UInt8)) (br : Int → ByteArray → S41 → ByteArray → Option (List UInt8)) (SC : StC d f) (BC : BrC d br) : BrC (d + 1) (brF K f br) := by
 intro ahead test k f1 f2 l3 l4 l5 L3 L4 L5 A3 A4 A5 c3 c4 c5 n r t g w0 w h h0 h1 hW hB hL3 hL4 hL5 hC3 hC4 hC5 hc3 hc4 hc5 hs; unfold brF at h; obtain ⟨b, hb, h⟩ := Option.bind_eq_some_iff.mp h; simp only at hb h; have hn1 : n + d + 1 ≤ 900 := by omega
 by_cases q : l5.length = 1 ∧ (rd_T41 l5 0).f0 = 6
 ·rw [if_pos q] at h
  by_cases q2 : (rd_T41 l5 0).f3.length = 0
  ·rw [if_pos q2] at h; simp at h
  ·rw [if_neg q2] at h
   obtain ⟨x, hx, h⟩ := Option.bind_eq_some_iff.mp h; obtain ⟨r2, hr2, h⟩ := Option.bind_eq_some_iff.mp h; exact branch_elif K d f SC ahead test k f1 f2 l3 l4 l5 L3 L4 L5 A3 A4 A5 c3 c4 c5 n r t b g w0 w h0 hn1 hW hB hL3 hL4 hL5 hC3 hC4 hC5 hc3 hc4 hc5 hs hb br BC x r2 (by omega) q.2 q2 hx hr2 (xsi h).symm
 ·rw [if_neg q] at h
  by_cases q2 : l5.length = 0
  ·rw [if_pos q2] at h
   exact branch_none K d f SC ahead test k f1 f2 l3 l4 l5 L3 L4 L5 A3 A4 A5 c3 c4 c5 n r t b g w0 w h0 hn1 hW hB hL3 hL4 hL5 hC3 hC4 hC5 hc3 hc4 hc5 hs hb (by omega) (xsi h).symm
  ·rw [if_neg q2] at h
   obtain ⟨e5, he5, h⟩ := Option.bind_eq_some_iff.mp h; exact branch_else K d f SC ahead test k f1 f2 l3 l4 l5 L3 L4 L5 A3 A4 A5 c3 c4 c5 n r t b g w0 w h0 hn1 hW hB hL3 hL4 hL5 hC3 hC4 hC5 hc3 hc4 hc5 hs hb e5 he5 (by omega) (fun e6 e7 => q ⟨by omega, e7⟩) (xsi h).symm
theorem st_step (K d : Nat) (f : Int → S41 → Option (List UInt8)) (br : Int → ByteArray → S41 → ByteArray → Option (List UInt8)) (SC : StC d f) (BC : BrC (d + 1) br) : StC (d + 1) (stGw K f br) := by
 intro k f1 f2 l3 l4 l5 A3 A4 A5 c3 c4 c5 n r t g w0 w h h0 h1 hW hB hC3 hC4 hC5 hc3 hc4 hc5 hs; have hn1 : n + d + 1 ≤ 900 := by omega
 unfold stGw at h; simp only at h; by_cases qq : l3.length ≤ 2 ∧ 1 ≤ k ∧ k ≤ 9
 ·rw [if_pos qq] at h
  have ql := qq.1; unfold stF at h; obtain ⟨XS, hX, h⟩ := Option.bind_eq_some_iff.mp h; simp only at hX h; by_cases k1 : k = 1
  ·subst k1
   rw [if_pos rfl] at h; obtain ⟨x, xr, hx, h⟩ := head1_get h; exact stmt_any K d f SC 1 f1 f2 l3 l4 l5 _ _ _ A3 A4 A5 c3 c4 c5 n r t g w0 w XS hX h0 hn1 hW hB rfl rfl rfl hC3 hC4 hC5 hc3 hc4 hc5 ql hs (.inr (.inr (.inr (.inr (.inl ⟨rfl, x, xr, hx, (xsi h).symm⟩)))))
  rw [if_neg k1] at h; by_cases k2 : k = 2
  ·subst k2
   rw [if_pos rfl] at h; obtain ⟨x, xr, hx, h⟩ := head1_get h; exact stmt_any K d f SC 2 f1 f2 l3 l4 l5 _ _ _ A3 A4 A5 c3 c4 c5 n r t g w0 w XS hX h0 hn1 hW hB rfl rfl rfl hC3 hC4 hC5 hc3 hc4 hc5 ql hs (.inr (.inr (.inr (.inr (.inr (.inl ⟨rfl, x, xr, hx, (xsi h).symm⟩))))))
  rw [if_neg k2] at h; by_cases k3 : k = 3
  ·subst k3
   rw [if_pos rfl] at h; obtain ⟨x, y, xr, hx, h⟩ := head2_get h; exact stmt_any K d f SC 3 f1 f2 l3 l4 l5 _ _ _ A3 A4 A5 c3 c4 c5 n r t g w0 w XS hX h0 hn1 hW hB rfl rfl rfl hC3 hC4 hC5 hc3 hc4 hc5 ql hs (.inr (.inr (.inr (.inr (.inr (.inr (.inl ⟨rfl, x, y, xr, hx, (xsi h).symm⟩)))))))
  rw [if_neg k3] at h; by_cases k4 : k = 4
  ·subst k4
   rw [if_pos rfl] at h; obtain ⟨x, xr, hx, h⟩ := head1_get h; exact stmt_any K d f SC 4 f1 f2 l3 l4 l5 _ _ _ A3 A4 A5 c3 c4 c5 n r t g w0 w XS hX h0 hn1 hW hB rfl rfl rfl hC3 hC4 hC5 hc3 hc4 hc5 ql hs (.inl ⟨rfl, x, xr, hx, (xsi h).symm⟩)
  rw [if_neg k4] at h; by_cases k5 : k = 5
  ·subst k5
   rw [if_pos rfl] at h; obtain ⟨cT, hct, h⟩ := Option.bind_eq_some_iff.mp h; obtain ⟨x, xr, hx, h⟩ := head1_get h; exact stmt_any K d f SC 5 f1 f2 l3 l4 l5 _ _ _ A3 A4 A5 c3 c4 c5 n r t g w0 w XS hX h0 hn1 hW hB rfl rfl rfl hC3 hC4 hC5 hc3 hc4 hc5 ql hs (.inr (.inr (.inr (.inr (.inr (.inr (.inr (.inl ⟨rfl, cT, hct, x, xr, hx, (xsi h).symm⟩))))))))
  rw [if_neg k5] at h; by_cases k8 : k = 8
  ·subst k8
   rw [if_pos rfl] at h; obtain ⟨x, xr, hx, h⟩ := head1_get h; exact stmt_any K d f SC 8 f1 f2 l3 l4 l5 _ _ _ A3 A4 A5 c3 c4 c5 n r t g w0 w XS hX h0 hn1 hW hB rfl rfl rfl hC3 hC4 hC5 hc3 hc4 hc5 ql hs (.inr (.inl ⟨rfl, x, xr, hx, (xsi h).symm⟩))
  rw [if_neg k8] at h; by_cases k9 : k = 9
  ·subst k9
   rw [if_pos rfl] at h; exact stmt_any K d f SC 9 f1 f2 l3 l4 l5 _ _ _ A3 A4 A5 c3 c4 c5 n r t g w0 w XS hX h0 hn1 hW hB rfl rfl rfl hC3 hC4 hC5 hc3 hc4 hc5 ql hs (.inr (.inr (.inl ⟨rfl, (xsi h).symm⟩)))
  rw [if_neg k9] at h; by_cases k7 : k = 7
  ·subst k7
   rw [if_pos rfl] at h; obtain ⟨x, xr, hx, h⟩ := head1_get h; obtain ⟨b, hb, h⟩ := Option.bind_eq_some_iff.mp h; exact stmt_any K d f SC 7 f1 f2 l3 l4 l5 _ _ _ A3 A4 A5 c3 c4 c5 n r t g w0 w XS hX h0 hn1 hW hB rfl rfl rfl hC3 hC4 hC5 hc3 hc4 hc5 ql hs (.inr (.inr (.inr (.inl ⟨rfl, x, xr, b, hx, hb, (xsi h).symm⟩))))
  rw [if_neg k7] at h; by_cases k6 : k = 6
  ·subst k6
   rw [if_pos rfl] at h; obtain ⟨x, xr, hx, h⟩ := head1_get h; exact stmt_any K d f SC 6 f1 f2 l3 l4 l5 _ _ _ A3 A4 A5 c3 c4 c5 n r t g w0 w XS hX h0 hn1 hW hB rfl rfl rfl hC3 hC4 hC5 hc3 hc4 hc5 ql hs (.inr (.inr (.inr (.inr (.inr (.inr (.inr (.inr (⟨rfl, br, BC, x, xr, hx, h⟩)))))))))
  rw [if_neg k6] at h; exact absurd qq (by omega)
 ·rw [if_neg qq] at h; simp at h
theorem wG_ok (K : Nat) : ∀ d, StC d (wG K d).1 ∧ BrC d (wG K d).2
 | 0 => ⟨by intro k f1 f2 l3 l4 l5 A3 A4 A5 c3 c4 c5 n r t g w0 w h; simp [wG] at h, by intro a b k f1 f2 l3 l4 l5 L3 L4 L5 A3 A4 A5 c3 c4 c5 n r t g w0 w h; simp [wG] at h⟩
 | d + 1 => by
  obtain ⟨h1, h2⟩ := wG_ok K d; have hb := br_step K d _ _ h1 h2; exact ⟨st_step K d _ _ h1 hb, hb⟩
def outriderref05_Sign.f (a0 : Int) : Option (ByteArray × Int) := if a0 = 1 then (some ((⟨#[43]⟩ : ByteArray), 7)) else (if a0 = 2 then (some ((⟨#[45]⟩ : ByteArray), 7)) else (if a0 = 3 then (some ((⟨#[42]⟩ : ByteArray), 8)) else (if a0 = 4 then (some ((⟨#[47]⟩ : ByteArray), 8)) else (if a0 = 5 then (some ((⟨#[37]⟩ : ByteArray), 8)) else (if a0 = 6 then (some ((⟨#[38]⟩ : ByteArray), 3)) else (if a0 = 7 then (some ((⟨#[124]⟩ : ByteArray), 1)) else (if a0 = 8 then (some ((⟨#[94]⟩ : ByteArray), 2)) else (if a0 = 9 then (some ((⟨#[60, 60]⟩ : ByteArray), 6)) else (if a0 = 10 then (some ((⟨#[62, 62]⟩ : ByteArray), 6)) else (if a0 = 11 then (some ((⟨#[61, 61]⟩ : ByteArray), 4)) else (if a0 = 12 then (some ((⟨#[33, 61]⟩ : ByteArray), 4)) else (if a0 = 13 then (some ((⟨#[60]⟩ : ByteArray), 5)) else (if a0 = 14 then (some ((⟨#[60, 61]⟩ : ByteArray), 5)) else (if a0 = 15 then (some ((⟨#[62]⟩ : ByteArray), 5)) else (if a0 = 16 then (some ((⟨#[62, 61]⟩ : ByteArray), 5)) else (some ((⟨#[]⟩ : ByteArray), 0)))))))))))))))))
def outriderref05_between.f (a0_0 : Int) (a0_1 : Int) (a0_2 : ByteArray) (a0_3 : Int) (l0_4 : List (S38)) : Option (Int) := (outriderref05_Sign.f a0_3).bind fun bt239 => (if a0_0 = 5 then (if bt239.2 = 0 then (some 99) else (some bt239.2)) else (some 99))
def szd (x : ByteArray) : Option ByteArray := if x.size ≤ 1000000000 then some x else none
def refB (f : S38 → Option ByteArray) (e : S38) (least : Int) : Option ByteArray :=
 (outriderref05_between.f e.f0 e.f1 e.f2 e.f3 e.f4).bind fun bt => (f e).bind fun x => if bt < least then szd (⟨#[40]⟩ ++ x ++ ⟨#[41]⟩) else some x
def XPost (x : ByteArray) (w : World) (e : Ending) (w' : World) : Prop := e = .returned (.string x) ∧ Below w.heap.size w w'
def RefC (f : S38 → Option ByteArray) : Prop := ∀ (a0 a1 : Int) (a2 : ByteArray) (a3 : Int) (l : List S38) (L : Nat) (A : Option Addr) (c : Nat) (x : ByteArray) (w : World), f ⟨a0, a1, a2, a3, l⟩ = some x → l.length = L → Kd.C k38 w A l.length l → L ≤ c →
 Calls Try.prog 24 #[.agg #[.int .i64 a0, .int .i64 a1, .string a2, .int .i64 a3, .slice A L c]] w (XPost x w)
def BrkC (f : S38 → Option ByteArray) : Prop := ∀ (a0 a1 : Int) (a2 : ByteArray) (a3 : Int) (l : List S38) (L : Nat) (A : Option Addr) (c : Nat) (least : Int) (x : ByteArray) (w : World), refB f ⟨a0, a1, a2, a3, l⟩ least = some x → (∀ y, f ⟨a0, a1, a2, a3, l⟩ = some y → y.size ≤ 1000000000) → l.length = L → Kd.C k38 w A l.length l → L ≤ c →
 Calls Try.prog 44 #[.agg #[.int .i64 a0, .int .i64 a1, .string a2, .int .i64 a3, .slice A L c], .int .i64 least] w (XPost x w)
theorem RefC.use {f : S38 → Option ByteArray} (h : RefC f) : ∀ (a0 a1 : Int) (a2 : ByteArray) (a3 : Int) (l : List S38) (L : Nat) (A : Option Addr) (c : Nat) (x : ByteArray) (w : World), f ⟨a0, a1, a2, a3, l⟩ = some x → l.length = L → Kd.C k38 w A l.length l → L ≤ c →
 Calls Try.prog 24 #[.agg #[.int .i64 a0, .int .i64 a1, .string a2, .int .i64 a3, .slice A L c]] w (XPost x w) := h
theorem BrkC.use {f : S38 → Option ByteArray} (h : BrkC f) : ∀ (a0 a1 : Int) (a2 : ByteArray) (a3 : Int) (l : List S38) (L : Nat) (A : Option Addr) (c : Nat) (least : Int) (x : ByteArray) (w : World), refB f ⟨a0, a1, a2, a3, l⟩ least = some x → (∀ y, f ⟨a0, a1, a2, a3, l⟩ = some y → y.size ≤ 1000000000) → l.length = L → Kd.C k38 w A l.length l → L ≤ c →
 Calls Try.prog 44 #[.agg #[.int .i64 a0, .int .i64 a1, .string a2, .int .i64 a3, .slice A L c], .int .i64 least] w (XPost x w) := h
theorem blk_new' {W : World} {k : Nat} {o : Obj} (h : k = W.heap.size) : (W.alloc o).heap[k]? = some o := by subst h; exact blk_new W o
theorem C_blk {α : Type} {d : Kd α} {W : World} {b : Nat} {cs : List Value} {t : TypeId} {xs : List α} (h : W.heap[b]? = some (.cells cs.toArray t (0, 0))) (hr : Reps (d.K W) d.sz xs cs) (hn : xs.length ≤ 9223372036854775807) : d.C W (some ⟨b, 0, none⟩) xs.length xs := by
 refine ⟨rfl, hn, fun _ => ⟨⟨b, 0, none⟩, rfl, fun j p hj => ⟨_, ?_, hr.2 j p hj, fun i u hi => ?_⟩⟩⟩
 ·have hl : j < xs.length := by
   rcases Nat.lt_or_ge j xs.length with q | q
   ·exact q
   ·rw [List.getElem?_eq_none q] at hj; simp at hj
  have h1 : j * d.sz + d.sz ≤ cs.length := by rw [hr.1, ← Nat.succ_mul]; exact Nat.mul_le_mul_right _ hl
  rw [List.length_take, List.length_drop]; omega
 ·have hp : (⟨b, 0, none⟩ : Addr).add (j * d.sz + i) = ⟨b, 0 + (j * d.sz + i), none⟩ := by unfold Addr.add; split <;> simp_all
  rw [hp, Nat.zero_add, xbc h]; rw [List.getElem?_toArray]
  have hi2 : i < d.sz := by
   rcases Nat.lt_or_ge i d.sz with q | q
   ·exact q
   ·rw [List.getElem?_eq_none (by rw [List.length_take]; omega)] at hi; simp at hi
  rw [List.getElem?_take_of_lt hi2, List.getElem?_drop] at hi; exact hi
def eN (n : Int) : S38 := ⟨1, n, ⟨#[]⟩, 0, []⟩
def eY : S38 := ⟨5, 0, ⟨#[]⟩, 2, [eN 2, eN 3]⟩
def eX : S38 := ⟨5, 0, ⟨#[]⟩, 2, [eN 1, eY]⟩
def sX : S41 := ⟨4, ⟨#[]⟩, 0, [eX], [], []⟩
def fE (K : Nat) (n : Int) (s : S41) : Option (List UInt8) := if s.f0 = 4 ∧ s.f3.length ≤ 2 then (argsT K s.f3).bind fun xs => head1 xs fun x => some (lineB n [⟨#[101, 109, 105, 116, 32]⟩, x, ⟨#[59]⟩]) else none
theorem stc_none : StC 0 (fun _ _ => none) := by intro k f1 f2 l3 l4 l5 A3 A4 A5 c3 c4 c5 n r t g w0 w h; simp at h
theorem stc_emit (K : Nat) : StC 1 (fE K) := by
 intro k f1 f2 l3 l4 l5 A3 A4 A5 c3 c4 c5 n r t g w0 w h h0 h1 hW hB hC3 hC4 hC5 hc3 hc4 hc5 hs; unfold fE at h; by_cases q : k = 4 ∧ l3.length ≤ 2
 ·rw [if_pos q] at h
  obtain ⟨XS, hX, h⟩ := Option.bind_eq_some_iff.mp h; obtain ⟨qk, ql⟩ := q; subst qk; cases XS with
  | nil => simp [head1] at h
  | cons x xr => exact stmt_any K 0 _ stc_none 4 f1 f2 l3 l4 l5 _ _ _ A3 A4 A5 c3 c4 c5 n r t g w0 w (x :: xr) hX h0 (by omega) hW hB rfl rfl rfl hC3 hC4 hC5 hc3 hc4 hc5 ql hs (.inl ⟨rfl, x, xr, rfl, (xsi h).symm⟩)
 ·rw [if_neg q] at h; simp at h
def tX : List UInt8 := [101, 109, 105, 116, 32, 49, 32, 45, 32, 40, 50, 32, 45, 32, 51, 41, 59, 10]
theorem sX_text : sB (fE 60) 0 [sX] = some tX := by kernel_rfl
theorem sX_right : rightB [sX] = true := by kernel_rfl
theorem eX_text : show_Expr.f 60 5 0 ⟨#[]⟩ 2 [eN 1, eY] = some ⟨#[49, 32, 45, 32, 40, 50, 32, 45, 32, 51, 41]⟩ := by kernel_rfl
theorem shl_sign : show_Sign.f 60 9 = some (⟨#[60, 60]⟩, 6) := by kernel_rfl
theorem C_eN (W : World) (n : Int) : k38.K W (eN n) [.int .i64 1, .int .i64 n, .string ⟨#[]⟩, .int .i64 0, .slice none 0 0] := k38_mk W (eN n) (A4 := none) (c4 := 0) (xlr _) (Kd.C_nil _ _)
theorem C_eY {W : World} {gB : Nat} (h : W.heap[gB]? = some (.cells #[.int .i64 1, .int .i64 2, .string ⟨#[]⟩, .int .i64 0, .slice none 0 0, .int .i64 1, .int .i64 3, .string ⟨#[]⟩, .int .i64 0, .slice none 0 0] 38 (0, 0))) : k38.C W (some ⟨gB, 0, none⟩) 2 [eN 2, eN 3] :=
 C_blk (cs := [.int .i64 1, .int .i64 2, .string ⟨#[]⟩, .int .i64 0, .slice none 0 0, .int .i64 1, .int .i64 3, .string ⟨#[]⟩, .int .i64 0, .slice none 0 0]) h (Reps.c5 (C_eN W 2) (Reps.c5 (C_eN W 3) (Reps.none _ _))) (by decide)
theorem C_eX {W : World} {gA gB : Nat} (hA : W.heap[gA]? = some (.cells #[.int .i64 1, .int .i64 1, .string ⟨#[]⟩, .int .i64 0, .slice none 0 0, .int .i64 5, .int .i64 0, .string ⟨#[]⟩, .int .i64 2, .slice (some ⟨gB, 0, none⟩) 2 2] 38 (0, 0))) (h : W.heap[gB]? = some (.cells #[.int .i64 1, .int .i64 2, .string ⟨#[]⟩, .int .i64 0, .slice none 0 0, .int .i64 1, .int .i64 3, .string ⟨#[]⟩, .int .i64 0, .slice none 0 0] 38 (0, 0))) : k38.C W (some ⟨gA, 0, none⟩) 2 [eN 1, eY] :=
 C_blk (cs := [.int .i64 1, .int .i64 1, .string ⟨#[]⟩, .int .i64 0, .slice none 0 0, .int .i64 5, .int .i64 0, .string ⟨#[]⟩, .int .i64 2, .slice (some ⟨gB, 0, none⟩) 2 2]) hA (Reps.c5 (C_eN W 1) (Reps.c5 (k38_mk W eY (A4 := some ⟨gB, 0, none⟩) (c4 := 2) (xlr _) (C_eY h)) (Reps.none _ _))) (by decide)
theorem C_sX {W : World} {gA gB gC gD : Nat} (hD : W.heap[gD]? = some (b41 4 ⟨#[]⟩ 0 (some ⟨gC, 0, none⟩) 1 1 none 0 0 none 0 0)) (hC : W.heap[gC]? = some (b38 5 0 ⟨#[]⟩ 2 (some ⟨gA, 0, none⟩) 2 2)) (hA : W.heap[gA]? = some (.cells #[.int .i64 1, .int .i64 1, .string ⟨#[]⟩, .int .i64 0, .slice none 0 0, .int .i64 5, .int .i64 0, .string ⟨#[]⟩, .int .i64 2, .slice (some ⟨gB, 0, none⟩) 2 2] 38 (0, 0))) (h : W.heap[gB]? = some (.cells #[.int .i64 1, .int .i64 2, .string ⟨#[]⟩, .int .i64 0, .slice none 0 0, .int .i64 1, .int .i64 3, .string ⟨#[]⟩, .int .i64 0, .slice none 0 0] 38 (0, 0))) : k41.C W (some ⟨gD, 0, none⟩) 1 [sX] :=
 C_blk (cs := [.int .i64 4, .string ⟨#[]⟩, .int .i64 0, .slice (some ⟨gC, 0, none⟩) 1 1, .slice none 0 0, .slice none 0 0]) hD (Reps.c6 (k41_mk W sX (A3 := some ⟨gC, 0, none⟩) (c3 := 1) (A4 := none) (c4 := 0) (A5 := none) (c5 := 0) (xlr _)
  (C_blk (cs := [.int .i64 5, .int .i64 0, .string ⟨#[]⟩, .int .i64 2, .slice (some ⟨gA, 0, none⟩) 2 2]) hC (Reps.c5 (k38_mk W eX (A4 := some ⟨gA, 0, none⟩) (c4 := 2) (xlr _) (C_eX hA h)) (Reps.none _ _)) (by decide))
  (xlr _) (Kd.C_nil _ _) (xlr _) (Kd.C_nil _ _)) (Reps.none _ _)) (by decide)
theorem text_sX {W : World} {gA gB gC gD : Nat} (hD : W.heap[gD]? = some (b41 4 ⟨#[]⟩ 0 (some ⟨gC, 0, none⟩) 1 1 none 0 0 none 0 0)) (hC : W.heap[gC]? = some (b38 5 0 ⟨#[]⟩ 2 (some ⟨gA, 0, none⟩) 2 2)) (hA : W.heap[gA]? = some (.cells #[.int .i64 1, .int .i64 1, .string ⟨#[]⟩, .int .i64 0, .slice none 0 0, .int .i64 5, .int .i64 0, .string ⟨#[]⟩, .int .i64 2, .slice (some ⟨gB, 0, none⟩) 2 2] 38 (0, 0))) (h : W.heap[gB]? = some (.cells #[.int .i64 1, .int .i64 2, .string ⟨#[]⟩, .int .i64 0, .slice none 0 0, .int .i64 1, .int .i64 3, .string ⟨#[]⟩, .int .i64 0, .slice none 0 0] 38 (0, 0))) :
  Calls Try.prog 16 #[.slice (some ⟨gD, 0, none⟩) 1 1] W (TPost ⟨#[101, 109, 105, 116, 32, 49, 32, 45, 32, 40, 50, 32, 45, 32, 51, 41, 59, 10]⟩ 0 W) :=
 text_calls 1 (by omega) (fE 60) (stc_emit 60) [sX] 1 _ 1 tX W sX_text rfl (C_sX hD hC hA h) (by omega) (by omega) (by decide) sX_right _ 0 (.inr ⟨by decide, rfl, rfl⟩)
theorem expr_eX {W : World} {gA gB : Nat} (hA : W.heap[gA]? = some (.cells #[.int .i64 1, .int .i64 1, .string ⟨#[]⟩, .int .i64 0, .slice none 0 0, .int .i64 5, .int .i64 0, .string ⟨#[]⟩, .int .i64 2, .slice (some ⟨gB, 0, none⟩) 2 2] 38 (0, 0))) (h : W.heap[gB]? = some (.cells #[.int .i64 1, .int .i64 2, .string ⟨#[]⟩, .int .i64 0, .slice none 0 0, .int .i64 1, .int .i64 3, .string ⟨#[]⟩, .int .i64 0, .slice none 0 0] 38 (0, 0))) :
  Calls Try.prog 23 #[.agg #[.int .i64 5, .int .i64 0, .string ⟨#[]⟩, .int .i64 2, .slice (some ⟨gA, 0, none⟩) 2 2]] W fun e w' => e = .returned (.string ⟨#[49, 32, 45, 32, 40, 50, 32, 45, 32, 51, 41]⟩) ∧ Below W.heap.size W w' :=
 show_Expr.calls 60 5 0 ⟨#[]⟩ 2 (some ⟨gA, 0, none⟩) 2 [eN 1, eY] _ W (C_eX hA h) (by decide) eX_text
def AliveQ (w : World) (e : Ending) (w' : World) : Prop := e = .returned (.bool true) ∧ Below w.heap.size w w'
theorem alive_calls (w : World) : Calls Try.prog 18 #[] w (AliveQ w) := by
 have hu38 := Try.underlying38; have hu41 := Try.underlying41; have HB := A_0 (xbr w.heap.size w)
 go_enter Try.func18, Try.ntmps18
 go_upto_region 2 with fail
 go_cut [2] (fun s2 wx => ∃ ge gA gB, s2 = .pointer (some ⟨ge, 0, none⟩) ∧ wx.heap[ge]? = some (b38 5 0 ⟨#[]⟩ 2 (some ⟨gA, 0, none⟩) 2 2) ∧ wx.heap[gA]? = some (.cells #[.int .i64 1, .int .i64 1, .string ⟨#[]⟩, .int .i64 0, .slice none 0 0, .int .i64 5, .int .i64 0, .string ⟨#[]⟩, .int .i64 2, .slice (some ⟨gB, 0, none⟩) 2 2] 38 (0, 0)) ∧ wx.heap[gB]? = some (.cells #[.int .i64 1, .int .i64 2, .string ⟨#[]⟩, .int .i64 0, .slice none 0 0, .int .i64 1, .int .i64 3, .string ⟨#[]⟩, .int .i64 0, .slice none 0 0] 38 (0, 0)) ∧ Below w.heap.size w wx)
 case first =>
  go_region_held3 (fun w' => w'.cell? ⟨w.heap.size, 0, none⟩ = some (.int .i64 1) ∧ w'.cell? ⟨w.heap.size, 1, none⟩ = some (.int .i64 1) ∧ w'.cell? ⟨w.heap.size, 2, none⟩ = some (.string ⟨#[]⟩) ∧ w'.cell? ⟨w.heap.size, 3, none⟩ = some (.int .i64 0) ∧ w'.cell? ⟨w.heap.size, 4, none⟩ = some (.slice none 0 0) ∧ w'.cell? ⟨w.heap.size, 5, none⟩ = some (.int .i64 1) ∧ w'.cell? ⟨w.heap.size, 6, none⟩ = some (.int .i64 2) ∧ w'.cell? ⟨w.heap.size, 7, none⟩ = some (.string ⟨#[]⟩) ∧ w'.cell? ⟨w.heap.size, 8, none⟩ = some (.int .i64 0) ∧ w'.cell? ⟨w.heap.size, 9, none⟩ = some (.slice none 0 0) ∧ w'.cell? ⟨w.heap.size, 10, none⟩ = some (.int .i64 1) ∧ w'.cell? ⟨w.heap.size, 11, none⟩ = some (.int .i64 3) ∧ w'.cell? ⟨w.heap.size, 12, none⟩ = some (.string ⟨#[]⟩) ∧ w'.cell? ⟨w.heap.size, 13, none⟩ = some (.int .i64 0) ∧ w'.cell? ⟨w.heap.size, 14, none⟩ = some (.slice none 0 0)) (go_keep) (fail)
  all_goals (go_wp2_with fail; go_meet; exact ⟨_, _, _, rfl, (z_11), (z_11), (z_11), (z_12)⟩)
 case rest =>
  obtain ⟨ge, gA, gB, rfl, h1, h2, h3, h4⟩ := hcut; have HE := A_0 h1; have HA := A_0 h2; have HBB := A_0 h3; clear HB; have HB := A_0 h4; have hz0 : wc.cell? ⟨ge, 0, none⟩ = some (.int .i64 5) := (xbc h1 0).trans rfl; have hz1 : wc.cell? ⟨ge, 1, none⟩ = some (.int .i64 0) := (xbc h1 1).trans rfl; have hz2 : wc.cell? ⟨ge, 2, none⟩ = some (.string ⟨#[]⟩) := (xbc h1 2).trans rfl; have hz3 : wc.cell? ⟨ge, 3, none⟩ = some (.int .i64 2) := (xbc h1 3).trans rfl; have hz4 : wc.cell? ⟨ge, 4, none⟩ = some (.slice (some ⟨gA, 0, none⟩) 2 2) := (xbc h1 4).trans rfl; clear h1 h2 h3 h4
  go_wp2_with fail
  (with_reducible refine (text_sX (gD := wc.heap.size + 1) (gC := wc.heap.size) (blk_new' (by simp)) (blk_alloc (blk_new _ _) _) (blk_alloc (blk_alloc HA.out _) _) (blk_alloc (blk_alloc HBB.out _) _)).mono ?_)
  rintro e w5 ⟨rfl, hb5⟩; have n0_ := A_0 (xbs (z_12) hb5); have n1_ := A_0 (blk_below (blk_alloc (blk_alloc HE.out _) _) hb5); have n2_ := A_0 (blk_below (blk_alloc (blk_alloc HA.out _) _) hb5); have n3_ := A_0 (blk_below (blk_alloc (blk_alloc HBB.out _) _) hb5); clear HB HE HA HBB hb5 hz0 hz1 hz2 hz3 hz4; have HB := n0_; have HE := n1_; have HA := n2_; have HBB := n3_; clear n0_ n1_ n2_ n3_
  go_wp2_with fail
  (with_reducible refine (show_Sign.calls 60 9 ⟨#[60, 60]⟩ 6 _ shl_sign).mono ?_)
  rintro e w6 ⟨rfl, hb5⟩; have n0_ := A_0 (xbs (z_12) hb5); have n1_ := A_0 (blk_below HE.out hb5); have n2_ := A_0 (blk_below HA.out hb5); have n3_ := A_0 (blk_below HBB.out hb5); clear HB HE HA HBB hb5; have HB := n0_; have HE := n1_; have HA := n2_; have HBB := n3_; clear n0_ n1_ n2_ n3_; obtain ⟨hz0, hz1, hz2, hz3, hz4⟩ := blkc5 HE.out
  go_wp2_with fail
  (with_reducible refine (expr_eX HA.out HBB.out).mono ?_)
  rintro e w7 ⟨rfl, hb5⟩; have n0_ := A_0 (xbs (z_12) hb5); clear HB hb5; have HB := n0_
  go_wp2
  go_ret
  exact z_13
mutual
def cntE : S38 → Nat
 | ⟨_, _, _, _, l⟩ => 1 + cntL l
def cntL : List S38 → Nat
 | [] => 0
 | x :: xs => cntE x + cntL xs
end
mutual
def deepE : S38 → Nat
 | ⟨_, _, _, _, l⟩ => 1 + deepL l
def deepL : List S38 → Nat
 | [] => 0
 | x :: xs => max (deepE x) (deepL xs)
end
mutual
def fitE : S38 → Bool
 | ⟨a, b, c, d, l⟩ => (wantE a == some l.length) && (fieldsB a b c d && fitL l)
def fitL : List S38 → Bool
 | [] => true
 | x :: xs => fitE x && fitL xs
end
def MayE (d : Nat) (n : Int) (e : S38) : Prop := fitE e = true ∧ deepE e ≤ d ∧ n + cntE e ≤ 600
def MayL (d : Nat) (n : Int) (l : List S38) : Prop := fitL l = true ∧ deepL l ≤ d ∧ n + cntL l ≤ 600
theorem goE_may (d : Nat) (h : ∀ n e, 0 ≤ n → n ≤ 600 → ((cE d n e).1 = true ↔ MayE d n e) ∧ ((cE d n e).1 = true → (cE d n e).2 = n + cntE e)) :
  ∀ (l : List S38) (n : Int), 0 ≤ n → n ≤ 600 → ((goE (cE d) n l).1 = true ↔ MayL d n l) ∧ ((goE (cE d) n l).1 = true → (goE (cE d) n l).2 = n + cntL l)
 | [], n, h0, h1 => ⟨⟨fun _ => ⟨rfl, Nat.zero_le _, by show n + ((0 : Nat) : Int) ≤ 600; omega⟩, fun _ => rfl⟩, fun _ => by show n = n + ((0 : Nat) : Int); omega⟩
 | x :: xs, n, h0, h1 => by
  obtain ⟨p, q⟩ := h n x h0 h1; unfold goE; by_cases c : (cE d n x).1 = true
  ·rw [if_pos c]
   have e := q c; have m := p.mp c; obtain ⟨r, s⟩ := goE_may d h xs (cE d n x).2 (by rw [e]; omega) (by rw [e]; exact m.2.2); rw [e] at r s ⊢; refine ⟨⟨fun z => ?_, fun z => r.mpr ?_⟩, fun z => ?_⟩
   ·have z' := r.mp z
    refine ⟨by simp only [fitL, m.1, z'.1, Bool.and_self], ?_, ?_⟩
    ·have := m.2.1; have := z'.2.1; simp only [deepL]; omega
    ·have := z'.2.2; simp only [cntL]; omega
   ·have z1 := z.1
    simp only [fitL, Bool.and_eq_true] at z1; refine ⟨z1.2, ?_, ?_⟩
    ·have := z.2.1; simp only [deepL] at this; omega
    ·have := z.2.2; simp only [cntL] at this; omega
   ·have := s z; simp only [cntL]; omega
  ·rw [if_neg c]
   refine ⟨⟨fun z => by simp at z, fun z => absurd (p.mpr ?_) c⟩, fun z => by simp at z⟩
   have z1 := z.1; simp only [fitL, Bool.and_eq_true] at z1; refine ⟨z1.1, ?_, ?_⟩
   ·have := z.2.1; simp only [deepL] at this; omega
   ·have := z.2.2; simp only [cntL] at this; omega
theorem cE_may : ∀ (d : Nat) (n : Int) (e : S38), 0 ≤ n → n ≤ 600 → ((cE d n e).1 = true ↔ MayE d n e) ∧ ((cE d n e).1 = true → (cE d n e).2 = n + cntE e)
 | 0, n, ⟨a, b, c, f, l⟩, h0, h1 => ⟨⟨fun z => by simp [cE] at z, fun z => by have := z.2.1; simp only [deepE] at this; omega⟩, fun z => by simp [cE] at z⟩
 | d + 1, n, ⟨a, b, c, f, l⟩, h0, h1 => by
  have G := goE_may d (fun n e a b => cE_may d n e a b) l (n + 1) (by omega); unfold cE; by_cases q : n + 1 > 600
  ·rw [if_pos q]
   refine ⟨⟨fun z => by simp at z, fun z => ?_⟩, fun z => by simp at z⟩
   have := z.2.2; simp only [cntE] at this; omega
  rw [if_neg q]; obtain ⟨r, s⟩ := G (by omega); show ((match wantE a with | none => (false, n + 1) | some k => if l.length = k then (if fieldsB a b c f = true then goE (cE d) (n + 1) l else (false, n + 1)) else (false, n + 1)).1 = true ↔ _) ∧ ((match wantE a with | none => (false, n + 1) | some k => if l.length = k then (if fieldsB a b c f = true then goE (cE d) (n + 1) l else (false, n + 1)) else (false, n + 1)).1 = true → (match wantE a with | none => (false, n + 1) | some k => if l.length = k then (if fieldsB a b c f = true then goE (cE d) (n + 1) l else (false, n + 1)) else (false, n + 1)).2 = _)
  have K : ∀ z : MayE (d + 1) n ⟨a, b, c, f, l⟩, wantE a = some l.length ∧ fieldsB a b c f = true ∧ MayL d (n + 1) l := by
   intro z; have z1 := z.1; simp only [fitE, Bool.and_eq_true, beq_iff_eq] at z1; refine ⟨z1.1, z1.2.1, z1.2.2, ?_, ?_⟩
   ·have := z.2.1; simp only [deepE] at this; omega
   ·have := z.2.2; simp only [cntE] at this; omega
  cases hw : wantE a with
  | none => exact ⟨⟨fun z => by simp at z, fun z => by have := (K z).1; rw [hw] at this; simp at this⟩, fun z => by simp at z⟩
  | some k =>
   dsimp only; by_cases q2 : l.length = k
   ·rw [if_pos q2]
    by_cases q3 : fieldsB a b c f = true
    ·rw [if_pos q3]
     refine ⟨⟨fun z => ?_, fun z => r.mpr (K z).2.2⟩, fun z => ?_⟩
     ·have z' := r.mp z
      refine ⟨by simp only [fitE, hw, q2, q3, z'.1, Bool.and_self, beq_self_eq_true], ?_, ?_⟩
      ·have := z'.2.1; simp only [deepE]; omega
      ·have := z'.2.2; simp only [cntE]; omega
     ·have := s z; simp only [cntE]; omega
    ·rw [if_neg q3]
     exact ⟨⟨fun z => by simp at z, fun z => absurd (K z).2.1 q3⟩, fun z => by simp at z⟩
   ·rw [if_neg q2]
    exact ⟨⟨fun z => by simp at z, fun z => by have := (K z).1; rw [hw] at this; exact absurd (xsi this).symm q2⟩, fun z => by simp at z⟩
def FitC (n : Nat) : Prop := ∀ (e : S38) (A : Option Addr) (cp : Nat) (r : Bool) (w : World), cntE e ≤ n → Kd.C k38 w A e.f4.length e.f4 → e.f4.length ≤ cp → fitE e = r →
 Calls Try.prog 66 #[.agg #[.int .i64 e.f0, .int .i64 e.f1, .string e.f2, .int .i64 e.f3, .slice A e.f4.length cp]] w fun e w' => e = .returned (.bool r) ∧ Below w.heap.size w w'
theorem FitC.use {n : Nat} (h : FitC n) (e : S38) (A : Option Addr) (cp : Nat) (r : Bool) (w : World) (h0 : cntE e ≤ n) (h1 : Kd.C k38 w A e.f4.length e.f4) (h2 : e.f4.length ≤ cp) (h3 : fitE e = r) :
 Calls Try.prog 66 #[.agg #[.int .i64 e.f0, .int .i64 e.f1, .string e.f2, .int .i64 e.f3, .slice A e.f4.length cp]] w fun e w' => e = .returned (.bool r) ∧ Below w.heap.size w w' := h e A cp r w h0 h1 h2 h3
mutual
def cntS : S41 → Nat
 | ⟨_, _, _, e, b, c⟩ => cntL e + (cntB b + cntB c)
def cntB : List S41 → Nat
 | [] => 0
 | x :: xs => 1 + cntS x + cntB xs
end
def fitSt (r : List S41 → Bool) (s : S41) : Bool := headB s && (fitL s.f3 && (decide (deepL s.f3 ≤ 48) && (!loopsB s.f0 || (r s.f4 && (decide (s.f5.length = 0) || r s.f5)))))
def fitB : Nat → List S41 → Bool
 | 0, _ => false
 | b + 1, l => l.all (fitSt (fitB b))
theorem len_cntB : ∀ l : List S41, l.length ≤ cntB l
 | [] => xlr _
 | x :: xs => by have := len_cntB xs; simp only [List.length_cons, cntB]; omega
theorem cntS_eq (s : S41) : cntS s = cntL s.f3 + (cntB s.f4 + cntB s.f5) := by
 obtain ⟨_, _, _, _, _, _⟩ := s
 rfl
theorem head_empty {s : S41} (h : headB s = true) : (loopsB s.f0 = false → s.f4 = [] ∧ s.f5 = []) := by
 intro q; unfold headB at h; cases hw : wantS s.f0 with
 | none => rw [hw] at h; simp at h
 | some p =>
  rw [hw] at h; simp only [Bool.and_eq_true, Bool.or_eq_true, List.isEmpty_iff] at h
  have h6 : (s.f0 == 6) = false := by
   unfold loopsB at q; simp only [Bool.or_eq_false_iff] at q; exact q.2
  refine ⟨?_, ?_⟩
  ·rcases h.1.2 with z | z
   ·rw [q] at z; simp at z
   ·exact z
  ·rcases h.2 with z | z
   ·rw [h6] at z; simp at z
   ·exact z
def Tells (c : Bool × Int) (fit : Bool) (n m : Int) : Prop := (c.1 = true ↔ fit = true ∧ n + m ≤ 600) ∧ (c.1 = true → c.2 = n + m)
theorem tells_no {fit : Bool} {n m k : Int} (h : ¬ (fit = true ∧ n + m ≤ 600)) : Tells (false, k) fit n m := ⟨⟨fun z => by simp at z, fun z => absurd z h⟩, fun z => by simp at z⟩
theorem cS_may (r : Int → List S41 → Bool × Int) (fr : List S41 → Bool) (hr : ∀ n l, 0 ≤ n → n ≤ 600 → Tells (r n l) (fr l) n (cntB l)) (n : Int) (s : S41) (h0 : 0 ≤ n) (h1 : n ≤ 600) : Tells (cS r n s) (fitSt fr s) n (cntS s) := by
 have E := goE_may 48 (fun n e a b => cE_may 48 n e a b) s.f3 n h0 h1; rw [cntS_eq]; unfold cS fitSt; cases hh : headB s with
 | false => rw [if_neg (by simp)]; exact tells_no (by simp)
 | true =>
  rw [if_pos rfl]; by_cases q : (goE (cE 48) n s.f3).1 = true
  ·rw [if_pos q]
   obtain ⟨m1, m2, m3⟩ := E.1.mp q; have e := E.2 q; rw [e, m1, xdt m2]; cases hl : loopsB s.f0 with
   | false =>
    obtain ⟨a, b⟩ := head_empty hh hl; rw [if_neg (by simp), a, b]; exact z_159
   | true =>
    rw [if_pos rfl]; have R := hr (n + cntL s.f3) s.f4 (by omega) m3; by_cases p : (r (n + cntL s.f3) s.f4).1 = true
    ·rw [if_pos p]
     obtain ⟨r1, r2⟩ := R.1.mp p; rw [R.2 p, r1]; by_cases z : s.f5.length = 0
     ·rw [if_pos z, xdt z]
      have z' := List.eq_nil_of_length_eq_zero z; rw [z']; exact z_159
     ·rw [if_neg z, xdf z]
      have R2 := hr (n + cntL s.f3 + cntB s.f4) s.f5 (by omega) r2; refine ⟨⟨fun y => ?_, fun y => R2.1.mpr ⟨by simpa using y.1, by have := y.2; omega⟩⟩, fun y => by rw [R2.2 y]; omega⟩
      have := R2.1.mp y; exact ⟨by simpa using this.1, by have := this.2; omega⟩
    ·rw [if_neg p]
     refine tells_no fun y => p (R.1.mpr ⟨?_, by have := y.2; omega⟩)
     have := y.1; simp only [Bool.true_and, Bool.not_true, Bool.false_or, Bool.and_eq_true] at this; exact this.1
  ·rw [if_neg q]
   refine tells_no fun y => q (E.1.mpr ?_)
   have := y.1; simp only [Bool.true_and, Bool.and_eq_true, decide_eq_true_eq] at this; exact ⟨this.1, this.2.1, by have := y.2; omega⟩
theorem oneS_may (r : Int → List S41 → Bool × Int) (fr : List S41 → Bool) (hr : ∀ n l, 0 ≤ n → n ≤ 600 → Tells (r n l) (fr l) n (cntB l)) (n : Int) (s : S41) (h0 : 0 ≤ n) (h1 : n ≤ 600) : Tells (oneS r n s) (fitSt fr s) n (1 + cntS s : Nat) := by
 unfold oneS; by_cases q : n + 1 > 600
 ·rw [if_pos q]; exact tells_no fun y => by have := y.2; omega
 ·rw [if_neg q]
  obtain ⟨a, b⟩ := cS_may r fr hr (n + 1) s (by omega) (by omega); exact ⟨⟨fun y => ⟨(a.mp y).1, by have := (a.mp y).2; omega⟩, fun y => a.mpr ⟨y.1, by have := y.2; omega⟩⟩, fun y => by rw [b y]; omega⟩
theorem goS_may (f : Int → S41 → Bool × Int) (p : S41 → Bool) (h : ∀ n s, 0 ≤ n → n ≤ 600 → Tells (f n s) (p s) n (1 + cntS s : Nat)) : ∀ (l : List S41) (n : Int), 0 ≤ n → n ≤ 600 → Tells (goE f n l) (l.all p) n (cntB l)
 | [], n, h0, h1 => ⟨⟨fun _ => ⟨rfl, by simp only [cntB]; omega⟩, fun _ => rfl⟩, fun _ => by simp only [cntB]; show n = _; omega⟩
 | x :: xs, n, h0, h1 => by
  obtain ⟨a, b⟩ := h n x h0 h1; unfold goE; by_cases c : (f n x).1 = true
  ·rw [if_pos c]
   have m := a.mp c; have e := b c; obtain ⟨r, s⟩ := goS_may f p h xs (f n x).2 (by rw [e]; omega) (by rw [e]; exact m.2); rw [e] at r s ⊢; rw [List.all_cons, m.1, Bool.true_and]; simp only [cntB]; exact ⟨⟨fun y => ⟨(r.mp y).1, by have := (r.mp y).2; omega⟩, fun y => r.mpr ⟨y.1, by have := y.2; omega⟩⟩, fun y => by rw [s y]; omega⟩
  ·rw [if_neg c]
   refine tells_no fun y => c (a.mpr ?_)
   have y1 := y.1; rw [List.all_cons, Bool.and_eq_true] at y1; have y2 := y.2; simp only [cntB] at y2; exact ⟨y1.1, by omega⟩
theorem cB_may : ∀ (b : Nat) (n : Int) (l : List S41), 0 ≤ n → n ≤ 600 → Tells (cB b n l) (fitB b l) n (cntB l)
 | 0, n, l, h0, h1 => tells_no fun y => by simp [fitB] at y
 | b + 1, n, l, h0, h1 => by
  unfold cB; by_cases q : 600 < l.length
  ·rw [if_pos q]
   refine tells_no fun y => ?_
   have := len_cntB l; have := y.2
   omega
  ·rw [if_neg q, fitB]
   exact goS_may _ _ (fun n s a c => oneS_may _ _ (fun n l a c => cB_may b n l a c) n s a c) l n h0 h1
def okA (e : S38) : Bool := decide (deepE e ≤ 48) && fitE e
theorem okA_all : ∀ l : List S38, (fitL l && decide (deepL l ≤ 48)) = l.all okA
 | [] => rfl
 | x :: xs => by
  rw [List.all_cons, ← okA_all xs]; have e : deepL (x :: xs) = max (deepE x) (deepL xs) := rfl; show ((fitE x && fitL xs) && decide (deepL (x :: xs) ≤ 48)) = ((decide (deepE x ≤ 48) && fitE x) && (fitL xs && decide (deepL xs ≤ 48))); by_cases a : deepE x ≤ 48
  ·by_cases b : deepL xs ≤ 48
   ·rw [xdt a, xdt b, xdt (show deepL (x :: xs) ≤ 48 by omega)]
    cases fitE x <;> cases fitL xs <;> rfl
   ·rw [xdt a, xdf b, xdf (show ¬ deepL (x :: xs) ≤ 48 by omega)]
    cases fitE x <;> cases fitL xs <;> rfl
  ·rw [xdf a, xdf (show ¬ deepL (x :: xs) ≤ 48 by omega)]
   cases fitE x <;> cases fitL xs <;> cases decide (deepL xs ≤ 48) <;> rfl
theorem fin_eq (b : Nat) (s : S41) (hh : headB s = true) (hb : loopsB s.f0 = true → 0 < b) : fitSt (fitB b) s = (s.f3.all okA && (s.f4.all (fitSt (fitB (b - 1))) && s.f5.all (fitSt (fitB (b - 1))))) := by
 unfold fitSt; rw [hh, Bool.true_and, ← Bool.and_assoc, okA_all]
 congr 1
 cases hl : loopsB s.f0 with
 | false =>
  obtain ⟨e1, e2⟩ := head_empty hh hl; rw [e1, e2]
  rfl
 | true =>
  have := hb hl; obtain ⟨c, rfl⟩ : ∃ c, b = c + 1 := ⟨b - 1, by omega⟩
  show (!true || (fitB (c + 1) s.f4 && (decide (s.f5.length = 0) || fitB (c + 1) s.f5))) = _; rw [Bool.not_true, Bool.false_or, fitB, fitB, Nat.add_sub_cancel]
  congr 1
  by_cases z : s.f5.length = 0
  ·rw [xdt z, List.eq_nil_of_length_eq_zero z]
   rfl
  ·rw [xdf z, Bool.false_or]
   rfl
theorem fitSt_no {r : List S41 → Bool} {s : S41} (h : headB s = false) : fitSt r s = false := by unfold fitSt; rw [h, Bool.false_and]
def MayC (b : Nat) : Prop := ∀ (s : S41) (A3 A4 A5 : Option Addr) (c3 c4 c5 : Nat) (r : Bool) (w : World) (bl : Int), bl = 12 - (b : Int) → cntS s ≤ 1000000 →
 Kd.C k38 w A3 s.f3.length s.f3 → s.f3.length ≤ c3 → Kd.C k41 w A4 s.f4.length s.f4 → s.f4.length ≤ c4 → Kd.C k41 w A5 s.f5.length s.f5 → s.f5.length ≤ c5 → fitSt (fitB b) s = r →
 Calls Try.prog 41 #[.agg #[.int .i64 s.f0, .string s.f1, .int .i64 s.f2, .slice A3 s.f3.length c3, .slice A4 s.f4.length c4, .slice A5 s.f5.length c5], .int .i64 bl] w fun e w' => e = .returned (.bool r) ∧ Below w.heap.size w w'
theorem MayC.use {b : Nat} (h : MayC b) (s : S41) (A3 A4 A5 : Option Addr) (c3 c4 c5 : Nat) (r : Bool) (w : World) (bl : Int) (h0 : bl = 12 - (b : Int)) (h1 : cntS s ≤ 1000000)
 (h2 : Kd.C k38 w A3 s.f3.length s.f3) (h3 : s.f3.length ≤ c3) (h4 : Kd.C k41 w A4 s.f4.length s.f4) (h5 : s.f4.length ≤ c4) (h6 : Kd.C k41 w A5 s.f5.length s.f5) (h7 : s.f5.length ≤ c5) (h8 : fitSt (fitB b) s = r) :
 Calls Try.prog 41 #[.agg #[.int .i64 s.f0, .string s.f1, .int .i64 s.f2, .slice A3 s.f3.length c3, .slice A4 s.f4.length c4, .slice A5 s.f5.length c5], .int .i64 bl] w fun e w' => e = .returned (.bool r) ∧ Below w.heap.size w w' :=
 h s A3 A4 A5 c3 c4 c5 r w bl h0 h1 h2 h3 h4 h5 h6 h7 h8
theorem rightB_eq (l : List S41) : rightB l = (fitB 13 l && decide (cntB l ≤ 600)) := by
 have h := (cB_may 13 0 l (Int.le_refl 0) (by omega)).1; unfold rightB; by_cases z : (cB 13 0 l).1 = true
 ·obtain ⟨a, b⟩ := h.1 z
  rw [z, a, xdt (by omega)]
  rfl
 ·have z' := Bool.eq_false_iff.2 z
  rw [z']
  symm
  rw [Bool.eq_false_iff]; intro y; rw [Bool.and_eq_true, decide_eq_true_eq] at y; exact z (h.2 ⟨y.1, by omega⟩)
theorem size_bs (l : List UInt8) : (bs l).size = l.length := by rw [← lst_len, lst_bs]
theorem decR_len : ∀ (k u : Nat) (ds : List UInt8), (decR k u ds).length ≤ k + ds.length
 | 0, u, ds => by simp [decR]
 | k + 1, u, ds => by
  unfold decR
  split
  ·simp only [List.length_cons]; omega
  ·have := decR_len k (u / 10) (dgB u :: ds)
   simp only [List.length_cons] at this
   omega
theorem textB_len (a : Int) (ha : 0 ≤ a) : (textB a).length ≤ 20 := by
 unfold textB; rw [if_neg (by omega)]; have := decR_len 20 (sizeB a) []
 simpa using this
def sgR (f : Int) : ByteArray × Int := (outriderref05_Sign.f f).getD (⟨#[]⟩, 0)
def rkE (e : S38) : Int := if e.f0 = 5 then (if e.f3 = 17 then 10 else if e.f3 = 18 then 10 else (sgR e.f3).2) else if e.f0 = 4 then 9 else 10
def brT (rk least : Int) (t : ByteArray) : ByteArray := if rk < least then (⟨#[40]⟩ ++ t) ++ ⟨#[41]⟩ else t
def oneT (f : Int) : ByteArray := if f = 19 then ⟨#[45]⟩ else if f = 20 then ⟨#[126]⟩ else ⟨#[33]⟩
def txtA (a b : Int) (c : ByteArray) (f : Int) (l : List S38) (ts : List ByteArray) : ByteArray :=
 if a = 1 then bs (textB b) else if a = 2 then c
 else match l, ts with
 | [x], [t] => if a = 3 then (⟨#[109, 91]⟩ ++ t) ++ ⟨#[93]⟩ else oneT f ++ brT (rkE x) 9 t
 | [x, y], [t, u] => if f = 17 then (((⟨#[109, 105, 110, 40]⟩ ++ t) ++ ⟨#[44, 32]⟩) ++ u) ++ ⟨#[41]⟩ else if f = 18 then (((⟨#[109, 97, 120, 40]⟩ ++ t) ++ ⟨#[44, 32]⟩) ++ u) ++ ⟨#[41]⟩
  else (((brT (rkE x) (sgR f).2 t ++ ⟨#[32]⟩) ++ (sgR f).1) ++ ⟨#[32]⟩) ++ brT (rkE y) ((sgR f).2 + 1) u
 | _, _ => ⟨#[]⟩
mutual
def txt : S38 → ByteArray
 | ⟨a, b, c, f, l⟩ => txtA a b c f l (txtL l)
def txtL : List S38 → List ByteArray
 | [] => []
 | x :: xs => txt x :: txtL xs
end
theorem signs_all : ∀ j : Fin 16, (match outriderref05_Sign.f ((j.val : Int) + 1) with | some (s, r) => decide (show_Sign.f 60 ((j.val : Int) + 1) = some (s, r)) && (decide (1 ≤ r) && (decide (r ≤ 8) && decide (s.size ≤ 2))) | none => false) = true := by decide +kernel
theorem sign_facts (f : Int) (h0 : 1 ≤ f) (h1 : f ≤ 16) : outriderref05_Sign.f f = some (sgR f) ∧ show_Sign.f 60 f = some (sgR f) ∧ 1 ≤ (sgR f).2 ∧ (sgR f).2 ≤ 8 ∧ (sgR f).1.size ≤ 2 := by
 have h := signs_all ⟨(f - 1).toNat, by omega⟩
 have e : (((f - 1).toNat : Nat) : Int) + 1 = f := by omega
 simp only [e] at h; unfold sgR; cases hs : outriderref05_Sign.f f with
 | none => rw [hs] at h; cases h
 | some p =>
  rw [hs] at h; obtain ⟨s, r⟩ := p; simp only [Bool.and_eq_true, decide_eq_true_eq] at h; exact ⟨rfl, h.1, h.2.1, h.2.2.1, h.2.2.2⟩
theorem two_of {α : Type} : ∀ (l : List α), l.length = 2 → ∃ x y, l = [x, y]
 | [x, y], _ => ⟨x, y, rfl⟩
theorem fit_cases (a b : Int) (c : ByteArray) (f : Int) (l : List S38) (h : fitE ⟨a, b, c, f, l⟩ = true) :
  (a = 1 ∧ l = [] ∧ 0 ≤ b) ∨ (a = 2 ∧ l = [] ∧ nameB (lst c) = true) ∨ (a = 3 ∧ ∃ x, l = [x] ∧ fitE x = true) ∨ (a = 4 ∧ ∃ x, l = [x] ∧ fitE x = true ∧ 19 ≤ f ∧ f ≤ 21) ∨ (a = 5 ∧ ∃ x y, l = [x, y] ∧ fitE x = true ∧ fitE y = true ∧ 1 ≤ f ∧ f ≤ 18) := by
 simp only [fitE, Bool.and_eq_true, beq_iff_eq] at h; obtain ⟨hw, hf, hl⟩ := h; unfold fieldsB at hf; simp only [Bool.and_eq_true] at hf; obtain ⟨h1, h2, h3⟩ := hf; unfold wantE at hw; by_cases a1 : a = 1
 ·subst a1
  rw [if_pos rfl] at hw; refine .inl ⟨rfl, List.eq_nil_of_length_eq_zero (xsi hw).symm, ?_⟩; unfold numB at h1; rw [if_pos rfl] at h1; exact xod h1
 rw [if_neg a1] at hw; by_cases a2 : a = 2
 ·subst a2
  rw [if_pos rfl] at hw; refine .inr (.inl ⟨rfl, List.eq_nil_of_length_eq_zero (xsi hw).symm, ?_⟩); unfold nmB at h2; rw [if_pos rfl] at h2; exact h2
 rw [if_neg a2] at hw; by_cases a3 : a = 3
 ·subst a3
  rw [if_pos rfl] at hw; obtain ⟨x, rfl⟩ := List.length_eq_one_iff.1 (xsi hw).symm; refine .inr (.inr (.inl ⟨rfl, x, rfl, ?_⟩))
  simpa [fitL] using hl
 rw [if_neg a3] at hw; by_cases a4 : a = 4
 ·subst a4
  rw [if_pos rfl] at hw; obtain ⟨x, rfl⟩ := List.length_eq_one_iff.1 (xsi hw).symm; unfold opB at h3; rw [if_pos rfl] at h3; simp only [Bool.and_eq_true, decide_eq_true_eq] at h3; refine .inr (.inr (.inr (.inl ⟨rfl, x, rfl, ?_, h3.1, h3.2⟩)))
  simpa [fitL] using hl
 rw [if_neg a4] at hw; by_cases a5 : a = 5
 ·subst a5
  rw [if_pos rfl] at hw; obtain ⟨x, y, rfl⟩ := two_of l (xsi hw).symm; unfold opB at h3; rw [if_neg (by decide), if_pos rfl] at h3; simp only [Bool.and_eq_true, decide_eq_true_eq] at h3; simp only [fitL, Bool.and_true, Bool.and_eq_true] at hl; exact .inr (.inr (.inr (.inr ⟨rfl, x, y, rfl, hl.1, hl.2, h3.1, h3.2⟩)))
 ·rw [if_neg a5] at hw
  cases hw
theorem name_size {c : ByteArray} (h : nameB (lst c) = true) : c.size ≤ 12 := by
 rw [← lst_len]; unfold nameB at h
 split at h
 ·cases h
 ·rename_i e
  simp only [Bool.and_eq_true, decide_eq_true_eq] at h; rw [e]; exact h.1
theorem brT_size (rk least : Int) (t : ByteArray) : (brT rk least t).size ≤ t.size + 2 := by
 unfold brT
 split
 ·simp only [ByteArray.size_append]
  have e1 : (⟨#[40]⟩ : ByteArray).size = 1 := rfl; have e2 : (⟨#[41]⟩ : ByteArray).size = 1 := rfl
  omega
 ·omega
theorem oneT_size (f : Int) : (oneT f).size = 1 := by unfold oneT; split; rfl; split <;> rfl
theorem txt_size_n : ∀ (n : Nat) (e : S38), cntE e ≤ n → fitE e = true → (txt e).size ≤ 20 * cntE e
 | 0, ⟨a, b, c, f, l⟩, hn, h => by simp only [cntE] at hn; omega
 | n + 1, ⟨a, b, c, f, l⟩, hn, h => by
  simp only [cntE] at hn; rcases fit_cases a b c f l h with ⟨rfl, rfl, hb⟩ | ⟨rfl, rfl, hnm⟩ | ⟨rfl, x, rfl, hx⟩ | ⟨rfl, x, rfl, hx, h0, h1⟩ | ⟨rfl, x, y, rfl, hx, hy, h0, h1⟩
  ·show (bs (textB b)).size ≤ _
   rw [size_bs]; have := textB_len b hb; simp only [cntE]
   omega
  ·show c.size ≤ _
   have := name_size hnm; simp only [cntE]
   omega
  ·simp only [cntL] at hn
   have ih := txt_size_n n x (by omega) hx; show ((⟨#[109, 91]⟩ ++ txt x) ++ ⟨#[93]⟩ : ByteArray).size ≤ _; have e1 : (⟨#[109, 91]⟩ : ByteArray).size = 2 := rfl; have e2 : (⟨#[93]⟩ : ByteArray).size = 1 := rfl; simp only [ByteArray.size_append, cntE, cntL]
   omega
  ·simp only [cntL] at hn
   have ih := txt_size_n n x (by omega) hx; show (oneT f ++ brT (rkE x) 9 (txt x) : ByteArray).size ≤ _; have e1 := oneT_size f; have e2 := brT_size (rkE x) 9 (txt x); simp only [ByteArray.size_append, cntE, cntL]
   omega
  ·simp only [cntL] at hn
   have ihx := txt_size_n n x (by omega) hx; have ihy := txt_size_n n y (by omega) hy; have e1 : (⟨#[109, 105, 110, 40]⟩ : ByteArray).size = 4 := rfl; have e2 : (⟨#[44, 32]⟩ : ByteArray).size = 2 := rfl; have e3 : (⟨#[41]⟩ : ByteArray).size = 1 := rfl; have e4 : (⟨#[109, 97, 120, 40]⟩ : ByteArray).size = 4 := rfl; have e5 : (⟨#[32]⟩ : ByteArray).size = 1 := rfl; have e6 := brT_size (rkE x) (sgR f).2 (txt x); have e7 := brT_size (rkE y) ((sgR f).2 + 1) (txt y); show (if f = 17 then (((⟨#[109, 105, 110, 40]⟩ ++ txt x) ++ ⟨#[44, 32]⟩) ++ txt y) ++ ⟨#[41]⟩ else if f = 18 then (((⟨#[109, 97, 120, 40]⟩ ++ txt x) ++ ⟨#[44, 32]⟩) ++ txt y) ++ ⟨#[41]⟩
   else (((brT (rkE x) (sgR f).2 (txt x) ++ ⟨#[32]⟩) ++ (sgR f).1) ++ ⟨#[32]⟩) ++ brT (rkE y) ((sgR f).2 + 1) (txt y) : ByteArray).size ≤ _
   simp only [cntE, cntL]
   split
   ·simp only [ByteArray.size_append]; omega
   split
   ·simp only [ByteArray.size_append]; omega
   ·have e8 := (sign_facts f h0 (by omega)).2.2.2.2
    simp only [ByteArray.size_append]
    omega
theorem txt_size (e : S38) (h : fitE e = true) : (txt e).size ≤ 20 * cntE e := txt_size_n _ e (xlr _) h
end Go.Proofs.Ytobkdmmnbnpemaa.K
