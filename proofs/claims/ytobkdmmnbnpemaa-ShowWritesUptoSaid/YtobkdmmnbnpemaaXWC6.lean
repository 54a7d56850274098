/- The writer's branch, walked by hand. -/
import Derived.Test.YtobkdmmnbnpemaaXWC5
import Derived.Deep.RegionHeld3
import Derived.Lib.Hide
namespace Go.Proofs.Ytobkdmmnbnpemaa.K
open Go.RowKit Go.Proofs.YtobkdmmnbnpemaaW.PrintWords Go.Proofs.YtobkdmmnbnpemaaW.PrintLast Go.Proofs.YtobkdmmnbnpemaaW.PrintMore
attribute [local go_sem] max2_int min2_int max_two min_two max_three min_three max_four min_four
set_option linter.unusedVariables false
set_option linter.unusedSimpArgs false
theorem sBx_get {f : Int → S41 → Option (List UInt8)} {n : Int} {l : List S41} {b : List UInt8} (h : sBx f n l = some b) : l.length ≤ 1000000 ∧ sB f n l = some b := by
  unfold sBx at h
  by_cases q : l.length ≤ 1000000
  · rw [if_pos q] at h; exact ⟨q, h⟩
  · rw [if_neg q] at h; simp at h
set_option maxHeartbeats 8000000 in
set_option maxRecDepth 100000 in
theorem branch_none (K d : Nat) (f : Int → S41 → Option (List UInt8)) (SC0 : StC d f) (ahead test : ByteArray) (k : Int) (f1 : ByteArray) (f2 : Int) (l3 : List S38) (l4 l5 : List S41) (L3 L4 L5 : Nat) (A3 A4 A5 : Option Addr) (c3 c4 c5 : Nat) (n : Int) (r t b : List UInt8) (g : Nat) (w0 w : World)
  (hn0 : 0 ≤ n) (hn1 : n + d + 1 ≤ 900) (hW : IsW w0.heap.size w g t n) (hB : Below w0.heap.size w0 w) (hL3 : l3.length = L3) (hL4 : l4.length = L4) (hL5 : l5.length = L5) (hC3 : Kd.C k38 w0 A3 l3.length l3) (hC4 : Kd.C k41 w0 A4 l4.length l4) (hC5 : Kd.C k41 w0 A5 l5.length l5) (hc3 : L3 ≤ c3) (hc4 : L4 ≤ c4) (hc5 : L5 ≤ c5) (hs : t.length + r.length ≤ 1000000000) (hb : sBx f (n + 1) l4 = some b) (h5 : L5 = 0) (hr : r = lineB n [ahead, ⟨#[105, 102, 32, 40]⟩, test, ⟨#[41, 32, 123]⟩] ++ (b ++ lineB n [⟨#[125]⟩])) :
    Calls Try.prog 62 #[.pointer (some ⟨g, 0, none⟩), .string ahead, .agg #[.int .i64 k, .string f1, .int .i64 f2, .slice A3 L3 c3, .slice A4 L4 c4, .slice A5 L5 c5], .string test] w (LPost w0.heap.size g (t ++ r) n w0 w) := by
  have hu41 := Try.underlying41
  have hu38 := Try.underlying38
  have HW := Aside0.mk hW
  have HB := Aside0.mk hB
  have HB2 := Aside0.mk (Below.refl w.heap.size w)
  have SC := Aside0.mk SC0
  have HL3 := Aside0.mk hL3
  have HL4 := Aside0.mk hL4
  have HL5 := Aside0.mk hL5
  have HC3 := Aside0.mk hC3
  have HC4 := Aside0.mk hC4
  have HC5 := Aside0.mk hC5
  have HN1 := Aside0.mk hn1
  have HS := Aside0.mk hs
  have HC4L := Aside0.mk hc4
  have HC5L := Aside0.mk hc5
  have hn9 : n ≤ 900 := by omega
  clear SC0 hW hB hL3 hL4 hL5 hC3 hC4 hC5 hs hn1 hc4 hc5
  have hl4 : l4.length ≤ 1000000 ∧ sB f (n + 1) l4 = some b := sBx_get hb
  have HBS := Aside0.mk hl4
  clear hl4 hb
  have HRR := Aside0.mk hr
  clear hr
  have GE := Aside0.mk (IsW.ge HW.out)
  have l5a : ((L5 : Int) == 1) = false := beq_eq_false_iff_ne.2 (by omega)
  have l5b : decide (0 < L5) = false := decide_eq_false (by omega)
  have l5c : decide ((0 : Int) < (L5 : Int)) = false := decide_eq_false (by omega)
  have l5d : ¬ 0 < L5 := by omega
  have HZ := Lib.hid h5
  clear h5
  have SZ1 := Aside0.mk (show (t).length + (([ahead, ⟨#[105, 102, 32, 40]⟩, test, ⟨#[41, 32, 123]⟩] : List ByteArray).map lst).flatten.length ≤ 1000000000 by
    refine size_line (n := n) ?_
    have := HS.out
    rw [HRR.out] at this
    simp only [List.length_append] at this ⊢
    omega)
  have SZ2 := Aside0.mk (show (t ++ lineB n [ahead, ⟨#[105, 102, 32, 40]⟩, test, ⟨#[41, 32, 123]⟩]).length + (b).length ≤ 1000000000 by
    have := HS.out
    rw [HRR.out] at this
    simp only [List.length_append] at this ⊢
    omega)
  have SZ3 := Aside0.mk (show (t ++ lineB n [ahead, ⟨#[105, 102, 32, 40]⟩, test, ⟨#[41, 32, 123]⟩] ++ b).length + (([⟨#[125]⟩] : List ByteArray).map lst).flatten.length ≤ 1000000000 by
    refine size_line (n := n) ?_
    have := HS.out
    rw [HRR.out] at this
    simp only [List.length_append] at this ⊢
    omega)
  go_enter Try.func62, Try.ntmps62
  go_wp2_with (first | ((with_reducible refine gate_dst (N := 6) rfl ?_); refine box_event ?hg (N := 6) ?hd (cs := #[.int .i64 k, .string f1, .int .i64 f2, .slice A3 L3 c3, .slice A4 L4 c4, .slice A5 L5 c5]) (t := 41) ?hr ?_; (case hd => rfl); (case hg => rfl); (case hr => first | (go_simp; done) | (go_simp; rfl)); intro gb hg w2 hbox hb; have n0_ := Aside0.mk (below_step HB2.out hb); have n3_ := Aside0.mk hbox; have n4_ := Aside0.mk (show w.heap.size ≤ gb by rw [hg]; exact Nat.le_refl _); clear HB2 hb hbox hg; have HB2 := n0_; have BK := n3_; have GE2 := n4_; clear n0_ n3_ n4_; obtain ⟨hcz0, hcz1, hcz2, hcz3, hcz4, hcz5⟩ := blkc6 BK.out; obtain ⟨hfz0, hfz1, hfz2, hfz3, hfz4, hfz5⟩ := blkf6 BK.out))
  have n0_ := Aside0.mk (IsW.below HW.out HB2.out)
  have n1_ := Aside0.mk (show Below w0.heap.size w0 w2 from (HB.out).trans (HB2.out.mono (below_size HB.out)))
  have HK := Aside0.mk (KeepT.of_below HB2.out g)
  clear HW HB HB2
  have HW := n0_
  have HB := n1_
  clear n0_ n1_
  go_wp2_with fail
  (with_reducible refine (line_calls t n [ahead, ⟨#[105, 102, 32, 40]⟩, test, ⟨#[41, 32, 123]⟩] _ 4 g w0 _ hn0 (by omega) rfl (by omega) (by repeat (first | (with_reducible first | exact HW.out | apply IsW.alloc | apply IsW.drewN | apply IsW.drew) | exact HW.out)) (by repeat (first | (with_reducible first | exact HB.out | apply below_alloc | apply pw_below_drewN | apply below_drew1 | refine below_set ?_ GE.out) | exact HB.out)) (blk_lit4 _ _ _ _ _) SZ1.out).mono ?_)
  rintro e w6 ⟨rfl, hw6, hb6, hk6⟩
  have n0_ := Aside0.mk hw6
  have n1_ := Aside0.mk hb6
  have n4_ := Aside0.mk (KeepT.blk (cs := #[.int .i64 k, .string f1, .int .i64 f2, .slice A3 L3 c3, .slice A4 L4 c4, .slice A5 L5 c5]) (t := 41) hk6 (by (with_reducible repeat (first | refine blk_drewN ?_ _ | refine blk_drew ?_ | refine blk_alloc ?_ _)); exact BK.out) (IsW.ne_blk HW.out BK.out (by decide)) (by decide))
  have n3_ := Aside0.mk (KeepT.trans (show KeepT w _ g from by repeat (first | (with_reducible first | exact HK.out | apply KeepT.set | apply KeepT.drewN | apply KeepT.drew | apply KeepT.alloc) | exact HK.out)) hk6)
  clear HW HB HK BK hw6 hb6 hk6 hcz0 hfz0 hcz1 hfz1 hcz2 hfz2 hcz3 hfz3 hcz4 hfz4 hcz5 hfz5
  have HW := n0_
  have HB := n1_
  have HK := n3_
  have BK := n4_
  clear n0_ n1_ n3_ n4_
  obtain ⟨hcz0, hcz1, hcz2, hcz3, hcz4, hcz5⟩ := blkc6 BK.out
  obtain ⟨hfz0, hfz1, hfz2, hfz3, hfz4, hfz5⟩ := blkf6 BK.out
  go_wp2_with fail
  (with_reducible refine (within_calls d f SC.out l4 L4 A4 c4 n b (t ++ lineB n [ahead, ⟨#[105, 102, 32, 40]⟩, test, ⟨#[41, 32, 123]⟩]) g w0 _ HBS.out.2 hn0 (by have := HN1.out; omega) HL4.out (by repeat (first | (with_reducible first | exact HW.out | apply IsW.alloc | apply IsW.drewN | apply IsW.drew) | exact HW.out)) (by repeat (first | (with_reducible first | exact HB.out | apply below_alloc | apply pw_below_drewN | apply below_drew1 | refine below_set ?_ GE.out) | exact HB.out)) HC4.out HC4L.out (by have := HBS.out.1; have := HL4.out; omega) SZ2.out).mono ?_)
  rintro e w7 ⟨rfl, hw6, hb6, hk6⟩
  have n0_ := Aside0.mk hw6
  have n1_ := Aside0.mk hb6
  have n4_ := Aside0.mk (KeepT.blk (cs := #[.int .i64 k, .string f1, .int .i64 f2, .slice A3 L3 c3, .slice A4 L4 c4, .slice A5 L5 c5]) (t := 41) hk6 (by (with_reducible repeat (first | refine blk_drewN ?_ _ | refine blk_drew ?_ | refine blk_alloc ?_ _)); exact BK.out) (IsW.ne_blk HW.out BK.out (by decide)) (by decide))
  have n3_ := Aside0.mk (KeepT.trans (show KeepT w _ g from by repeat (first | (with_reducible first | exact HK.out | apply KeepT.set | apply KeepT.drewN | apply KeepT.drew | apply KeepT.alloc) | exact HK.out)) hk6)
  clear HW HB HK BK hw6 hb6 hk6 hcz0 hfz0 hcz1 hfz1 hcz2 hfz2 hcz3 hfz3 hcz4 hfz4 hcz5 hfz5
  have HW := n0_
  have HB := n1_
  have HK := n3_
  have BK := n4_
  clear n0_ n1_ n3_ n4_
  obtain ⟨hcz0, hcz1, hcz2, hcz3, hcz4, hcz5⟩ := blkc6 BK.out
  obtain ⟨hfz0, hfz1, hfz2, hfz3, hfz4, hfz5⟩ := blkf6 BK.out
  go_wp2_with fail
  (with_reducible refine (line_calls (t ++ lineB n [ahead, ⟨#[105, 102, 32, 40]⟩, test, ⟨#[41, 32, 123]⟩] ++ b) n [⟨#[125]⟩] _ 1 g w0 _ hn0 (by omega) rfl (by omega) (by repeat (first | (with_reducible first | exact HW.out | apply IsW.alloc | apply IsW.drewN | apply IsW.drew) | exact HW.out)) (by repeat (first | (with_reducible first | exact HB.out | apply below_alloc | apply pw_below_drewN | apply below_drew1 | refine below_set ?_ GE.out) | exact HB.out)) (blk_lit1 _ _) SZ3.out).mono ?_)
  rintro e w8 ⟨rfl, hw6, hb6, hk6⟩
  have n0_ := Aside0.mk hw6
  have n1_ := Aside0.mk hb6
  have n4_ := Aside0.mk (KeepT.blk (cs := #[.int .i64 k, .string f1, .int .i64 f2, .slice A3 L3 c3, .slice A4 L4 c4, .slice A5 L5 c5]) (t := 41) hk6 (by (with_reducible repeat (first | refine blk_drewN ?_ _ | refine blk_drew ?_ | refine blk_alloc ?_ _)); exact BK.out) (IsW.ne_blk HW.out BK.out (by decide)) (by decide))
  have n3_ := Aside0.mk (KeepT.trans (show KeepT w _ g from by repeat (first | (with_reducible first | exact HK.out | apply KeepT.set | apply KeepT.drewN | apply KeepT.drew | apply KeepT.alloc) | exact HK.out)) hk6)
  clear HW HB HK BK hw6 hb6 hk6 hcz0 hfz0 hcz1 hfz1 hcz2 hfz2 hcz3 hfz3 hcz4 hfz4 hcz5 hfz5
  have HW := n0_
  have HB := n1_
  have HK := n3_
  have BK := n4_
  clear n0_ n1_ n3_ n4_
  obtain ⟨hcz0, hcz1, hcz2, hcz3, hcz4, hcz5⟩ := blkc6 BK.out
  obtain ⟨hfz0, hfz1, hfz2, hfz3, hfz4, hfz5⟩ := blkf6 BK.out
  go_wp2
  go_end0
  exact ⟨rfl, by have := HW.out; rw [HRR.out]; simpa only [List.append_assoc] using this, HB.out, HK.out⟩
set_option maxHeartbeats 8000000 in
set_option maxRecDepth 100000 in
theorem branch_else (K d : Nat) (f : Int → S41 → Option (List UInt8)) (SC0 : StC d f) (ahead test : ByteArray) (k : Int) (f1 : ByteArray) (f2 : Int) (l3 : List S38) (l4 l5 : List S41) (L3 L4 L5 : Nat) (A3 A4 A5 : Option Addr) (c3 c4 c5 : Nat) (n : Int) (r t b : List UInt8) (g : Nat) (w0 w : World)
  (hn0 : 0 ≤ n) (hn1 : n + d + 1 ≤ 900) (hW : IsW w0.heap.size w g t n) (hB : Below w0.heap.size w0 w) (hL3 : l3.length = L3) (hL4 : l4.length = L4) (hL5 : l5.length = L5) (hC3 : Kd.C k38 w0 A3 l3.length l3) (hC4 : Kd.C k41 w0 A4 l4.length l4) (hC5 : Kd.C k41 w0 A5 l5.length l5) (hc3 : L3 ≤ c3) (hc4 : L4 ≤ c4) (hc5 : L5 ≤ c5) (hs : t.length + r.length ≤ 1000000000) (hb : sBx f (n + 1) l4 = some b) (e5 : List UInt8) (hb5 : sBx f (n + 1) l5 = some e5) (h5 : L5 ≠ 0) (hif : L5 = 1 → (rd_T41 l5 0).f0 ≠ 6) (hr : r = lineB n [ahead, ⟨#[105, 102, 32, 40]⟩, test, ⟨#[41, 32, 123]⟩] ++ (b ++ (lineB n [⟨#[125, 32, 101, 108, 115, 101, 32, 123]⟩] ++ (e5 ++ lineB n [⟨#[125]⟩])))) :
    Calls Try.prog 62 #[.pointer (some ⟨g, 0, none⟩), .string ahead, .agg #[.int .i64 k, .string f1, .int .i64 f2, .slice A3 L3 c3, .slice A4 L4 c4, .slice A5 L5 c5], .string test] w (LPost w0.heap.size g (t ++ r) n w0 w) := by
  have hl5 : l5.length ≤ 1000000 ∧ sB f (n + 1) l5 = some e5 := sBx_get hb5
  have HBS5 := Aside0.mk hl5
  clear hl5 hb5
  have hu41 := Try.underlying41
  have hu38 := Try.underlying38
  have HW := Aside0.mk hW
  have HB := Aside0.mk hB
  have HB2 := Aside0.mk (Below.refl w.heap.size w)
  have SC := Aside0.mk SC0
  have HL3 := Aside0.mk hL3
  have HL4 := Aside0.mk hL4
  have HL5 := Aside0.mk hL5
  have HC3 := Aside0.mk hC3
  have HC4 := Aside0.mk hC4
  have HC5 := Aside0.mk hC5
  have HN1 := Aside0.mk hn1
  have HS := Aside0.mk hs
  have HC4L := Aside0.mk hc4
  have HC5L := Aside0.mk hc5
  have hn9 : n ≤ 900 := by omega
  clear SC0 hW hB hL3 hL4 hL5 hC3 hC4 hC5 hs hn1 hc4 hc5
  have hl4 : l4.length ≤ 1000000 ∧ sB f (n + 1) l4 = some b := sBx_get hb
  have HBS := Aside0.mk hl4
  clear hl4 hb
  have HRR := Aside0.mk hr
  clear hr
  have GE := Aside0.mk (IsW.ge HW.out)
  have l5b : decide (0 < L5) = true := decide_eq_true (by omega)
  have l5c : decide ((0 : Int) < (L5 : Int)) = true := decide_eq_true (by omega)
  have l5d : 0 < L5 := by omega
  have HIF := Lib.hid hif
  clear hif
  have SZ1 := Aside0.mk (show (t).length + (([ahead, ⟨#[105, 102, 32, 40]⟩, test, ⟨#[41, 32, 123]⟩] : List ByteArray).map lst).flatten.length ≤ 1000000000 by
    refine size_line (n := n) ?_
    have := HS.out
    rw [HRR.out] at this
    simp only [List.length_append] at this ⊢
    omega)
  have SZ2 := Aside0.mk (show (t ++ lineB n [ahead, ⟨#[105, 102, 32, 40]⟩, test, ⟨#[41, 32, 123]⟩]).length + (b).length ≤ 1000000000 by
    have := HS.out
    rw [HRR.out] at this
    simp only [List.length_append] at this ⊢
    omega)
  have SZ3 := Aside0.mk (show (t ++ lineB n [ahead, ⟨#[105, 102, 32, 40]⟩, test, ⟨#[41, 32, 123]⟩] ++ b).length + (([⟨#[125, 32, 101, 108, 115, 101, 32, 123]⟩] : List ByteArray).map lst).flatten.length ≤ 1000000000 by
    refine size_line (n := n) ?_
    have := HS.out
    rw [HRR.out] at this
    simp only [List.length_append] at this ⊢
    omega)
  have SZ4 := Aside0.mk (show (t ++ lineB n [ahead, ⟨#[105, 102, 32, 40]⟩, test, ⟨#[41, 32, 123]⟩] ++ b ++ lineB n [⟨#[125, 32, 101, 108, 115, 101, 32, 123]⟩]).length + (e5).length ≤ 1000000000 by
    have := HS.out
    rw [HRR.out] at this
    simp only [List.length_append] at this ⊢
    omega)
  have SZ5 := Aside0.mk (show (t ++ lineB n [ahead, ⟨#[105, 102, 32, 40]⟩, test, ⟨#[41, 32, 123]⟩] ++ b ++ lineB n [⟨#[125, 32, 101, 108, 115, 101, 32, 123]⟩] ++ e5).length + (([⟨#[125]⟩] : List ByteArray).map lst).flatten.length ≤ 1000000000 by
    refine size_line (n := n) ?_
    have := HS.out
    rw [HRR.out] at this
    simp only [List.length_append] at this ⊢
    omega)
  go_enter Try.func62, Try.ntmps62
  go_wp2_with (first | ((with_reducible refine gate_dst (N := 6) rfl ?_); refine box_event ?hg (N := 6) ?hd (cs := #[.int .i64 k, .string f1, .int .i64 f2, .slice A3 L3 c3, .slice A4 L4 c4, .slice A5 L5 c5]) (t := 41) ?hr ?_; (case hd => rfl); (case hg => rfl); (case hr => first | (go_simp; done) | (go_simp; rfl)); intro gb hg w2 hbox hb; have n0_ := Aside0.mk (below_step HB2.out hb); have n3_ := Aside0.mk hbox; have n4_ := Aside0.mk (show w.heap.size ≤ gb by rw [hg]; exact Nat.le_refl _); clear HB2 hb hbox hg; have HB2 := n0_; have BK := n3_; have GE2 := n4_; clear n0_ n3_ n4_; obtain ⟨hcz0, hcz1, hcz2, hcz3, hcz4, hcz5⟩ := blkc6 BK.out; obtain ⟨hfz0, hfz1, hfz2, hfz3, hfz4, hfz5⟩ := blkf6 BK.out))
  have n0_ := Aside0.mk (IsW.below HW.out HB2.out)
  have n1_ := Aside0.mk (show Below w0.heap.size w0 w2 from (HB.out).trans (HB2.out.mono (below_size HB.out)))
  have HK := Aside0.mk (KeepT.of_below HB2.out g)
  clear HW HB HB2
  have HW := n0_
  have HB := n1_
  clear n0_ n1_
  go_wp2_with fail
  (with_reducible refine (line_calls t n [ahead, ⟨#[105, 102, 32, 40]⟩, test, ⟨#[41, 32, 123]⟩] _ 4 g w0 _ hn0 (by omega) rfl (by omega) (by repeat (first | (with_reducible first | exact HW.out | apply IsW.alloc | apply IsW.drewN | apply IsW.drew) | exact HW.out)) (by repeat (first | (with_reducible first | exact HB.out | apply below_alloc | apply pw_below_drewN | apply below_drew1 | refine below_set ?_ GE.out) | exact HB.out)) (blk_lit4 _ _ _ _ _) SZ1.out).mono ?_)
  rintro e w6 ⟨rfl, hw6, hb6, hk6⟩
  have n0_ := Aside0.mk hw6
  have n1_ := Aside0.mk hb6
  have n4_ := Aside0.mk (KeepT.blk (cs := #[.int .i64 k, .string f1, .int .i64 f2, .slice A3 L3 c3, .slice A4 L4 c4, .slice A5 L5 c5]) (t := 41) hk6 (by (with_reducible repeat (first | refine blk_drewN ?_ _ | refine blk_drew ?_ | refine blk_alloc ?_ _)); exact BK.out) (IsW.ne_blk HW.out BK.out (by decide)) (by decide))
  have n3_ := Aside0.mk (KeepT.trans (show KeepT w _ g from by repeat (first | (with_reducible first | exact HK.out | apply KeepT.set | apply KeepT.drewN | apply KeepT.drew | apply KeepT.alloc) | exact HK.out)) hk6)
  clear HW HB HK BK hw6 hb6 hk6 hcz0 hfz0 hcz1 hfz1 hcz2 hfz2 hcz3 hfz3 hcz4 hfz4 hcz5 hfz5
  have HW := n0_
  have HB := n1_
  have HK := n3_
  have BK := n4_
  clear n0_ n1_ n3_ n4_
  obtain ⟨hcz0, hcz1, hcz2, hcz3, hcz4, hcz5⟩ := blkc6 BK.out
  obtain ⟨hfz0, hfz1, hfz2, hfz3, hfz4, hfz5⟩ := blkf6 BK.out
  go_wp2_with fail
  (with_reducible refine (within_calls d f SC.out l4 L4 A4 c4 n b (t ++ lineB n [ahead, ⟨#[105, 102, 32, 40]⟩, test, ⟨#[41, 32, 123]⟩]) g w0 _ HBS.out.2 hn0 (by have := HN1.out; omega) HL4.out (by repeat (first | (with_reducible first | exact HW.out | apply IsW.alloc | apply IsW.drewN | apply IsW.drew) | exact HW.out)) (by repeat (first | (with_reducible first | exact HB.out | apply below_alloc | apply pw_below_drewN | apply below_drew1 | refine below_set ?_ GE.out) | exact HB.out)) HC4.out HC4L.out (by have := HBS.out.1; have := HL4.out; omega) SZ2.out).mono ?_)
  rintro e w7 ⟨rfl, hw6, hb6, hk6⟩
  have n0_ := Aside0.mk hw6
  have n1_ := Aside0.mk hb6
  have n4_ := Aside0.mk (KeepT.blk (cs := #[.int .i64 k, .string f1, .int .i64 f2, .slice A3 L3 c3, .slice A4 L4 c4, .slice A5 L5 c5]) (t := 41) hk6 (by (with_reducible repeat (first | refine blk_drewN ?_ _ | refine blk_drew ?_ | refine blk_alloc ?_ _)); exact BK.out) (IsW.ne_blk HW.out BK.out (by decide)) (by decide))
  have n3_ := Aside0.mk (KeepT.trans (show KeepT w _ g from by repeat (first | (with_reducible first | exact HK.out | apply KeepT.set | apply KeepT.drewN | apply KeepT.drew | apply KeepT.alloc) | exact HK.out)) hk6)
  clear HW HB HK BK hw6 hb6 hk6 hcz0 hfz0 hcz1 hfz1 hcz2 hfz2 hcz3 hfz3 hcz4 hfz4 hcz5 hfz5
  have HW := n0_
  have HB := n1_
  have HK := n3_
  have BK := n4_
  clear n0_ n1_ n3_ n4_
  obtain ⟨hcz0, hcz1, hcz2, hcz3, hcz4, hcz5⟩ := blkc6 BK.out
  obtain ⟨hfz0, hfz1, hfz2, hfz3, hfz4, hfz5⟩ := blkf6 BK.out
  by_cases h1 : L5 = 1
  · have l5a : ((L5 : Int) == 1) = true := beq_iff_eq.2 (by omega)
    have hk6 : ((rd_T41 l5 0).f0 == 6) = false := beq_eq_false_iff_ne.2 (HIF.out h1)
    have hl5p : (0 : Int) < (l5.length : Int) := by have := HL5.out; omega
    obtain ⟨ad, Aa, ca, Ab, cb, Ac, cc, eA, hx0, _, _, _, _, _, _⟩ := at_T41 HC5.out 0 (Int.le_refl _) hl5p
    subst eA
    replace hx0 := (HB.out.cell (World.block_lt_of_cell? w0 _ hx0)).trans hx0
    rw [show ((0 : Int)).toNat = 0 from rfl, Nat.zero_mul, Addr.add_zero'] at hx0
    have HONE := Lib.hid h1
    clear h1
    go_wp2_with fail
    (with_reducible refine (line_calls (t ++ lineB n [ahead, ⟨#[105, 102, 32, 40]⟩, test, ⟨#[41, 32, 123]⟩] ++ b) n [⟨#[125, 32, 101, 108, 115, 101, 32, 123]⟩] _ 1 g w0 _ hn0 (by omega) rfl (by omega) (by repeat (first | (with_reducible first | exact HW.out | apply IsW.alloc | apply IsW.drewN | apply IsW.drew) | exact HW.out)) (by repeat (first | (with_reducible first | exact HB.out | apply below_alloc | apply pw_below_drewN | apply below_drew1 | refine below_set ?_ GE.out) | exact HB.out)) (blk_lit1 _ _) SZ3.out).mono ?_)
    rintro e w8 ⟨rfl, hw6, hb6, hk6⟩
    have n0_ := Aside0.mk hw6
    have n1_ := Aside0.mk hb6
    have n4_ := Aside0.mk (KeepT.blk (cs := #[.int .i64 k, .string f1, .int .i64 f2, .slice A3 L3 c3, .slice A4 L4 c4, .slice (some ad) L5 c5]) (t := 41) hk6 (by (with_reducible repeat (first | refine blk_drewN ?_ _ | refine blk_drew ?_ | refine blk_alloc ?_ _)); exact BK.out) (IsW.ne_blk HW.out BK.out (by decide)) (by decide))
    have n3_ := Aside0.mk (KeepT.trans (show KeepT w _ g from by repeat (first | (with_reducible first | exact HK.out | apply KeepT.set | apply KeepT.drewN | apply KeepT.drew | apply KeepT.alloc) | exact HK.out)) hk6)
    clear HW HB HK BK hw6 hb6 hk6 hcz0 hfz0 hcz1 hfz1 hcz2 hfz2 hcz3 hfz3 hcz4 hfz4 hcz5 hfz5
    have HW := n0_
    have HB := n1_
    have HK := n3_
    have BK := n4_
    clear n0_ n1_ n3_ n4_
    obtain ⟨hcz0, hcz1, hcz2, hcz3, hcz4, hcz5⟩ := blkc6 BK.out
    obtain ⟨hfz0, hfz1, hfz2, hfz3, hfz4, hfz5⟩ := blkf6 BK.out
    go_wp2_with fail
    (with_reducible refine (within_calls d f SC.out l5 L5 (some ad) c5 n e5 (t ++ lineB n [ahead, ⟨#[105, 102, 32, 40]⟩, test, ⟨#[41, 32, 123]⟩] ++ b ++ lineB n [⟨#[125, 32, 101, 108, 115, 101, 32, 123]⟩]) g w0 _ HBS5.out.2 hn0 (by have := HN1.out; omega) HL5.out (by repeat (first | (with_reducible first | exact HW.out | apply IsW.alloc | apply IsW.drewN | apply IsW.drew) | exact HW.out)) (by repeat (first | (with_reducible first | exact HB.out | apply below_alloc | apply pw_below_drewN | apply below_drew1 | refine below_set ?_ GE.out) | exact HB.out)) HC5.out HC5L.out (by have := HBS5.out.1; have := HL5.out; omega) SZ4.out).mono ?_)
    rintro e w9 ⟨rfl, hw6, hb6, hk6⟩
    have n0_ := Aside0.mk hw6
    have n1_ := Aside0.mk hb6
    have n4_ := Aside0.mk (KeepT.blk (cs := #[.int .i64 k, .string f1, .int .i64 f2, .slice A3 L3 c3, .slice A4 L4 c4, .slice (some ad) L5 c5]) (t := 41) hk6 (by (with_reducible repeat (first | refine blk_drewN ?_ _ | refine blk_drew ?_ | refine blk_alloc ?_ _)); exact BK.out) (IsW.ne_blk HW.out BK.out (by decide)) (by decide))
    have n3_ := Aside0.mk (KeepT.trans (show KeepT w _ g from by repeat (first | (with_reducible first | exact HK.out | apply KeepT.set | apply KeepT.drewN | apply KeepT.drew | apply KeepT.alloc) | exact HK.out)) hk6)
    clear HW HB HK BK hw6 hb6 hk6 hcz0 hfz0 hcz1 hfz1 hcz2 hfz2 hcz3 hfz3 hcz4 hfz4 hcz5 hfz5
    have HW := n0_
    have HB := n1_
    have HK := n3_
    have BK := n4_
    clear n0_ n1_ n3_ n4_
    obtain ⟨hcz0, hcz1, hcz2, hcz3, hcz4, hcz5⟩ := blkc6 BK.out
    obtain ⟨hfz0, hfz1, hfz2, hfz3, hfz4, hfz5⟩ := blkf6 BK.out
    go_wp2_with fail
    (with_reducible refine (line_calls (t ++ lineB n [ahead, ⟨#[105, 102, 32, 40]⟩, test, ⟨#[41, 32, 123]⟩] ++ b ++ lineB n [⟨#[125, 32, 101, 108, 115, 101, 32, 123]⟩] ++ e5) n [⟨#[125]⟩] _ 1 g w0 _ hn0 (by omega) rfl (by omega) (by repeat (first | (with_reducible first | exact HW.out | apply IsW.alloc | apply IsW.drewN | apply IsW.drew) | exact HW.out)) (by repeat (first | (with_reducible first | exact HB.out | apply below_alloc | apply pw_below_drewN | apply below_drew1 | refine below_set ?_ GE.out) | exact HB.out)) (blk_lit1 _ _) SZ5.out).mono ?_)
    rintro e w10 ⟨rfl, hw6, hb6, hk6⟩
    have n0_ := Aside0.mk hw6
    have n1_ := Aside0.mk hb6
    have n4_ := Aside0.mk (KeepT.blk (cs := #[.int .i64 k, .string f1, .int .i64 f2, .slice A3 L3 c3, .slice A4 L4 c4, .slice (some ad) L5 c5]) (t := 41) hk6 (by (with_reducible repeat (first | refine blk_drewN ?_ _ | refine blk_drew ?_ | refine blk_alloc ?_ _)); exact BK.out) (IsW.ne_blk HW.out BK.out (by decide)) (by decide))
    have n3_ := Aside0.mk (KeepT.trans (show KeepT w _ g from by repeat (first | (with_reducible first | exact HK.out | apply KeepT.set | apply KeepT.drewN | apply KeepT.drew | apply KeepT.alloc) | exact HK.out)) hk6)
    clear HW HB HK BK hw6 hb6 hk6 hcz0 hfz0 hcz1 hfz1 hcz2 hfz2 hcz3 hfz3 hcz4 hfz4 hcz5 hfz5
    have HW := n0_
    have HB := n1_
    have HK := n3_
    have BK := n4_
    clear n0_ n1_ n3_ n4_
    obtain ⟨hcz0, hcz1, hcz2, hcz3, hcz4, hcz5⟩ := blkc6 BK.out
    obtain ⟨hfz0, hfz1, hfz2, hfz3, hfz4, hfz5⟩ := blkf6 BK.out
    go_wp2
    go_end0
    exact ⟨rfl, by have := HW.out; rw [HRR.out]; simpa only [List.append_assoc] using this, HB.out, HK.out⟩
  · have l5a : ((L5 : Int) == 1) = false := beq_eq_false_iff_ne.2 (by omega)
    go_wp2_with fail
    (with_reducible refine (line_calls (t ++ lineB n [ahead, ⟨#[105, 102, 32, 40]⟩, test, ⟨#[41, 32, 123]⟩] ++ b) n [⟨#[125, 32, 101, 108, 115, 101, 32, 123]⟩] _ 1 g w0 _ hn0 (by omega) rfl (by omega) (by repeat (first | (with_reducible first | exact HW.out | apply IsW.alloc | apply IsW.drewN | apply IsW.drew) | exact HW.out)) (by repeat (first | (with_reducible first | exact HB.out | apply below_alloc | apply pw_below_drewN | apply below_drew1 | refine below_set ?_ GE.out) | exact HB.out)) (blk_lit1 _ _) SZ3.out).mono ?_)
    rintro e w8 ⟨rfl, hw6, hb6, hk6⟩
    have n0_ := Aside0.mk hw6
    have n1_ := Aside0.mk hb6
    have n4_ := Aside0.mk (KeepT.blk (cs := #[.int .i64 k, .string f1, .int .i64 f2, .slice A3 L3 c3, .slice A4 L4 c4, .slice A5 L5 c5]) (t := 41) hk6 (by (with_reducible repeat (first | refine blk_drewN ?_ _ | refine blk_drew ?_ | refine blk_alloc ?_ _)); exact BK.out) (IsW.ne_blk HW.out BK.out (by decide)) (by decide))
    have n3_ := Aside0.mk (KeepT.trans (show KeepT w _ g from by repeat (first | (with_reducible first | exact HK.out | apply KeepT.set | apply KeepT.drewN | apply KeepT.drew | apply KeepT.alloc) | exact HK.out)) hk6)
    clear HW HB HK BK hw6 hb6 hk6 hcz0 hfz0 hcz1 hfz1 hcz2 hfz2 hcz3 hfz3 hcz4 hfz4 hcz5 hfz5
    have HW := n0_
    have HB := n1_
    have HK := n3_
    have BK := n4_
    clear n0_ n1_ n3_ n4_
    obtain ⟨hcz0, hcz1, hcz2, hcz3, hcz4, hcz5⟩ := blkc6 BK.out
    obtain ⟨hfz0, hfz1, hfz2, hfz3, hfz4, hfz5⟩ := blkf6 BK.out
    go_wp2_with fail
    (with_reducible refine (within_calls d f SC.out l5 L5 A5 c5 n e5 (t ++ lineB n [ahead, ⟨#[105, 102, 32, 40]⟩, test, ⟨#[41, 32, 123]⟩] ++ b ++ lineB n [⟨#[125, 32, 101, 108, 115, 101, 32, 123]⟩]) g w0 _ HBS5.out.2 hn0 (by have := HN1.out; omega) HL5.out (by repeat (first | (with_reducible first | exact HW.out | apply IsW.alloc | apply IsW.drewN | apply IsW.drew) | exact HW.out)) (by repeat (first | (with_reducible first | exact HB.out | apply below_alloc | apply pw_below_drewN | apply below_drew1 | refine below_set ?_ GE.out) | exact HB.out)) HC5.out HC5L.out (by have := HBS5.out.1; have := HL5.out; omega) SZ4.out).mono ?_)
    rintro e w9 ⟨rfl, hw6, hb6, hk6⟩
    have n0_ := Aside0.mk hw6
    have n1_ := Aside0.mk hb6
    have n4_ := Aside0.mk (KeepT.blk (cs := #[.int .i64 k, .string f1, .int .i64 f2, .slice A3 L3 c3, .slice A4 L4 c4, .slice A5 L5 c5]) (t := 41) hk6 (by (with_reducible repeat (first | refine blk_drewN ?_ _ | refine blk_drew ?_ | refine blk_alloc ?_ _)); exact BK.out) (IsW.ne_blk HW.out BK.out (by decide)) (by decide))
    have n3_ := Aside0.mk (KeepT.trans (show KeepT w _ g from by repeat (first | (with_reducible first | exact HK.out | apply KeepT.set | apply KeepT.drewN | apply KeepT.drew | apply KeepT.alloc) | exact HK.out)) hk6)
    clear HW HB HK BK hw6 hb6 hk6 hcz0 hfz0 hcz1 hfz1 hcz2 hfz2 hcz3 hfz3 hcz4 hfz4 hcz5 hfz5
    have HW := n0_
    have HB := n1_
    have HK := n3_
    have BK := n4_
    clear n0_ n1_ n3_ n4_
    obtain ⟨hcz0, hcz1, hcz2, hcz3, hcz4, hcz5⟩ := blkc6 BK.out
    obtain ⟨hfz0, hfz1, hfz2, hfz3, hfz4, hfz5⟩ := blkf6 BK.out
    go_wp2_with fail
    (with_reducible refine (line_calls (t ++ lineB n [ahead, ⟨#[105, 102, 32, 40]⟩, test, ⟨#[41, 32, 123]⟩] ++ b ++ lineB n [⟨#[125, 32, 101, 108, 115, 101, 32, 123]⟩] ++ e5) n [⟨#[125]⟩] _ 1 g w0 _ hn0 (by omega) rfl (by omega) (by repeat (first | (with_reducible first | exact HW.out | apply IsW.alloc | apply IsW.drewN | apply IsW.drew) | exact HW.out)) (by repeat (first | (with_reducible first | exact HB.out | apply below_alloc | apply pw_below_drewN | apply below_drew1 | refine below_set ?_ GE.out) | exact HB.out)) (blk_lit1 _ _) SZ5.out).mono ?_)
    rintro e w10 ⟨rfl, hw6, hb6, hk6⟩
    have n0_ := Aside0.mk hw6
    have n1_ := Aside0.mk hb6
    have n4_ := Aside0.mk (KeepT.blk (cs := #[.int .i64 k, .string f1, .int .i64 f2, .slice A3 L3 c3, .slice A4 L4 c4, .slice A5 L5 c5]) (t := 41) hk6 (by (with_reducible repeat (first | refine blk_drewN ?_ _ | refine blk_drew ?_ | refine blk_alloc ?_ _)); exact BK.out) (IsW.ne_blk HW.out BK.out (by decide)) (by decide))
    have n3_ := Aside0.mk (KeepT.trans (show KeepT w _ g from by repeat (first | (with_reducible first | exact HK.out | apply KeepT.set | apply KeepT.drewN | apply KeepT.drew | apply KeepT.alloc) | exact HK.out)) hk6)
    clear HW HB HK BK hw6 hb6 hk6 hcz0 hfz0 hcz1 hfz1 hcz2 hfz2 hcz3 hfz3 hcz4 hfz4 hcz5 hfz5
    have HW := n0_
    have HB := n1_
    have HK := n3_
    have BK := n4_
    clear n0_ n1_ n3_ n4_
    obtain ⟨hcz0, hcz1, hcz2, hcz3, hcz4, hcz5⟩ := blkc6 BK.out
    obtain ⟨hfz0, hfz1, hfz2, hfz3, hfz4, hfz5⟩ := blkf6 BK.out
    go_wp2
    go_end0
    exact ⟨rfl, by have := HW.out; rw [HRR.out]; simpa only [List.append_assoc] using this, HB.out, HK.out⟩
set_option maxHeartbeats 8000000 in
set_option maxRecDepth 100000 in
theorem branch_elif (K d : Nat) (f : Int → S41 → Option (List UInt8)) (SC0 : StC d f) (ahead test : ByteArray) (k : Int) (f1 : ByteArray) (f2 : Int) (l3 : List S38) (l4 l5 : List S41) (L3 L4 L5 : Nat) (A3 A4 A5 : Option Addr) (c3 c4 c5 : Nat) (n : Int) (r t b : List UInt8) (g : Nat) (w0 w : World)
  (hn0 : 0 ≤ n) (hn1 : n + d + 1 ≤ 900) (hW : IsW w0.heap.size w g t n) (hB : Below w0.heap.size w0 w) (hL3 : l3.length = L3) (hL4 : l4.length = L4) (hL5 : l5.length = L5) (hC3 : Kd.C k38 w0 A3 l3.length l3) (hC4 : Kd.C k41 w0 A4 l4.length l4) (hC5 : Kd.C k41 w0 A5 l5.length l5) (hc3 : L3 ≤ c3) (hc4 : L4 ≤ c4) (hc5 : L5 ≤ c5) (hs : t.length + r.length ≤ 1000000000) (hb : sBx f (n + 1) l4 = some b) (br : Int → ByteArray → S41 → ByteArray → Option (List UInt8)) (BC0 : BrC d br) (x : ByteArray) (r2 : List UInt8) (h5 : L5 = 1) (hk6 : (rd_T41 l5 0).f0 = 6) (hne : (rd_T41 l5 0).f3.length ≠ 0) (hx : exT K (rd_T38 (rd_T41 l5 0).f3 0) = some x) (hr2 : br n ⟨#[125, 32, 101, 108, 115, 101, 32]⟩ (rd_T41 l5 0) x = some r2) (hr : r = lineB n [ahead, ⟨#[105, 102, 32, 40]⟩, test, ⟨#[41, 32, 123]⟩] ++ (b ++ r2)) :
    Calls Try.prog 62 #[.pointer (some ⟨g, 0, none⟩), .string ahead, .agg #[.int .i64 k, .string f1, .int .i64 f2, .slice A3 L3 c3, .slice A4 L4 c4, .slice A5 L5 c5], .string test] w (LPost w0.heap.size g (t ++ r) n w0 w) := by
  have BC := Aside0.mk BC0
  have HRX := Aside0.mk (show show_Expr.f K (rd_T38 (rd_T41 l5 0).f3 0).f0 (rd_T38 (rd_T41 l5 0).f3 0).f1 (rd_T38 (rd_T41 l5 0).f3 0).f2 (rd_T38 (rd_T41 l5 0).f3 0).f3 (rd_T38 (rd_T41 l5 0).f3 0).f4 = some x from hx)
  have HR2 := Aside0.mk (show br n ⟨#[125, 32, 101, 108, 115, 101, 32]⟩ ⟨(rd_T41 l5 0).f0, (rd_T41 l5 0).f1, (rd_T41 l5 0).f2, (rd_T41 l5 0).f3, (rd_T41 l5 0).f4, (rd_T41 l5 0).f5⟩ x = some r2 from by rw [eta41]; exact hr2)
  have hk6b : ((rd_T41 l5 0).f0 == 6) = true := beq_iff_eq.2 hk6
  have HK6 := Lib.hid hk6
  clear BC0 hx hr2 hk6
  have hu41 := Try.underlying41
  have hu38 := Try.underlying38
  have HW := Aside0.mk hW
  have HB := Aside0.mk hB
  have HB2 := Aside0.mk (Below.refl w.heap.size w)
  have SC := Aside0.mk SC0
  have HL3 := Aside0.mk hL3
  have HL4 := Aside0.mk hL4
  have HL5 := Aside0.mk hL5
  have HC3 := Aside0.mk hC3
  have HC4 := Aside0.mk hC4
  have HC5 := Aside0.mk hC5
  have HN1 := Aside0.mk hn1
  have HS := Aside0.mk hs
  have HC4L := Aside0.mk hc4
  have HC5L := Aside0.mk hc5
  have hn9 : n ≤ 900 := by omega
  clear SC0 hW hB hL3 hL4 hL5 hC3 hC4 hC5 hs hn1 hc4 hc5
  have hl4 : l4.length ≤ 1000000 ∧ sB f (n + 1) l4 = some b := sBx_get hb
  have HBS := Aside0.mk hl4
  clear hl4 hb
  have HRR := Aside0.mk hr
  clear hr
  have GE := Aside0.mk (IsW.ge HW.out)
  have l5a : ((L5 : Int) == 1) = true := beq_iff_eq.2 (by omega)
  have l5p : 0 < L5 := by omega
  have l5pi : (0 : Int) < (L5 : Int) := by omega
  have HONE := Lib.hid h5
  have HNE := Aside0.mk hne
  clear h5 hne
  have SZ1 := Aside0.mk (show (t).length + (([ahead, ⟨#[105, 102, 32, 40]⟩, test, ⟨#[41, 32, 123]⟩] : List ByteArray).map lst).flatten.length ≤ 1000000000 by
    refine size_line (n := n) ?_
    have := HS.out
    rw [HRR.out] at this
    simp only [List.length_append] at this ⊢
    omega)
  have SZ2 := Aside0.mk (show (t ++ lineB n [ahead, ⟨#[105, 102, 32, 40]⟩, test, ⟨#[41, 32, 123]⟩]).length + (b).length ≤ 1000000000 by
    have := HS.out
    rw [HRR.out] at this
    simp only [List.length_append] at this ⊢
    omega)
  have SZ3 := Aside0.mk (show (t ++ lineB n [ahead, ⟨#[105, 102, 32, 40]⟩, test, ⟨#[41, 32, 123]⟩] ++ b).length + (r2).length ≤ 1000000000 by
    have := HS.out
    rw [HRR.out] at this
    simp only [List.length_append] at this ⊢
    omega)
  go_enter Try.func62, Try.ntmps62
  go_wp2_with (first | ((with_reducible refine gate_dst (N := 6) rfl ?_); refine box_event ?hg (N := 6) ?hd (cs := #[.int .i64 k, .string f1, .int .i64 f2, .slice A3 L3 c3, .slice A4 L4 c4, .slice A5 L5 c5]) (t := 41) ?hr ?_; (case hd => rfl); (case hg => rfl); (case hr => first | (go_simp; done) | (go_simp; rfl)); intro gb hg w2 hbox hb; have n0_ := Aside0.mk (below_step HB2.out hb); have n3_ := Aside0.mk hbox; have n4_ := Aside0.mk (show w.heap.size ≤ gb by rw [hg]; exact Nat.le_refl _); clear HB2 hb hbox hg; have HB2 := n0_; have BK := n3_; have GE2 := n4_; clear n0_ n3_ n4_; obtain ⟨hcz0, hcz1, hcz2, hcz3, hcz4, hcz5⟩ := blkc6 BK.out; obtain ⟨hfz0, hfz1, hfz2, hfz3, hfz4, hfz5⟩ := blkf6 BK.out))
  have n0_ := Aside0.mk (IsW.below HW.out HB2.out)
  have n1_ := Aside0.mk (show Below w0.heap.size w0 w2 from (HB.out).trans (HB2.out.mono (below_size HB.out)))
  have HK := Aside0.mk (KeepT.of_below HB2.out g)
  clear HW HB HB2
  have HW := n0_
  have HB := n1_
  clear n0_ n1_
  go_wp2_with fail
  (with_reducible refine (line_calls t n [ahead, ⟨#[105, 102, 32, 40]⟩, test, ⟨#[41, 32, 123]⟩] _ 4 g w0 _ hn0 (by omega) rfl (by omega) (by repeat (first | (with_reducible first | exact HW.out | apply IsW.alloc | apply IsW.drewN | apply IsW.drew) | exact HW.out)) (by repeat (first | (with_reducible first | exact HB.out | apply below_alloc | apply pw_below_drewN | apply below_drew1 | refine below_set ?_ GE.out) | exact HB.out)) (blk_lit4 _ _ _ _ _) SZ1.out).mono ?_)
  rintro e w6 ⟨rfl, hw6, hb6, hk6⟩
  have n0_ := Aside0.mk hw6
  have n1_ := Aside0.mk hb6
  have n4_ := Aside0.mk (KeepT.blk (cs := #[.int .i64 k, .string f1, .int .i64 f2, .slice A3 L3 c3, .slice A4 L4 c4, .slice A5 L5 c5]) (t := 41) hk6 (by (with_reducible repeat (first | refine blk_drewN ?_ _ | refine blk_drew ?_ | refine blk_alloc ?_ _)); exact BK.out) (IsW.ne_blk HW.out BK.out (by decide)) (by decide))
  have n3_ := Aside0.mk (KeepT.trans (show KeepT w _ g from by repeat (first | (with_reducible first | exact HK.out | apply KeepT.set | apply KeepT.drewN | apply KeepT.drew | apply KeepT.alloc) | exact HK.out)) hk6)
  clear HW HB HK BK hw6 hb6 hk6 hcz0 hfz0 hcz1 hfz1 hcz2 hfz2 hcz3 hfz3 hcz4 hfz4 hcz5 hfz5
  have HW := n0_
  have HB := n1_
  have HK := n3_
  have BK := n4_
  clear n0_ n1_ n3_ n4_
  obtain ⟨hcz0, hcz1, hcz2, hcz3, hcz4, hcz5⟩ := blkc6 BK.out
  obtain ⟨hfz0, hfz1, hfz2, hfz3, hfz4, hfz5⟩ := blkf6 BK.out
  go_wp2_with fail
  (with_reducible refine (within_calls d f SC.out l4 L4 A4 c4 n b (t ++ lineB n [ahead, ⟨#[105, 102, 32, 40]⟩, test, ⟨#[41, 32, 123]⟩]) g w0 _ HBS.out.2 hn0 (by have := HN1.out; omega) HL4.out (by repeat (first | (with_reducible first | exact HW.out | apply IsW.alloc | apply IsW.drewN | apply IsW.drew) | exact HW.out)) (by repeat (first | (with_reducible first | exact HB.out | apply below_alloc | apply pw_below_drewN | apply below_drew1 | refine below_set ?_ GE.out) | exact HB.out)) HC4.out HC4L.out (by have := HBS.out.1; have := HL4.out; omega) SZ2.out).mono ?_)
  rintro e w7 ⟨rfl, hw6, hb6, hk6⟩
  have n0_ := Aside0.mk hw6
  have n1_ := Aside0.mk hb6
  have n4_ := Aside0.mk (KeepT.blk (cs := #[.int .i64 k, .string f1, .int .i64 f2, .slice A3 L3 c3, .slice A4 L4 c4, .slice A5 L5 c5]) (t := 41) hk6 (by (with_reducible repeat (first | refine blk_drewN ?_ _ | refine blk_drew ?_ | refine blk_alloc ?_ _)); exact BK.out) (IsW.ne_blk HW.out BK.out (by decide)) (by decide))
  have n3_ := Aside0.mk (KeepT.trans (show KeepT w _ g from by repeat (first | (with_reducible first | exact HK.out | apply KeepT.set | apply KeepT.drewN | apply KeepT.drew | apply KeepT.alloc) | exact HK.out)) hk6)
  clear HW HB HK BK hw6 hb6 hk6 hcz0 hfz0 hcz1 hfz1 hcz2 hfz2 hcz3 hfz3 hcz4 hfz4 hcz5 hfz5
  have HW := n0_
  have HB := n1_
  have HK := n3_
  have BK := n4_
  clear n0_ n1_ n3_ n4_
  obtain ⟨hcz0, hcz1, hcz2, hcz3, hcz4, hcz5⟩ := blkc6 BK.out
  obtain ⟨hfz0, hfz1, hfz2, hfz3, hfz4, hfz5⟩ := blkf6 BK.out
  have hl5p : (0 : Int) < (l5.length : Int) := by have := HL5.out; omega
  obtain ⟨ad, Aa, ca, Ab, cb, Ac, cc, eA, hx0, hx1, hx2, hx3, hx4, hx5, ga3, hi3, ga4, hi4, ga5, hi5⟩ := at_T41 HC5.out 0 (Int.le_refl _) hl5p
  subst eA
  have hep : (0 : Int) < ((rd_T41 l5 0).f3.length : Int) := by have := HNE.out; omega
  obtain ⟨ae, Ae, ce, eB, hy0, hy1, hy2, hy3, hy4, gb4, hj4⟩ := at_T38 hi3 0 (Int.le_refl _) hep
  subst eB
  simp only [show ((0 : Int)).toNat = 0 from rfl, Nat.zero_mul, Addr.add_zero'] at hx0 hx1 hx2 hx3 hx4 hx5 hy0 hy1 hy2 hy3 hy4
  have HCa := Aside0.mk hi3
  have HCb := Aside0.mk hi4
  have HCc := Aside0.mk hi5
  have HLa := Aside0.mk ga3
  have HLb := Aside0.mk ga4
  have HLc := Aside0.mk ga5
  have HCE := Aside0.mk (Kd.C_below hj4 HB.out)
  have HLE := Aside0.mk gb4
  have hep2 : 0 < (rd_T41 l5 0).f3.length := by have := HNE.out; omega
  have kx0 := Aside0.mk hx0
  replace hx0 := (HB.out.cell (World.block_lt_of_cell? w0 _ hx0)).trans hx0
  have kx1 := Aside0.mk hx1
  replace hx1 := (HB.out.cell (World.block_lt_of_cell? w0 _ hx1)).trans hx1
  have kx2 := Aside0.mk hx2
  replace hx2 := (HB.out.cell (World.block_lt_of_cell? w0 _ hx2)).trans hx2
  have kx3 := Aside0.mk hx3
  replace hx3 := (HB.out.cell (World.block_lt_of_cell? w0 _ hx3)).trans hx3
  have kx4 := Aside0.mk hx4
  replace hx4 := (HB.out.cell (World.block_lt_of_cell? w0 _ hx4)).trans hx4
  have kx5 := Aside0.mk hx5
  replace hx5 := (HB.out.cell (World.block_lt_of_cell? w0 _ hx5)).trans hx5
  have ky0 := Aside0.mk hy0
  replace hy0 := (HB.out.cell (World.block_lt_of_cell? w0 _ hy0)).trans hy0
  have ky1 := Aside0.mk hy1
  replace hy1 := (HB.out.cell (World.block_lt_of_cell? w0 _ hy1)).trans hy1
  have ky2 := Aside0.mk hy2
  replace hy2 := (HB.out.cell (World.block_lt_of_cell? w0 _ hy2)).trans hy2
  have ky3 := Aside0.mk hy3
  replace hy3 := (HB.out.cell (World.block_lt_of_cell? w0 _ hy3)).trans hy3
  have ky4 := Aside0.mk hy4
  replace hy4 := (HB.out.cell (World.block_lt_of_cell? w0 _ hy4)).trans hy4
  clear hi3 hi4 hi5 ga3 ga4 ga5 hj4 gb4 hl5p
  go_wp2
  go_region_held3 (fun w' => w'.cell? ⟨gb, 5, none⟩ = some (.slice (some ad) L5 c5) ∧ w'.cell? ad = some (.int .i64 (rd_T41 l5 0).f0) ∧ w'.cell? ⟨ad.block, ad.off + 1, none⟩ = some (.string (rd_T41 l5 0).f1) ∧ w'.cell? ⟨ad.block, ad.off + 2, none⟩ = some (.int .i64 (rd_T41 l5 0).f2) ∧ w'.cell? ⟨ad.block, ad.off + 3, none⟩ = some (.slice (some ae) (rd_T41 l5 0).f3.length ca) ∧ w'.cell? ⟨ad.block, ad.off + 4, none⟩ = some (.slice Ab (rd_T41 l5 0).f4.length cb) ∧ w'.cell? ⟨ad.block, ad.off + 5, none⟩ = some (.slice Ac (rd_T41 l5 0).f5.length cc) ∧ w'.cell? ae = some (.int .i64 (rd_T38 (rd_T41 l5 0).f3 0).f0) ∧ w'.cell? ⟨ae.block, ae.off + 1, none⟩ = some (.int .i64 (rd_T38 (rd_T41 l5 0).f3 0).f1) ∧ w'.cell? ⟨ae.block, ae.off + 2, none⟩ = some (.string (rd_T38 (rd_T41 l5 0).f3 0).f2) ∧ w'.cell? ⟨ae.block, ae.off + 3, none⟩ = some (.int .i64 (rd_T38 (rd_T41 l5 0).f3 0).f3) ∧ w'.cell? ⟨ae.block, ae.off + 4, none⟩ = some (.slice Ae (rd_T38 (rd_T41 l5 0).f3 0).f4.length ce)) (go_keep) (first | (go_at_call 23; (with_reducible refine (show_Expr.calls K _ _ _ _ _ _ (rd_T38 (rd_T41 l5 0).f3 0).f4 x _ (by (with_reducible repeat (first | refine Kd.C_alloc ?_ _ | refine Kd.C_drewN ?_ _ | refine Kd.C_drew ?_)); exact HCE.out) HLE.out HRX.out).mono ?_); rintro e wE ⟨rfl, hb7⟩; have b1_ := blk_below (show _ = some (.cells #[.int .i64 k, .string f1, .int .i64 f2, .slice A3 L3 c3, .slice A4 L4 c4, .slice (some ad) L5 c5] 41 (0, 0)) from (by (with_reducible repeat (first | refine blk_drewN ?_ _ | refine blk_drew ?_ | refine blk_alloc ?_ _)); exact BK.out)) hb7; have kb5_ : wE.cell? ⟨gb, 5, none⟩ = some (.slice (some ad) L5 c5) := (blk_cell b1_ 5).trans rfl; have hBE := below_step (show Below w0.heap.size w0 _ from by repeat (first | (with_reducible first | exact HB.out | apply below_alloc | apply pw_below_drewN | apply below_drew1 | refine below_set ?_ GE.out) | exact HB.out)) hb7; have qx0_ := (hBE.cell (World.block_lt_of_cell? w0 _ kx0.out)).trans kx0.out; have qx1_ := (hBE.cell (World.block_lt_of_cell? w0 _ kx1.out)).trans kx1.out; have qx2_ := (hBE.cell (World.block_lt_of_cell? w0 _ kx2.out)).trans kx2.out; have qx3_ := (hBE.cell (World.block_lt_of_cell? w0 _ kx3.out)).trans kx3.out; have qx4_ := (hBE.cell (World.block_lt_of_cell? w0 _ kx4.out)).trans kx4.out; have qx5_ := (hBE.cell (World.block_lt_of_cell? w0 _ kx5.out)).trans kx5.out; have qy0_ := (hBE.cell (World.block_lt_of_cell? w0 _ ky0.out)).trans ky0.out; have qy1_ := (hBE.cell (World.block_lt_of_cell? w0 _ ky1.out)).trans ky1.out; have qy2_ := (hBE.cell (World.block_lt_of_cell? w0 _ ky2.out)).trans ky2.out; have qy3_ := (hBE.cell (World.block_lt_of_cell? w0 _ ky3.out)).trans ky3.out; have qy4_ := (hBE.cell (World.block_lt_of_cell? w0 _ ky4.out)).trans ky4.out; have n0_ := Aside0.mk (IsW.below (show IsW w0.heap.size _ g (t ++ lineB n [ahead, ⟨#[105, 102, 32, 40]⟩, test, ⟨#[41, 32, 123]⟩] ++ b) n from by repeat (first | (with_reducible first | exact HW.out | apply IsW.alloc | apply IsW.drewN | apply IsW.drew) | exact HW.out)) hb7); have n1_ := Aside0.mk hBE; have n3_ := Aside0.mk (KeepT.below (show KeepT w _ g from by repeat (first | (with_reducible first | exact HK.out | apply KeepT.set | apply KeepT.drewN | apply KeepT.drew | apply KeepT.alloc) | exact HK.out)) hb7); have n4_ := Aside0.mk b1_; clear HW HB HK BK hb7 b1_ hBE HCE; have HW := n0_; have HB := n1_; have HK := n3_; have BK := n4_; clear n0_ n1_ n3_ n4_) | (go_at_call 62; (with_reducible refine (BC.out.use _ x (rd_T41 l5 0).f0 (rd_T41 l5 0).f1 (rd_T41 l5 0).f2 (rd_T41 l5 0).f3 (rd_T41 l5 0).f4 (rd_T41 l5 0).f5 _ _ _ (some ae) Ab Ac ca cb cc n r2 (t ++ lineB n [ahead, ⟨#[105, 102, 32, 40]⟩, test, ⟨#[41, 32, 123]⟩] ++ b) g w0 _ HR2.out hn0 (by have := HN1.out; omega) (by repeat (first | (with_reducible first | exact HW.out | apply IsW.alloc | apply IsW.drewN | apply IsW.drew) | exact HW.out)) (by repeat (first | (with_reducible first | exact HB.out | apply below_alloc | apply pw_below_drewN | apply below_drew1 | refine below_set ?_ GE.out) | exact HB.out)) rfl rfl rfl HCa.out HCb.out HCc.out HLa.out HLb.out HLc.out SZ3.out).mono ?_); rintro e wF ⟨rfl, hw6, hb6, hk6⟩; have b1_ := KeepT.blk (cs := #[.int .i64 k, .string f1, .int .i64 f2, .slice A3 L3 c3, .slice A4 L4 c4, .slice (some ad) L5 c5]) (t := 41) hk6 (by (with_reducible repeat (first | refine blk_drewN ?_ _ | refine blk_drew ?_ | refine blk_alloc ?_ _)); exact BK.out) (IsW.ne_blk HW.out BK.out (by decide)) (by decide); have kb5_ : wF.cell? ⟨gb, 5, none⟩ = some (.slice (some ad) L5 c5) := (blk_cell b1_ 5).trans rfl; have qx0_ := (hb6.cell (World.block_lt_of_cell? w0 _ kx0.out)).trans kx0.out; have qx1_ := (hb6.cell (World.block_lt_of_cell? w0 _ kx1.out)).trans kx1.out; have qx2_ := (hb6.cell (World.block_lt_of_cell? w0 _ kx2.out)).trans kx2.out; have qx3_ := (hb6.cell (World.block_lt_of_cell? w0 _ kx3.out)).trans kx3.out; have qx4_ := (hb6.cell (World.block_lt_of_cell? w0 _ kx4.out)).trans kx4.out; have qx5_ := (hb6.cell (World.block_lt_of_cell? w0 _ kx5.out)).trans kx5.out; have qy0_ := (hb6.cell (World.block_lt_of_cell? w0 _ ky0.out)).trans ky0.out; have qy1_ := (hb6.cell (World.block_lt_of_cell? w0 _ ky1.out)).trans ky1.out; have qy2_ := (hb6.cell (World.block_lt_of_cell? w0 _ ky2.out)).trans ky2.out; have qy3_ := (hb6.cell (World.block_lt_of_cell? w0 _ ky3.out)).trans ky3.out; have qy4_ := (hb6.cell (World.block_lt_of_cell? w0 _ ky4.out)).trans ky4.out; have n0_ := Aside0.mk hw6; have n1_ := Aside0.mk hb6; have n3_ := Aside0.mk (KeepT.trans (show KeepT w _ g from by repeat (first | (with_reducible first | exact HK.out | apply KeepT.set | apply KeepT.drewN | apply KeepT.drew | apply KeepT.alloc) | exact HK.out)) hk6); clear HW HB HK hw6 hb6 hk6; have HW := n0_; have HB := n1_; have HK := n3_; clear n0_ n1_ n3_))
  go_wp2
  go_end0
  exact ⟨rfl, by have := HW.out; rw [HRR.out]; simpa only [List.append_assoc] using this, HB.out, HK.out⟩
end Go.Proofs.Ytobkdmmnbnpemaa.K
