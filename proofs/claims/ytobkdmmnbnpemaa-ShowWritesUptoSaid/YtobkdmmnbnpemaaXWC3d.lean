/- The writer's stmt: the kinds whose regions draw, walked by hand. -/
import Derived.Test.YtobkdmmnbnpemaaXWC3
import Derived.Deep.RegionHeld3
import Derived.Lib.Hide
namespace Go.Proofs.Ytobkdmmnbnpemaa.K
open Go.RowKit Go.Proofs.YtobkdmmnbnpemaaW.PrintWords Go.Proofs.YtobkdmmnbnpemaaW.PrintLast Go.Proofs.YtobkdmmnbnpemaaW.PrintMore
attribute [local go_sem] max2_int min2_int max_two min_two max_three min_three max_four min_four
set_option linter.unusedVariables false
set_option linter.unusedSimpArgs false
set_option maxHeartbeats 8000000 in
set_option maxRecDepth 100000 in
theorem stmt_k1 (K d : Nat) (f : Int → S41 → Option (List UInt8)) (SC0 : StC d f) (k : Int) (f1 : ByteArray) (f2 : Int) (l3 : List S38) (l4 l5 : List S41) (L3 L4 L5 : Nat) (A3 A4 A5 : Option Addr) (c3 c4 c5 : Nat) (n : Int) (r t : List UInt8) (g : Nat) (w0 w : World) (XS : List ByteArray)
  (hXS : argsT K l3 = some XS) (hn0 : 0 ≤ n) (hn1 : n + d + 1 ≤ 900) (hW : IsW w0.heap.size w g t n) (hB : Below w0.heap.size w0 w) (hL3 : l3.length = L3) (hL4 : l4.length = L4) (hL5 : l5.length = L5) (hC3 : Kd.C k38 w0 A3 l3.length l3) (hC4 : Kd.C k41 w0 A4 l4.length l4) (hC5 : Kd.C k41 w0 A5 l5.length l5) (hc3 : L3 ≤ c3) (hc4 : L4 ≤ c4) (hc5 : L5 ≤ c5) (hL3s : L3 ≤ 2) (hs : t.length + r.length ≤ 1000000000) (x : ByteArray) (xr : List ByteArray) (hxx : XS = x :: xr) (hr : r = lineB n [⟨#[118, 97, 114, 32]⟩, f1, ⟨#[32, 61, 32]⟩, x, ⟨#[59]⟩]) :
    Calls Try.prog 39 #[.pointer (some ⟨g, 0, none⟩), .agg #[.int .i64 1, .string f1, .int .i64 f2, .slice A3 L3 c3, .slice A4 L4 c4, .slice A5 L5 c5]] w (LPost w0.heap.size g (t ++ r) n w0 w) := by
  have hu41 := Try.underlying41
  have hu38 := Try.underlying38
  have HW := Aside0.mk hW
  have HB := Aside0.mk hB
  have HB2 := Aside0.mk (Below.refl w.heap.size w)
  have SC := Aside0.mk SC0
  have HXS := Aside0.mk hXS
  have HL3 := Aside0.mk hL3
  have HL4 := Aside0.mk hL4
  have HL5 := Aside0.mk hL5
  have HC3 := Aside0.mk hC3
  have HC4 := Aside0.mk hC4
  have HC5 := Aside0.mk hC5
  have HN1 := Aside0.mk hn1
  have HS := Aside0.mk hs
  have HC4L := Aside0.mk hc4
  have HC5L := Aside0.mk hc5
  have hn9 : n ≤ 900 := by omega
  have hL3i : (L3 : Int) ≤ 2 := by omega
  clear SC0 hXS hW hB hL3 hL4 hL5 hC3 hC4 hC5 hs hn1 hc4 hc5
  have HXX := Lib.hid hxx
  subst hr
  clear hxx
  go_enter Try.func39, Try.ntmps39
  go_wp2_with (first | ((with_reducible refine gate_dst (N := 3) rfl ?_); refine box_event ?hg (N := 3) ?hd (cs := #[.int .i64 1, .string f1, .int .i64 f2, .slice A3 L3 c3, .slice A4 L4 c4, .slice A5 L5 c5]) (t := 41) ?hr ?_; (case hd => rfl); (case hg => rfl); (case hr => first | (go_simp; done) | (go_simp; rfl)); intro gb hg w2 hbox hb; have n0_ := Aside0.mk (below_step HB2.out hb); have n3_ := Aside0.mk hbox; have n4_ := Aside0.mk (show w.heap.size ≤ gb by rw [hg]; exact Nat.le_refl _); clear HB2 hb hbox hg; have HB2 := n0_; have BK := n3_; have GE2 := n4_; clear n0_ n3_ n4_; obtain ⟨hcz0, hcz1, hcz2, hcz3, hcz4, hcz5⟩ := blkc6 BK.out; obtain ⟨hfz0, hfz1, hfz2, hfz3, hfz4, hfz5⟩ := blkf6 BK.out))
  go_loopw [4, 10] (fun v4 v10 wr => ARel K l3 L3 XS gb #[.int .i64 1, .string f1, .int .i64 f2, .slice A3 L3 c3, .slice A4 L4 c4, .slice A5 L5 c5] w v4 v10 wr) (fun _ v10 _ => L3 - (intOf v10).toNat)
  case atStart => exact ⟨0, [], XS, rfl, Int.le_refl _, by omega, by simp, HXS, ⟨rfl⟩, ⟨World.ownsRow_nil _ _ _ _⟩, BK, HB2⟩
  case round =>
    unfold ARel at hrel
    clear HXS HB2 BK hcz0 hfz0 hcz1 hfz1 hcz2 hfz2 hcz3 hfz3 hcz4 hfz4 hcz5 hfz5
    obtain ⟨i, xs, ys, rfl, hi0, hi1, hxl, HXS, HX, HO, BK, HB2⟩ := hrel
    have HXL := Aside0.mk hxl
    clear hxl
    by_cases hlt : i < (L3 : Int)
    · have hlt' : i < (l3.length : Int) := by rw [HL3.out]; exact hlt
      have hb0 : decide (i < (L3 : Int)) = true := decide_eq_true hlt
      have hdr := drop_rd38 l3 i hi0 hlt'
      have HR0 := HXS.out
      rw [hdr] at HR0
      unfold argsT at HR0
      obtain ⟨xq, hxq, HR0⟩ := Option.bind_eq_some_iff.mp HR0
      obtain ⟨yq, hyq, HR0⟩ := Option.bind_eq_some_iff.mp HR0
      have HR1 := Aside0.mk (show show_Expr.f K (rd_T38 l3 i).f0 (rd_T38 l3 i).f1 (rd_T38 l3 i).f2 (rd_T38 l3 i).f3 (rd_T38 l3 i).f4 = some xq from hxq)
      have HR2 := Aside0.mk hyq
      have HE := Aside0.mk (Option.some.inj HR0)
      have HBB := Aside0.mk (show Below w0.heap.size w0 wr from (HB.out).trans (HB2.out.mono (below_size HB.out)))
      obtain ⟨ad, A9, c9, eA, hx0, hx1, hx2, hx3, hx4, hl4, hi4⟩ := at_T38 HC3.out i hi0 hlt'
      subst eA
      replace hx0 := (HBB.out.cell (World.block_lt_of_cell? w0 _ hx0)).trans hx0
      replace hx1 := (HBB.out.cell (World.block_lt_of_cell? w0 _ hx1)).trans hx1
      replace hx2 := (HBB.out.cell (World.block_lt_of_cell? w0 _ hx2)).trans hx2
      replace hx3 := (HBB.out.cell (World.block_lt_of_cell? w0 _ hx3)).trans hx3
      replace hx4 := (HBB.out.cell (World.block_lt_of_cell? w0 _ hx4)).trans hx4
      have HC9 := Aside0.mk (Kd.C_below hi4 HBB.out)
      have HL9 := Aside0.mk hl4
      have p1 := eq_true hi0
      have p2 := eq_true hlt
      clear hdr hxq hyq HR0 hi4 hl4 HXS HBB
      go_wp2_with fail
      (with_reducible refine (show_Expr.calls K _ _ _ _ _ _ (rd_T38 l3 i).f4 xq _ (by (with_reducible repeat (first | refine Kd.C_alloc ?_ _ | refine Kd.C_drewN ?_ _ | refine Kd.C_drew ?_)); exact HC9.out) HL9.out HR1.out).mono ?_)
      rintro e w5 ⟨rfl, hb5⟩
      have n0_ := Aside0.mk (World.ownsRow.kept (show World.ownsRow _ w.heap.size 9 1 u4 xs.length (encs Value.string xs) from by (repeat (first | exact HO.out | apply World.ownsRow.alloc))) (grown_of_below hb5 none) (by cases u4.ownBlock with | none => exact .inl rfl | some q => exact .inr (by simp)))
      have n1_ := Aside0.mk (below_step (by repeat (first | (with_reducible first | exact HB2.out | apply below_alloc | apply pw_below_drewN | apply below_drew1) | exact HB2.out)) hb5)
      have n2_ := Aside0.mk (blk_below (g := gb) (o := .cells #[.int .i64 1, .string f1, .int .i64 f2, .slice _ L3 c3, .slice A4 L4 c4, .slice A5 L5 c5] 41 (0, 0)) (by (with_reducible repeat (first | refine blk_drewN ?_ _ | refine blk_drew ?_ | refine blk_alloc ?_ _)); exact BK.out) hb5)
      clear HO HB2 BK hb5 hx0 hx1 hx2 hx3 hx4
      have HO := n0_
      have HB2 := n1_
      have BK := n2_
      clear n0_ n1_ n2_
      go_wp2_with (first | ((with_reducible refine gate_builtin (b := .append) (xs := #[.tmp 14, .tmp 17]) rfl ?_); at_builtin; refine print_append_of (w0 := w) Value.string w.heap.size rfl (.tmp 14) (.tmp 17) 67 9 (.string ⟨#[]⟩) 16 rfl Try.underlying67 infoS rfl (by decide) u4 xs xq rfl rfl rfl HO.out HB2.out ?aS ?aL ?_; (case aS => exact below_size HB2.out); (case aL => have := HXL.out; omega); intro v1 w1 ho1 hb1 hg1 hat1; have n0_ := Aside0.mk ho1; have n1_ := Aside0.mk hb1; have n2_ := Aside0.mk (blk_grown BK.out hg1 (by intro e; obtain ⟨cs_, hc_⟩ := own_row HO.out _ e.symm; exact (blk_ne BK.out hc_ (by decide)) rfl)); clear HO HB2 BK ho1 hb1 hg1 hat1; have HO := n0_; have HB2 := n1_; have BK := n2_; clear n0_ n1_ n2_))
      go_roundw
      case rel => exact ⟨i + 1, xs ++ [xq], yq, by go_num, by omega, by omega, by have := HXL.out; simp only [List.length_append, List.length_singleton]; omega, HR2, ⟨by rw [List.append_assoc, List.singleton_append, HE.out]; exact HX.out⟩, HO, BK, HB2⟩
      case measure => simp [intOf]; omega
    · have hb0 : decide (i < (L3 : Int)) = false := decide_eq_false hlt
      clear hi0 hi1
      have he : some ([] : List ByteArray) = some ys := by
        have := HXS.out
        rw [List.drop_eq_nil_of_le (by have := HL3.out; omega)] at this
        exact this
      have he1 := Option.some.inj he
      subst he1
      have hx := HX.out
      rw [List.append_nil] at hx
      subst hx
      have n0_ := Aside0.mk (IsW.below HW.out HB2.out)
      have n1_ := Aside0.mk (show Below w0.heap.size w0 wr from (HB.out).trans (HB2.out.mono (below_size HB.out)))
      have HK := Aside0.mk (KeepT.of_below HB2.out g)
      have GE := Aside0.mk (IsW.ge HW.out)
      clear he HX HXS HW HB HB2 hlt
      have HW := n0_
      have HB := n1_
      clear n0_ n1_
      obtain ⟨hcz0, hcz1, hcz2, hcz3, hcz4, hcz5⟩ := blkc6 BK.out
      obtain ⟨hfz0, hfz1, hfz2, hfz3, hfz4, hfz5⟩ := blkf6 BK.out
      have hO := HO.out
      rw [HXX.out] at hO
      clear HO
      obtain ⟨M, hM⟩ : ∃ M, M = (x :: xr).length := ⟨_, rfl⟩
      rw [← hM] at hO
      obtain ⟨ga, cap, cur, eu, hn9_, hnx, hbg, hcur, hread⟩ := own_get hO
      subst eu
      have hr0 : wr.cell? ⟨ga, 0, none⟩ = some (.string x) := hread 0 (by omega)
      have hnpos : 0 < M := by omega
      have hnposi : (0 : Int) < (M : Int) := by omega
      have HCUR := Aside0.mk hcur
      clear hread hnx hM hO hcur
      have SZ := Aside0.mk (size_line HS.out)
      go_wp2
      go_region_held3 (fun w' => w'.cell? ⟨gb, 1, none⟩ = some (.string f1) ∧ w'.cell? ⟨ga, 0, none⟩ = some (.string x)) (go_keep) ((go_at_call 59; (with_reducible refine (line_calls t n [⟨#[118, 97, 114, 32]⟩, f1, ⟨#[32, 61, 32]⟩, x, ⟨#[59]⟩] _ 5 g w0 _ hn0 (by omega) rfl (by omega) (by repeat (first | (with_reducible first | exact HW.out | apply IsW.alloc | apply IsW.drewN | apply IsW.drew) | exact HW.out)) (by repeat (first | (with_reducible first | exact HB.out | apply below_alloc | apply pw_below_drewN | apply below_drew1 | refine below_set ?_ GE.out) | exact HB.out)) (by first | exact blk_lit5 _ _ _ _ _ _ | exact blk_drew (blk_lit5 _ _ _ _ _ _)) SZ.out).mono ?_); rintro e w6 ⟨rfl, hw6, hb6, hk6⟩; have b1_ := KeepT.blk (cs := #[.int .i64 1, .string f1, .int .i64 f2, .slice A3 L3 c3, .slice A4 L4 c4, .slice A5 L5 c5]) (t := 41) hk6 (by (with_reducible repeat (first | refine blk_drewN ?_ _ | refine blk_drew ?_ | refine blk_alloc ?_ _)); exact BK.out) (IsW.ne_blk HW.out BK.out (by decide)) (by decide); have kb1_ : w6.cell? ⟨gb, 1, none⟩ = some (.string f1) := (blk_cell b1_ 1).trans rfl; have b2_ := KeepT.blk (cs := cur) (t := 9) hk6 (by (with_reducible repeat (first | refine blk_drewN ?_ _ | refine blk_drew ?_ | refine blk_alloc ?_ _)); exact HCUR.out) (IsW.ne_blk HW.out HCUR.out (by decide)) (by decide); have kc0_ : w6.cell? ⟨ga, 0, none⟩ = some (.string x) := (blk_cell b2_ 0).trans ((blk_cell HCUR.out 0).symm.trans hr0); have n0_ := Aside0.mk hw6; have n1_ := Aside0.mk hb6; have n3_ := Aside0.mk (KeepT.trans (show KeepT w _ g from by repeat (first | (with_reducible first | exact HK.out | apply KeepT.set | apply KeepT.drewN | apply KeepT.drew | apply KeepT.alloc) | exact HK.out)) hk6); clear HW HB HK hw6 hb6 hk6; have HW := n0_; have HB := n1_; have HK := n3_; clear n0_ n1_ n3_))
      go_wp2
      go_end0
      exact ⟨rfl, HW.out, HB.out, HK.out⟩
set_option maxHeartbeats 8000000 in
set_option maxRecDepth 100000 in
theorem stmt_k2 (K d : Nat) (f : Int → S41 → Option (List UInt8)) (SC0 : StC d f) (k : Int) (f1 : ByteArray) (f2 : Int) (l3 : List S38) (l4 l5 : List S41) (L3 L4 L5 : Nat) (A3 A4 A5 : Option Addr) (c3 c4 c5 : Nat) (n : Int) (r t : List UInt8) (g : Nat) (w0 w : World) (XS : List ByteArray)
  (hXS : argsT K l3 = some XS) (hn0 : 0 ≤ n) (hn1 : n + d + 1 ≤ 900) (hW : IsW w0.heap.size w g t n) (hB : Below w0.heap.size w0 w) (hL3 : l3.length = L3) (hL4 : l4.length = L4) (hL5 : l5.length = L5) (hC3 : Kd.C k38 w0 A3 l3.length l3) (hC4 : Kd.C k41 w0 A4 l4.length l4) (hC5 : Kd.C k41 w0 A5 l5.length l5) (hc3 : L3 ≤ c3) (hc4 : L4 ≤ c4) (hc5 : L5 ≤ c5) (hL3s : L3 ≤ 2) (hs : t.length + r.length ≤ 1000000000) (x : ByteArray) (xr : List ByteArray) (hxx : XS = x :: xr) (hr : r = lineB n [f1, ⟨#[32, 61, 32]⟩, x, ⟨#[59]⟩]) :
    Calls Try.prog 39 #[.pointer (some ⟨g, 0, none⟩), .agg #[.int .i64 2, .string f1, .int .i64 f2, .slice A3 L3 c3, .slice A4 L4 c4, .slice A5 L5 c5]] w (LPost w0.heap.size g (t ++ r) n w0 w) := by
  have hu41 := Try.underlying41
  have hu38 := Try.underlying38
  have HW := Aside0.mk hW
  have HB := Aside0.mk hB
  have HB2 := Aside0.mk (Below.refl w.heap.size w)
  have SC := Aside0.mk SC0
  have HXS := Aside0.mk hXS
  have HL3 := Aside0.mk hL3
  have HL4 := Aside0.mk hL4
  have HL5 := Aside0.mk hL5
  have HC3 := Aside0.mk hC3
  have HC4 := Aside0.mk hC4
  have HC5 := Aside0.mk hC5
  have HN1 := Aside0.mk hn1
  have HS := Aside0.mk hs
  have HC4L := Aside0.mk hc4
  have HC5L := Aside0.mk hc5
  have hn9 : n ≤ 900 := by omega
  have hL3i : (L3 : Int) ≤ 2 := by omega
  clear SC0 hXS hW hB hL3 hL4 hL5 hC3 hC4 hC5 hs hn1 hc4 hc5
  have HXX := Lib.hid hxx
  subst hr
  clear hxx
  go_enter Try.func39, Try.ntmps39
  go_wp2_with (first | ((with_reducible refine gate_dst (N := 3) rfl ?_); refine box_event ?hg (N := 3) ?hd (cs := #[.int .i64 2, .string f1, .int .i64 f2, .slice A3 L3 c3, .slice A4 L4 c4, .slice A5 L5 c5]) (t := 41) ?hr ?_; (case hd => rfl); (case hg => rfl); (case hr => first | (go_simp; done) | (go_simp; rfl)); intro gb hg w2 hbox hb; have n0_ := Aside0.mk (below_step HB2.out hb); have n3_ := Aside0.mk hbox; have n4_ := Aside0.mk (show w.heap.size ≤ gb by rw [hg]; exact Nat.le_refl _); clear HB2 hb hbox hg; have HB2 := n0_; have BK := n3_; have GE2 := n4_; clear n0_ n3_ n4_; obtain ⟨hcz0, hcz1, hcz2, hcz3, hcz4, hcz5⟩ := blkc6 BK.out; obtain ⟨hfz0, hfz1, hfz2, hfz3, hfz4, hfz5⟩ := blkf6 BK.out))
  go_loopw [4, 10] (fun v4 v10 wr => ARel K l3 L3 XS gb #[.int .i64 2, .string f1, .int .i64 f2, .slice A3 L3 c3, .slice A4 L4 c4, .slice A5 L5 c5] w v4 v10 wr) (fun _ v10 _ => L3 - (intOf v10).toNat)
  case atStart => exact ⟨0, [], XS, rfl, Int.le_refl _, by omega, by simp, HXS, ⟨rfl⟩, ⟨World.ownsRow_nil _ _ _ _⟩, BK, HB2⟩
  case round =>
    unfold ARel at hrel
    clear HXS HB2 BK hcz0 hfz0 hcz1 hfz1 hcz2 hfz2 hcz3 hfz3 hcz4 hfz4 hcz5 hfz5
    obtain ⟨i, xs, ys, rfl, hi0, hi1, hxl, HXS, HX, HO, BK, HB2⟩ := hrel
    have HXL := Aside0.mk hxl
    clear hxl
    by_cases hlt : i < (L3 : Int)
    · have hlt' : i < (l3.length : Int) := by rw [HL3.out]; exact hlt
      have hb0 : decide (i < (L3 : Int)) = true := decide_eq_true hlt
      have hdr := drop_rd38 l3 i hi0 hlt'
      have HR0 := HXS.out
      rw [hdr] at HR0
      unfold argsT at HR0
      obtain ⟨xq, hxq, HR0⟩ := Option.bind_eq_some_iff.mp HR0
      obtain ⟨yq, hyq, HR0⟩ := Option.bind_eq_some_iff.mp HR0
      have HR1 := Aside0.mk (show show_Expr.f K (rd_T38 l3 i).f0 (rd_T38 l3 i).f1 (rd_T38 l3 i).f2 (rd_T38 l3 i).f3 (rd_T38 l3 i).f4 = some xq from hxq)
      have HR2 := Aside0.mk hyq
      have HE := Aside0.mk (Option.some.inj HR0)
      have HBB := Aside0.mk (show Below w0.heap.size w0 wr from (HB.out).trans (HB2.out.mono (below_size HB.out)))
      obtain ⟨ad, A9, c9, eA, hx0, hx1, hx2, hx3, hx4, hl4, hi4⟩ := at_T38 HC3.out i hi0 hlt'
      subst eA
      replace hx0 := (HBB.out.cell (World.block_lt_of_cell? w0 _ hx0)).trans hx0
      replace hx1 := (HBB.out.cell (World.block_lt_of_cell? w0 _ hx1)).trans hx1
      replace hx2 := (HBB.out.cell (World.block_lt_of_cell? w0 _ hx2)).trans hx2
      replace hx3 := (HBB.out.cell (World.block_lt_of_cell? w0 _ hx3)).trans hx3
      replace hx4 := (HBB.out.cell (World.block_lt_of_cell? w0 _ hx4)).trans hx4
      have HC9 := Aside0.mk (Kd.C_below hi4 HBB.out)
      have HL9 := Aside0.mk hl4
      have p1 := eq_true hi0
      have p2 := eq_true hlt
      clear hdr hxq hyq HR0 hi4 hl4 HXS HBB
      go_wp2_with fail
      (with_reducible refine (show_Expr.calls K _ _ _ _ _ _ (rd_T38 l3 i).f4 xq _ (by (with_reducible repeat (first | refine Kd.C_alloc ?_ _ | refine Kd.C_drewN ?_ _ | refine Kd.C_drew ?_)); exact HC9.out) HL9.out HR1.out).mono ?_)
      rintro e w5 ⟨rfl, hb5⟩
      have n0_ := Aside0.mk (World.ownsRow.kept (show World.ownsRow _ w.heap.size 9 1 u4 xs.length (encs Value.string xs) from by (repeat (first | exact HO.out | apply World.ownsRow.alloc))) (grown_of_below hb5 none) (by cases u4.ownBlock with | none => exact .inl rfl | some q => exact .inr (by simp)))
      have n1_ := Aside0.mk (below_step (by repeat (first | (with_reducible first | exact HB2.out | apply below_alloc | apply pw_below_drewN | apply below_drew1) | exact HB2.out)) hb5)
      have n2_ := Aside0.mk (blk_below (g := gb) (o := .cells #[.int .i64 2, .string f1, .int .i64 f2, .slice _ L3 c3, .slice A4 L4 c4, .slice A5 L5 c5] 41 (0, 0)) (by (with_reducible repeat (first | refine blk_drewN ?_ _ | refine blk_drew ?_ | refine blk_alloc ?_ _)); exact BK.out) hb5)
      clear HO HB2 BK hb5 hx0 hx1 hx2 hx3 hx4
      have HO := n0_
      have HB2 := n1_
      have BK := n2_
      clear n0_ n1_ n2_
      go_wp2_with (first | ((with_reducible refine gate_builtin (b := .append) (xs := #[.tmp 14, .tmp 17]) rfl ?_); at_builtin; refine print_append_of (w0 := w) Value.string w.heap.size rfl (.tmp 14) (.tmp 17) 67 9 (.string ⟨#[]⟩) 16 rfl Try.underlying67 infoS rfl (by decide) u4 xs xq rfl rfl rfl HO.out HB2.out ?aS ?aL ?_; (case aS => exact below_size HB2.out); (case aL => have := HXL.out; omega); intro v1 w1 ho1 hb1 hg1 hat1; have n0_ := Aside0.mk ho1; have n1_ := Aside0.mk hb1; have n2_ := Aside0.mk (blk_grown BK.out hg1 (by intro e; obtain ⟨cs_, hc_⟩ := own_row HO.out _ e.symm; exact (blk_ne BK.out hc_ (by decide)) rfl)); clear HO HB2 BK ho1 hb1 hg1 hat1; have HO := n0_; have HB2 := n1_; have BK := n2_; clear n0_ n1_ n2_))
      go_roundw
      case rel => exact ⟨i + 1, xs ++ [xq], yq, by go_num, by omega, by omega, by have := HXL.out; simp only [List.length_append, List.length_singleton]; omega, HR2, ⟨by rw [List.append_assoc, List.singleton_append, HE.out]; exact HX.out⟩, HO, BK, HB2⟩
      case measure => simp [intOf]; omega
    · have hb0 : decide (i < (L3 : Int)) = false := decide_eq_false hlt
      clear hi0 hi1
      have he : some ([] : List ByteArray) = some ys := by
        have := HXS.out
        rw [List.drop_eq_nil_of_le (by have := HL3.out; omega)] at this
        exact this
      have he1 := Option.some.inj he
      subst he1
      have hx := HX.out
      rw [List.append_nil] at hx
      subst hx
      have n0_ := Aside0.mk (IsW.below HW.out HB2.out)
      have n1_ := Aside0.mk (show Below w0.heap.size w0 wr from (HB.out).trans (HB2.out.mono (below_size HB.out)))
      have HK := Aside0.mk (KeepT.of_below HB2.out g)
      have GE := Aside0.mk (IsW.ge HW.out)
      clear he HX HXS HW HB HB2 hlt
      have HW := n0_
      have HB := n1_
      clear n0_ n1_
      obtain ⟨hcz0, hcz1, hcz2, hcz3, hcz4, hcz5⟩ := blkc6 BK.out
      obtain ⟨hfz0, hfz1, hfz2, hfz3, hfz4, hfz5⟩ := blkf6 BK.out
      have hO := HO.out
      rw [HXX.out] at hO
      clear HO
      obtain ⟨M, hM⟩ : ∃ M, M = (x :: xr).length := ⟨_, rfl⟩
      rw [← hM] at hO
      obtain ⟨ga, cap, cur, eu, hn9_, hnx, hbg, hcur, hread⟩ := own_get hO
      subst eu
      have hr0 : wr.cell? ⟨ga, 0, none⟩ = some (.string x) := hread 0 (by omega)
      have hnpos : 0 < M := by omega
      have hnposi : (0 : Int) < (M : Int) := by omega
      have HCUR := Aside0.mk hcur
      clear hread hnx hM hO hcur
      have SZ := Aside0.mk (size_line HS.out)
      go_wp2
      go_region_held3 (fun w' => w'.cell? ⟨gb, 1, none⟩ = some (.string f1) ∧ w'.cell? ⟨ga, 0, none⟩ = some (.string x)) (go_keep) ((go_at_call 59; (with_reducible refine (line_calls t n [f1, ⟨#[32, 61, 32]⟩, x, ⟨#[59]⟩] _ 4 g w0 _ hn0 (by omega) rfl (by omega) (by repeat (first | (with_reducible first | exact HW.out | apply IsW.alloc | apply IsW.drewN | apply IsW.drew) | exact HW.out)) (by repeat (first | (with_reducible first | exact HB.out | apply below_alloc | apply pw_below_drewN | apply below_drew1 | refine below_set ?_ GE.out) | exact HB.out)) (by first | exact blk_lit4 _ _ _ _ _ | exact blk_drew (blk_lit4 _ _ _ _ _)) SZ.out).mono ?_); rintro e w6 ⟨rfl, hw6, hb6, hk6⟩; have b1_ := KeepT.blk (cs := #[.int .i64 2, .string f1, .int .i64 f2, .slice A3 L3 c3, .slice A4 L4 c4, .slice A5 L5 c5]) (t := 41) hk6 (by (with_reducible repeat (first | refine blk_drewN ?_ _ | refine blk_drew ?_ | refine blk_alloc ?_ _)); exact BK.out) (IsW.ne_blk HW.out BK.out (by decide)) (by decide); have kb1_ : w6.cell? ⟨gb, 1, none⟩ = some (.string f1) := (blk_cell b1_ 1).trans rfl; have b2_ := KeepT.blk (cs := cur) (t := 9) hk6 (by (with_reducible repeat (first | refine blk_drewN ?_ _ | refine blk_drew ?_ | refine blk_alloc ?_ _)); exact HCUR.out) (IsW.ne_blk HW.out HCUR.out (by decide)) (by decide); have kc0_ : w6.cell? ⟨ga, 0, none⟩ = some (.string x) := (blk_cell b2_ 0).trans ((blk_cell HCUR.out 0).symm.trans hr0); have n0_ := Aside0.mk hw6; have n1_ := Aside0.mk hb6; have n3_ := Aside0.mk (KeepT.trans (show KeepT w _ g from by repeat (first | (with_reducible first | exact HK.out | apply KeepT.set | apply KeepT.drewN | apply KeepT.drew | apply KeepT.alloc) | exact HK.out)) hk6); clear HW HB HK hw6 hb6 hk6; have HW := n0_; have HB := n1_; have HK := n3_; clear n0_ n1_ n3_))
      go_wp2
      go_end0
      exact ⟨rfl, HW.out, HB.out, HK.out⟩
set_option maxHeartbeats 8000000 in
set_option maxRecDepth 100000 in
theorem stmt_k3 (K d : Nat) (f : Int → S41 → Option (List UInt8)) (SC0 : StC d f) (k : Int) (f1 : ByteArray) (f2 : Int) (l3 : List S38) (l4 l5 : List S41) (L3 L4 L5 : Nat) (A3 A4 A5 : Option Addr) (c3 c4 c5 : Nat) (n : Int) (r t : List UInt8) (g : Nat) (w0 w : World) (XS : List ByteArray)
  (hXS : argsT K l3 = some XS) (hn0 : 0 ≤ n) (hn1 : n + d + 1 ≤ 900) (hW : IsW w0.heap.size w g t n) (hB : Below w0.heap.size w0 w) (hL3 : l3.length = L3) (hL4 : l4.length = L4) (hL5 : l5.length = L5) (hC3 : Kd.C k38 w0 A3 l3.length l3) (hC4 : Kd.C k41 w0 A4 l4.length l4) (hC5 : Kd.C k41 w0 A5 l5.length l5) (hc3 : L3 ≤ c3) (hc4 : L4 ≤ c4) (hc5 : L5 ≤ c5) (hL3s : L3 ≤ 2) (hs : t.length + r.length ≤ 1000000000) (x y : ByteArray) (xr : List ByteArray) (hxx : XS = x :: y :: xr) (hr : r = lineB n [⟨#[109, 91]⟩, x, ⟨#[93, 32, 61, 32]⟩, y, ⟨#[59]⟩]) :
    Calls Try.prog 39 #[.pointer (some ⟨g, 0, none⟩), .agg #[.int .i64 3, .string f1, .int .i64 f2, .slice A3 L3 c3, .slice A4 L4 c4, .slice A5 L5 c5]] w (LPost w0.heap.size g (t ++ r) n w0 w) := by
  have hu41 := Try.underlying41
  have hu38 := Try.underlying38
  have HW := Aside0.mk hW
  have HB := Aside0.mk hB
  have HB2 := Aside0.mk (Below.refl w.heap.size w)
  have SC := Aside0.mk SC0
  have HXS := Aside0.mk hXS
  have HL3 := Aside0.mk hL3
  have HL4 := Aside0.mk hL4
  have HL5 := Aside0.mk hL5
  have HC3 := Aside0.mk hC3
  have HC4 := Aside0.mk hC4
  have HC5 := Aside0.mk hC5
  have HN1 := Aside0.mk hn1
  have HS := Aside0.mk hs
  have HC4L := Aside0.mk hc4
  have HC5L := Aside0.mk hc5
  have hn9 : n ≤ 900 := by omega
  have hL3i : (L3 : Int) ≤ 2 := by omega
  clear SC0 hXS hW hB hL3 hL4 hL5 hC3 hC4 hC5 hs hn1 hc4 hc5
  have HXX := Lib.hid hxx
  subst hr
  clear hxx
  go_enter Try.func39, Try.ntmps39
  go_wp2_with (first | ((with_reducible refine gate_dst (N := 3) rfl ?_); refine box_event ?hg (N := 3) ?hd (cs := #[.int .i64 3, .string f1, .int .i64 f2, .slice A3 L3 c3, .slice A4 L4 c4, .slice A5 L5 c5]) (t := 41) ?hr ?_; (case hd => rfl); (case hg => rfl); (case hr => first | (go_simp; done) | (go_simp; rfl)); intro gb hg w2 hbox hb; have n0_ := Aside0.mk (below_step HB2.out hb); have n3_ := Aside0.mk hbox; have n4_ := Aside0.mk (show w.heap.size ≤ gb by rw [hg]; exact Nat.le_refl _); clear HB2 hb hbox hg; have HB2 := n0_; have BK := n3_; have GE2 := n4_; clear n0_ n3_ n4_; obtain ⟨hcz0, hcz1, hcz2, hcz3, hcz4, hcz5⟩ := blkc6 BK.out; obtain ⟨hfz0, hfz1, hfz2, hfz3, hfz4, hfz5⟩ := blkf6 BK.out))
  go_loopw [4, 10] (fun v4 v10 wr => ARel K l3 L3 XS gb #[.int .i64 3, .string f1, .int .i64 f2, .slice A3 L3 c3, .slice A4 L4 c4, .slice A5 L5 c5] w v4 v10 wr) (fun _ v10 _ => L3 - (intOf v10).toNat)
  case atStart => exact ⟨0, [], XS, rfl, Int.le_refl _, by omega, by simp, HXS, ⟨rfl⟩, ⟨World.ownsRow_nil _ _ _ _⟩, BK, HB2⟩
  case round =>
    unfold ARel at hrel
    clear HXS HB2 BK hcz0 hfz0 hcz1 hfz1 hcz2 hfz2 hcz3 hfz3 hcz4 hfz4 hcz5 hfz5
    obtain ⟨i, xs, ys, rfl, hi0, hi1, hxl, HXS, HX, HO, BK, HB2⟩ := hrel
    have HXL := Aside0.mk hxl
    clear hxl
    by_cases hlt : i < (L3 : Int)
    · have hlt' : i < (l3.length : Int) := by rw [HL3.out]; exact hlt
      have hb0 : decide (i < (L3 : Int)) = true := decide_eq_true hlt
      have hdr := drop_rd38 l3 i hi0 hlt'
      have HR0 := HXS.out
      rw [hdr] at HR0
      unfold argsT at HR0
      obtain ⟨xq, hxq, HR0⟩ := Option.bind_eq_some_iff.mp HR0
      obtain ⟨yq, hyq, HR0⟩ := Option.bind_eq_some_iff.mp HR0
      have HR1 := Aside0.mk (show show_Expr.f K (rd_T38 l3 i).f0 (rd_T38 l3 i).f1 (rd_T38 l3 i).f2 (rd_T38 l3 i).f3 (rd_T38 l3 i).f4 = some xq from hxq)
      have HR2 := Aside0.mk hyq
      have HE := Aside0.mk (Option.some.inj HR0)
      have HBB := Aside0.mk (show Below w0.heap.size w0 wr from (HB.out).trans (HB2.out.mono (below_size HB.out)))
      obtain ⟨ad, A9, c9, eA, hx0, hx1, hx2, hx3, hx4, hl4, hi4⟩ := at_T38 HC3.out i hi0 hlt'
      subst eA
      replace hx0 := (HBB.out.cell (World.block_lt_of_cell? w0 _ hx0)).trans hx0
      replace hx1 := (HBB.out.cell (World.block_lt_of_cell? w0 _ hx1)).trans hx1
      replace hx2 := (HBB.out.cell (World.block_lt_of_cell? w0 _ hx2)).trans hx2
      replace hx3 := (HBB.out.cell (World.block_lt_of_cell? w0 _ hx3)).trans hx3
      replace hx4 := (HBB.out.cell (World.block_lt_of_cell? w0 _ hx4)).trans hx4
      have HC9 := Aside0.mk (Kd.C_below hi4 HBB.out)
      have HL9 := Aside0.mk hl4
      have p1 := eq_true hi0
      have p2 := eq_true hlt
      clear hdr hxq hyq HR0 hi4 hl4 HXS HBB
      go_wp2_with fail
      (with_reducible refine (show_Expr.calls K _ _ _ _ _ _ (rd_T38 l3 i).f4 xq _ (by (with_reducible repeat (first | refine Kd.C_alloc ?_ _ | refine Kd.C_drewN ?_ _ | refine Kd.C_drew ?_)); exact HC9.out) HL9.out HR1.out).mono ?_)
      rintro e w5 ⟨rfl, hb5⟩
      have n0_ := Aside0.mk (World.ownsRow.kept (show World.ownsRow _ w.heap.size 9 1 u4 xs.length (encs Value.string xs) from by (repeat (first | exact HO.out | apply World.ownsRow.alloc))) (grown_of_below hb5 none) (by cases u4.ownBlock with | none => exact .inl rfl | some q => exact .inr (by simp)))
      have n1_ := Aside0.mk (below_step (by repeat (first | (with_reducible first | exact HB2.out | apply below_alloc | apply pw_below_drewN | apply below_drew1) | exact HB2.out)) hb5)
      have n2_ := Aside0.mk (blk_below (g := gb) (o := .cells #[.int .i64 3, .string f1, .int .i64 f2, .slice _ L3 c3, .slice A4 L4 c4, .slice A5 L5 c5] 41 (0, 0)) (by (with_reducible repeat (first | refine blk_drewN ?_ _ | refine blk_drew ?_ | refine blk_alloc ?_ _)); exact BK.out) hb5)
      clear HO HB2 BK hb5 hx0 hx1 hx2 hx3 hx4
      have HO := n0_
      have HB2 := n1_
      have BK := n2_
      clear n0_ n1_ n2_
      go_wp2_with (first | ((with_reducible refine gate_builtin (b := .append) (xs := #[.tmp 14, .tmp 17]) rfl ?_); at_builtin; refine print_append_of (w0 := w) Value.string w.heap.size rfl (.tmp 14) (.tmp 17) 67 9 (.string ⟨#[]⟩) 16 rfl Try.underlying67 infoS rfl (by decide) u4 xs xq rfl rfl rfl HO.out HB2.out ?aS ?aL ?_; (case aS => exact below_size HB2.out); (case aL => have := HXL.out; omega); intro v1 w1 ho1 hb1 hg1 hat1; have n0_ := Aside0.mk ho1; have n1_ := Aside0.mk hb1; have n2_ := Aside0.mk (blk_grown BK.out hg1 (by intro e; obtain ⟨cs_, hc_⟩ := own_row HO.out _ e.symm; exact (blk_ne BK.out hc_ (by decide)) rfl)); clear HO HB2 BK ho1 hb1 hg1 hat1; have HO := n0_; have HB2 := n1_; have BK := n2_; clear n0_ n1_ n2_))
      go_roundw
      case rel => exact ⟨i + 1, xs ++ [xq], yq, by go_num, by omega, by omega, by have := HXL.out; simp only [List.length_append, List.length_singleton]; omega, HR2, ⟨by rw [List.append_assoc, List.singleton_append, HE.out]; exact HX.out⟩, HO, BK, HB2⟩
      case measure => simp [intOf]; omega
    · have hb0 : decide (i < (L3 : Int)) = false := decide_eq_false hlt
      clear hi0 hi1
      have he : some ([] : List ByteArray) = some ys := by
        have := HXS.out
        rw [List.drop_eq_nil_of_le (by have := HL3.out; omega)] at this
        exact this
      have he1 := Option.some.inj he
      subst he1
      have hx := HX.out
      rw [List.append_nil] at hx
      subst hx
      have n0_ := Aside0.mk (IsW.below HW.out HB2.out)
      have n1_ := Aside0.mk (show Below w0.heap.size w0 wr from (HB.out).trans (HB2.out.mono (below_size HB.out)))
      have HK := Aside0.mk (KeepT.of_below HB2.out g)
      have GE := Aside0.mk (IsW.ge HW.out)
      clear he HX HXS HW HB HB2 hlt
      have HW := n0_
      have HB := n1_
      clear n0_ n1_
      obtain ⟨hcz0, hcz1, hcz2, hcz3, hcz4, hcz5⟩ := blkc6 BK.out
      obtain ⟨hfz0, hfz1, hfz2, hfz3, hfz4, hfz5⟩ := blkf6 BK.out
      have hO := HO.out
      rw [HXX.out] at hO
      clear HO
      obtain ⟨M, hM⟩ : ∃ M, M = (x :: y :: xr).length := ⟨_, rfl⟩
      rw [← hM] at hO
      obtain ⟨ga, cap, cur, eu, hn9_, hnx, hbg, hcur, hread⟩ := own_get hO
      subst eu
      have hr0 : wr.cell? ⟨ga, 0, none⟩ = some (.string x) := hread 0 (by omega)
      have hr1 : wr.cell? ⟨ga, 1, none⟩ = some (.string y) := hread 1 (by simp only [List.length_cons] at hnx; omega)
      have hnp1 : 1 < M := by simp only [List.length_cons] at hnx; omega
      have hnp1i : (1 : Int) < (M : Int) := by omega
      have hnpos : 0 < M := by omega
      have hnposi : (0 : Int) < (M : Int) := by omega
      have HCUR := Aside0.mk hcur
      clear hread hnx hM hO hcur
      have SZ := Aside0.mk (size_line HS.out)
      go_wp2
      go_region_held3 (fun w' => w'.cell? ⟨ga, 0, none⟩ = some (.string x) ∧ w'.cell? ⟨ga, 1, none⟩ = some (.string y)) (go_keep) ((go_at_call 59; (with_reducible refine (line_calls t n [⟨#[109, 91]⟩, x, ⟨#[93, 32, 61, 32]⟩, y, ⟨#[59]⟩] _ 5 g w0 _ hn0 (by omega) rfl (by omega) (by repeat (first | (with_reducible first | exact HW.out | apply IsW.alloc | apply IsW.drewN | apply IsW.drew) | exact HW.out)) (by repeat (first | (with_reducible first | exact HB.out | apply below_alloc | apply pw_below_drewN | apply below_drew1 | refine below_set ?_ GE.out) | exact HB.out)) (by first | exact blk_lit5 _ _ _ _ _ _ | exact blk_drew (blk_lit5 _ _ _ _ _ _)) SZ.out).mono ?_); rintro e w6 ⟨rfl, hw6, hb6, hk6⟩; have b2_ := KeepT.blk (cs := cur) (t := 9) hk6 (by (with_reducible repeat (first | refine blk_drewN ?_ _ | refine blk_drew ?_ | refine blk_alloc ?_ _)); exact HCUR.out) (IsW.ne_blk HW.out HCUR.out (by decide)) (by decide); have kc0_ : w6.cell? ⟨ga, 0, none⟩ = some (.string x) := (blk_cell b2_ 0).trans ((blk_cell HCUR.out 0).symm.trans hr0); have kc1_ : w6.cell? ⟨ga, 1, none⟩ = some (.string y) := (blk_cell b2_ 1).trans ((blk_cell HCUR.out 1).symm.trans hr1); have n0_ := Aside0.mk hw6; have n1_ := Aside0.mk hb6; have n3_ := Aside0.mk (KeepT.trans (show KeepT w _ g from by repeat (first | (with_reducible first | exact HK.out | apply KeepT.set | apply KeepT.drewN | apply KeepT.drew | apply KeepT.alloc) | exact HK.out)) hk6); clear HW HB HK hw6 hb6 hk6; have HW := n0_; have HB := n1_; have HK := n3_; clear n0_ n1_ n3_))
      go_wp2
      go_end0
      exact ⟨rfl, HW.out, HB.out, HK.out⟩
end Go.Proofs.Ytobkdmmnbnpemaa.K
