/- The counter: statements in a block; Right: walked by hand. -/
import Derived.Test.YtobkdmmnbnpemaaXTY3
import Derived.Lib.Hide
namespace Go.Proofs.Ytobkdmmnbnpemaa.K
open Go.RowKit Go.Proofs.YtobkdmmnbnpemaaW.PrintWords Go.Proofs.YtobkdmmnbnpemaaW.PrintLast Go.Proofs.YtobkdmmnbnpemaaW.PrintMore
attribute [local go_sem] max2_int min2_int max_two min_two max_three min_three max_four min_four
set_option linter.unusedVariables false
set_option linter.unusedSimpArgs false
theorem drop_rd41 (l : List S41) (i : Int) (h0 : 0 ≤ i) (h1 : i < (l.length : Int)) : l.drop i.toNat = rd_T41 l i :: l.drop (i + 1).toNat := by
  have hl : i.toNat < l.length := by omega
  rw [List.drop_eq_getElem_cons hl]
  unfold rd_T41
  rw [List.getD_eq_getElem?_getD, List.getElem?_eq_getElem hl]
  have : (i + 1).toNat = i.toNat + 1 := by omega
  rw [this]
  rfl
theorem eta41 (x : S41) : (⟨x.f0, x.f1, x.f2, x.f3, x.f4, x.f5⟩ : S41) = x := by cases x; rfl
set_option maxHeartbeats 4000000 in
set_option maxRecDepth 100000 in
theorem block_deep (L : Nat) (A : Option Addr) (c : Nat) (n : Int) (g : Nat) (w0 w : World) (hI : IsS95 w0 w g n) (hB : Below w0.heap.size w0 w) :
    Calls Try.prog 55 #[.pointer (some ⟨g, 0, none⟩), .slice A L c, .int .i64 13] w (CPost false n g w0 w) := by
  have HI := Aside0.mk hI
  have HB := Aside0.mk hB
  have HK := Aside0.mk (KeepBut.refl w g none)
  clear hI hB
  by_cases hL : 600 < L
  · have e1 : decide ((600 : Int) < (L : Int)) = true := decide_eq_true (by omega)
    have e2 : decide (600 < L) = true := decide_eq_true (by omega)
    go_enter Try.func55, Try.ntmps55
    go_wp2
    go_ret
    exact ⟨rfl, by repeat (first | (with_reducible first | exact HI.out | apply IsS95.alloc | apply IsS95.drewN | apply IsS95.drew) | exact HI.out), by repeat (first | (with_reducible first | exact HB.out | apply below_alloc | apply pw_below_drewN | apply below_drew1) | exact HB.out), by repeat (first | (with_reducible first | exact HK.out | apply keep_drewN | apply keep_drew | apply keep_alloc) | exact HK.out)⟩
  · have e1 : decide ((600 : Int) < (L : Int)) = false := decide_eq_false (by omega)
    have e2 : decide (600 < L) = false := decide_eq_false (by omega)
    go_enter Try.func55, Try.ntmps55
    go_wp2
    go_ret
    exact ⟨rfl, by repeat (first | (with_reducible first | exact HI.out | apply IsS95.alloc | apply IsS95.drewN | apply IsS95.drew) | exact HI.out), by repeat (first | (with_reducible first | exact HB.out | apply below_alloc | apply pw_below_drewN | apply below_drew1) | exact HB.out), by repeat (first | (with_reducible first | exact HK.out | apply keep_drewN | apply keep_drew | apply keep_alloc) | exact HK.out)⟩
set_option maxHeartbeats 4000000 in
set_option maxRecDepth 100000 in
theorem block_long (L : Nat) (A : Option Addr) (c : Nat) (n : Int) (g : Nat) (w0 w : World) (hI : IsS95 w0 w g n) (hB : Below w0.heap.size w0 w) (bl : Int) (hL : 600 < L) :
    Calls Try.prog 55 #[.pointer (some ⟨g, 0, none⟩), .slice A L c, .int .i64 bl] w (CPost false n g w0 w) := by
  have HI := Aside0.mk hI
  have HB := Aside0.mk hB
  have HK := Aside0.mk (KeepBut.refl w g none)
  clear hI hB
  have e1 : decide ((600 : Int) < (L : Int)) = true := decide_eq_true (by omega)
  have e2 : decide (600 < L) = true := decide_eq_true (by omega)
  go_enter Try.func55, Try.ntmps55
  go_wp2
  go_ret
  exact ⟨rfl, by repeat (first | (with_reducible first | exact HI.out | apply IsS95.alloc | apply IsS95.drewN | apply IsS95.drew) | exact HI.out), by repeat (first | (with_reducible first | exact HB.out | apply below_alloc | apply pw_below_drewN | apply below_drew1) | exact HB.out), by repeat (first | (with_reducible first | exact HK.out | apply keep_drewN | apply keep_drew | apply keep_alloc) | exact HK.out)⟩
def BRel (b : Nat) (l : List S41) (L : Nat) (r : Bool × Int) (g : Nat) (w0 w : World) (v : Value) (w' : World) : Prop :=
  ∃ (i m : Int), v = .int .i64 i ∧ 0 ≤ i ∧ i ≤ (L : Int) ∧ 0 ≤ m ∧ m ≤ 600 ∧ Aside0 (goE (oneS (cB b)) m (l.drop i.toNat) = r) ∧ Aside0 (IsS95 w0 w' g m) ∧ Aside0 (Below w0.heap.size w0 w') ∧ Aside0 (KeepBut w w' g none)
set_option maxHeartbeats 8000000 in
set_option maxRecDepth 100000 in
theorem block_step (b : Nat) (BC0 : BlockC b) (hb13 : b ≤ 12) (l : List S41) (L : Nat) (A : Option Addr) (c : Nat) (n : Int) (r : Bool) (m : Int) (g : Nat) (w0 w : World) (hL : l.length = L) (hC : Kd.C k41 w0 A l.length l) (hc : L ≤ c) (h0 : 0 ≤ n) (h1 : n ≤ 600) (hI : IsS95 w0 w g n) (hB : Below w0.heap.size w0 w) (hLs : L ≤ 600) (hr : goE (oneS (cB b)) n l = (r, m)) (bl : Int) (hbl0 : 0 ≤ bl) (hbl : bl + 1 = 13 - (b : Int)) :
    Calls Try.prog 55 #[.pointer (some ⟨g, 0, none⟩), .slice A L c, .int .i64 bl] w (CPost r m g w0 w) := by
  have hu41 := Try.underlying41
  have HI := Aside0.mk hI
  have HB := Aside0.mk hB
  have HK := Aside0.mk (KeepBut.refl w g none)
  have HL := Aside0.mk hL
  have HC := Aside0.mk hC
  have HCC := Aside0.mk hc
  have HR := Aside0.mk hr
  have BC := Aside0.mk BC0
  have HBL := Aside0.mk hbl
  have HB13 := Aside0.mk hb13
  have e1 : decide ((600 : Int) < (L : Int)) = false := decide_eq_false (by omega)
  have e2 : decide (600 < L) = false := decide_eq_false (by omega)
  have e3 : decide (12 < bl) = false := decide_eq_false (by omega)
  clear hI hB hL hC hc hr BC0 hbl hb13
  go_enter Try.func55, Try.ntmps55
  go_wp2
  go_loopw [18] (fun v wr => BRel b l L (r, m) g w0 w v wr) (fun v _ => L - (intOf v).toNat)
  case atStart => exact ⟨0, n, rfl, Int.le_refl _, by omega, h0, h1, HR, ⟨by repeat (first | (with_reducible first | exact HI.out | apply IsS95.alloc | apply IsS95.drewN | apply IsS95.drew) | exact HI.out)⟩, ⟨by repeat (first | (with_reducible first | exact HB.out | apply below_alloc | apply pw_below_drewN | apply below_drew1) | exact HB.out)⟩, ⟨by repeat (first | (with_reducible first | exact HK.out | apply keep_drewN | apply keep_drew | apply keep_alloc) | exact HK.out)⟩⟩
  case round =>
    unfold BRel at hrel
    clear HR HI HB HK
    obtain ⟨i, j, rfl, hi0, hi1, hj0, hj1, HR, HI, HB, HK⟩ := hrel
    by_cases hlt : i < (L : Int)
    · have hlt' : i < (l.length : Int) := by rw [HL.out]; exact hlt
      have hb0 : decide (i < (L : Int)) = true := decide_eq_true hlt
      have hdr := drop_rd41 l i hi0 hlt'
      have HR0 := HR.out
      rw [hdr] at HR0
      unfold goE at HR0
      obtain ⟨ad, A3, c3, A4, c4, A5, c5, eA, hx0, hx1, hx2, hx3, hx4, hx5, hl3, hi3, hl4, hi4, hl5, hi5⟩ := at_T41 HC.out i hi0 hlt'
      subst eA
      replace hx0 := (HB.out.cell (World.block_lt_of_cell? w0 _ hx0)).trans hx0
      replace hx1 := (HB.out.cell (World.block_lt_of_cell? w0 _ hx1)).trans hx1
      replace hx2 := (HB.out.cell (World.block_lt_of_cell? w0 _ hx2)).trans hx2
      replace hx3 := (HB.out.cell (World.block_lt_of_cell? w0 _ hx3)).trans hx3
      replace hx4 := (HB.out.cell (World.block_lt_of_cell? w0 _ hx4)).trans hx4
      replace hx5 := (HB.out.cell (World.block_lt_of_cell? w0 _ hx5)).trans hx5
      have HC3 := Aside0.mk hi3
      have HC4 := Aside0.mk hi4
      have HC5 := Aside0.mk hi5
      have HL4 := Aside0.mk hl4
      have HL5 := Aside0.mk hl5
      have p1 := eq_true hi0
      have p2 := eq_true hlt
      clear hdr hi3 hi4 hi5 hl3 hl4 hl5 HR
      by_cases q : j + 1 ≤ 600
      · have H1 := Aside0.mk (one_t j hj0 q)
        have hj2 : 0 ≤ j + 1 := by omega
        obtain ⟨bq, mq, hr1⟩ : ∃ bq mq, cS (cB b) (j + 1) (rd_T41 l i) = (bq, mq) := pair_of _
        have hone : oneS (cB b) j (rd_T41 l i) = (bq, mq) := by unfold oneS; rw [if_neg (by omega)]; exact hr1
        have hin := cS_in (cB b) (fun n l a c => cB_in b n l a c) (j + 1) (rd_T41 l i) hj2 q
        rw [hone] at HR0
        rw [hr1] at hin
        have HR1 := Aside0.mk (show cS (cB b) (j + 1) ⟨(rd_T41 l i).f0, (rd_T41 l i).f1, (rd_T41 l i).f2, (rd_T41 l i).f3, (rd_T41 l i).f4, (rd_T41 l i).f5⟩ = (bq, mq) from by rw [eta41]; exact hr1)
        have HIN := Aside0.mk hin
        clear hr1 hone hin
        cases bq with
        | true =>
          have HR := Aside0.mk (show goE (oneS (cB b)) mq (l.drop (i + 1).toNat) = (r, m) from HR0)
          clear HR0
          go_wp2_with fail
          have BK := Aside0.mk (blk_new wr (.cells #[.int .i64 (rd_T41 l i).f0, .string (rd_T41 l i).f1, .int .i64 (rd_T41 l i).f2, .slice A3 (rd_T41 l i).f3.length c3, .slice A4 (rd_T41 l i).f4.length c4, .slice A5 (rd_T41 l i).f5.length c5] 41 (0, 0)))
          have GN := Aside0.mk (show wr.heap.size ≠ g from IsS95.fresh HI.out wr.heap.size (Nat.le_refl _))
          (with_reducible refine (tree_counter_one.calls g j _ _ w0 _ (by repeat (first | (with_reducible first | exact HI.out | apply IsS95.alloc | apply IsS95.drewN | apply IsS95.drew) | exact HI.out)) (by repeat (first | (with_reducible first | exact HB.out | apply below_alloc | apply pw_below_drewN | apply below_drew1) | exact HB.out)) H1.out).mono ?_)
          rintro e w5 ⟨rfl, hi5, hb5, hk5⟩
          have n0_ := Aside0.mk hi5
          have n1_ := Aside0.mk hb5
          have n3_ := Aside0.mk (KeepBut.blk hk5 BK.out GN.out (by simp))
          have n2_ := Aside0.mk (KeepBut.trans (show KeepBut w _ g none from by repeat (first | (with_reducible first | exact HK.out | apply keep_drewN | apply keep_drew | apply keep_alloc) | exact HK.out)) hk5 (.inl rfl))
          clear HI HB HK BK hi5 hb5 hk5 hx0 hx1 hx2 hx3 hx4 hx5
          have HI := n0_
          have HB := n1_
          have HK := n2_
          have BK := n3_
          clear n0_ n1_ n2_ n3_
          have hcz0 : w5.cell? ⟨wr.heap.size, 0, none⟩ = some (.int .i64 (rd_T41 l i).f0) := (blk_cell BK.out 0).trans rfl
          have hfz0 := blk_frozen BK.out 0
          have hcz1 : w5.cell? ⟨wr.heap.size, 1, none⟩ = some (.string (rd_T41 l i).f1) := (blk_cell BK.out 1).trans rfl
          have hfz1 := blk_frozen BK.out 1
          have hcz2 : w5.cell? ⟨wr.heap.size, 2, none⟩ = some (.int .i64 (rd_T41 l i).f2) := (blk_cell BK.out 2).trans rfl
          have hfz2 := blk_frozen BK.out 2
          have hcz3 : w5.cell? ⟨wr.heap.size, 3, none⟩ = some (.slice A3 (rd_T41 l i).f3.length c3) := (blk_cell BK.out 3).trans rfl
          have hfz3 := blk_frozen BK.out 3
          have hcz4 : w5.cell? ⟨wr.heap.size, 4, none⟩ = some (.slice A4 (rd_T41 l i).f4.length c4) := (blk_cell BK.out 4).trans rfl
          have hfz4 := blk_frozen BK.out 4
          have hcz5 : w5.cell? ⟨wr.heap.size, 5, none⟩ = some (.slice A5 (rd_T41 l i).f5.length c5) := (blk_cell BK.out 5).trans rfl
          have hfz5 := blk_frozen BK.out 5
          go_wp2_with fail
          (with_reducible refine (stmt_all b BC.out (by have := HB13.out; omega) (rd_T41 l i).f0 (rd_T41 l i).f1 (rd_T41 l i).f2 (rd_T41 l i).f3 (rd_T41 l i).f4 (rd_T41 l i).f5 A3 A4 A5 c3 c4 c5 (j + 1) g w0 _ hj2 q (by repeat (first | (with_reducible first | exact HI.out | apply IsS95.alloc | apply IsS95.drewN | apply IsS95.drew) | exact HI.out)) (by repeat (first | (with_reducible first | exact HB.out | apply below_alloc | apply pw_below_drewN | apply below_drew1) | exact HB.out)) HC3.out HC4.out HC5.out HL4.out HL5.out true mq HR1.out bl hbl0 HBL.out).mono ?_)
          rintro e w6 ⟨rfl, hi5, hb5, hk5⟩
          clear BK hcz0 hfz0 hcz1 hfz1 hcz2 hfz2 hcz3 hfz3 hcz4 hfz4 hcz5 hfz5
          have n0_ := Aside0.mk hi5
          have n1_ := Aside0.mk hb5
          have n2_ := Aside0.mk (KeepBut.trans (show KeepBut w _ g none from by repeat (first | (with_reducible first | exact HK.out | apply keep_drewN | apply keep_drew | apply keep_alloc) | exact HK.out)) hk5 (.inl rfl))
          clear HI HB HK hi5 hb5 hk5
          have HI := n0_
          have HB := n1_
          have HK := n2_
          clear n0_ n1_ n2_
          go_wp2
          go_roundw
          case rel => exact ⟨i + 1, mq, rfl, by omega, by omega, HIN.out.1, HIN.out.2.2 rfl, HR, ⟨by repeat (first | (with_reducible first | exact HI.out | apply IsS95.alloc | apply IsS95.drewN | apply IsS95.drew) | exact HI.out)⟩, ⟨by repeat (first | (with_reducible first | exact HB.out | apply below_alloc | apply pw_below_drewN | apply below_drew1) | exact HB.out)⟩, ⟨by repeat (first | (with_reducible first | exact HK.out | apply keep_drewN | apply keep_drew | apply keep_alloc) | exact HK.out)⟩⟩
          case measure => simp [intOf]; omega
        | false =>
          have HE := Aside0.mk (show (false, mq) = (r, m) from HR0)
          clear HR0
          go_wp2_with fail
          have BK := Aside0.mk (blk_new wr (.cells #[.int .i64 (rd_T41 l i).f0, .string (rd_T41 l i).f1, .int .i64 (rd_T41 l i).f2, .slice A3 (rd_T41 l i).f3.length c3, .slice A4 (rd_T41 l i).f4.length c4, .slice A5 (rd_T41 l i).f5.length c5] 41 (0, 0)))
          have GN := Aside0.mk (show wr.heap.size ≠ g from IsS95.fresh HI.out wr.heap.size (Nat.le_refl _))
          (with_reducible refine (tree_counter_one.calls g j _ _ w0 _ (by repeat (first | (with_reducible first | exact HI.out | apply IsS95.alloc | apply IsS95.drewN | apply IsS95.drew) | exact HI.out)) (by repeat (first | (with_reducible first | exact HB.out | apply below_alloc | apply pw_below_drewN | apply below_drew1) | exact HB.out)) H1.out).mono ?_)
          rintro e w5 ⟨rfl, hi5, hb5, hk5⟩
          have n0_ := Aside0.mk hi5
          have n1_ := Aside0.mk hb5
          have n3_ := Aside0.mk (KeepBut.blk hk5 BK.out GN.out (by simp))
          have n2_ := Aside0.mk (KeepBut.trans (show KeepBut w _ g none from by repeat (first | (with_reducible first | exact HK.out | apply keep_drewN | apply keep_drew | apply keep_alloc) | exact HK.out)) hk5 (.inl rfl))
          clear HI HB HK BK hi5 hb5 hk5 hx0 hx1 hx2 hx3 hx4 hx5
          have HI := n0_
          have HB := n1_
          have HK := n2_
          have BK := n3_
          clear n0_ n1_ n2_ n3_
          have hcz0 : w5.cell? ⟨wr.heap.size, 0, none⟩ = some (.int .i64 (rd_T41 l i).f0) := (blk_cell BK.out 0).trans rfl
          have hfz0 := blk_frozen BK.out 0
          have hcz1 : w5.cell? ⟨wr.heap.size, 1, none⟩ = some (.string (rd_T41 l i).f1) := (blk_cell BK.out 1).trans rfl
          have hfz1 := blk_frozen BK.out 1
          have hcz2 : w5.cell? ⟨wr.heap.size, 2, none⟩ = some (.int .i64 (rd_T41 l i).f2) := (blk_cell BK.out 2).trans rfl
          have hfz2 := blk_frozen BK.out 2
          have hcz3 : w5.cell? ⟨wr.heap.size, 3, none⟩ = some (.slice A3 (rd_T41 l i).f3.length c3) := (blk_cell BK.out 3).trans rfl
          have hfz3 := blk_frozen BK.out 3
          have hcz4 : w5.cell? ⟨wr.heap.size, 4, none⟩ = some (.slice A4 (rd_T41 l i).f4.length c4) := (blk_cell BK.out 4).trans rfl
          have hfz4 := blk_frozen BK.out 4
          have hcz5 : w5.cell? ⟨wr.heap.size, 5, none⟩ = some (.slice A5 (rd_T41 l i).f5.length c5) := (blk_cell BK.out 5).trans rfl
          have hfz5 := blk_frozen BK.out 5
          go_wp2_with fail
          (with_reducible refine (stmt_all b BC.out (by have := HB13.out; omega) (rd_T41 l i).f0 (rd_T41 l i).f1 (rd_T41 l i).f2 (rd_T41 l i).f3 (rd_T41 l i).f4 (rd_T41 l i).f5 A3 A4 A5 c3 c4 c5 (j + 1) g w0 _ hj2 q (by repeat (first | (with_reducible first | exact HI.out | apply IsS95.alloc | apply IsS95.drewN | apply IsS95.drew) | exact HI.out)) (by repeat (first | (with_reducible first | exact HB.out | apply below_alloc | apply pw_below_drewN | apply below_drew1) | exact HB.out)) HC3.out HC4.out HC5.out HL4.out HL5.out false mq HR1.out bl hbl0 HBL.out).mono ?_)
          rintro e w6 ⟨rfl, hi5, hb5, hk5⟩
          clear BK hcz0 hfz0 hcz1 hfz1 hcz2 hfz2 hcz3 hfz3 hcz4 hfz4 hcz5 hfz5
          have n0_ := Aside0.mk hi5
          have n1_ := Aside0.mk hb5
          have n2_ := Aside0.mk (KeepBut.trans (show KeepBut w _ g none from by repeat (first | (with_reducible first | exact HK.out | apply keep_drewN | apply keep_drew | apply keep_alloc) | exact HK.out)) hk5 (.inl rfl))
          clear HI HB HK hi5 hb5 hk5
          have HI := n0_
          have HB := n1_
          have HK := n2_
          clear n0_ n1_ n2_
          go_wp2
          go_ret
          have he := HE.out
          injection he with he1 he2
          subst he1 he2
          exact ⟨rfl, by repeat (first | (with_reducible first | exact HI.out | apply IsS95.alloc | apply IsS95.drewN | apply IsS95.drew) | exact HI.out), by repeat (first | (with_reducible first | exact HB.out | apply below_alloc | apply pw_below_drewN | apply below_drew1) | exact HB.out), by repeat (first | (with_reducible first | exact HK.out | apply keep_drewN | apply keep_drew | apply keep_alloc) | exact HK.out)⟩
      · have H1 := Aside0.mk (one_f j hj0 hj1 q)
        have hone : oneS (cB b) j (rd_T41 l i) = (false, j + 1) := by unfold oneS; rw [if_pos (by omega)]
        rw [hone] at HR0
        have HE := Aside0.mk (show (false, j + 1) = (r, m) from HR0)
        clear HR0 hone
        go_wp2_with fail
        have BK := Aside0.mk (blk_new wr (.cells #[.int .i64 (rd_T41 l i).f0, .string (rd_T41 l i).f1, .int .i64 (rd_T41 l i).f2, .slice A3 (rd_T41 l i).f3.length c3, .slice A4 (rd_T41 l i).f4.length c4, .slice A5 (rd_T41 l i).f5.length c5] 41 (0, 0)))
        have GN := Aside0.mk (show wr.heap.size ≠ g from IsS95.fresh HI.out wr.heap.size (Nat.le_refl _))
        (with_reducible refine (tree_counter_one.calls g j _ _ w0 _ (by repeat (first | (with_reducible first | exact HI.out | apply IsS95.alloc | apply IsS95.drewN | apply IsS95.drew) | exact HI.out)) (by repeat (first | (with_reducible first | exact HB.out | apply below_alloc | apply pw_below_drewN | apply below_drew1) | exact HB.out)) H1.out).mono ?_)
        rintro e w5 ⟨rfl, hi5, hb5, hk5⟩
        have n0_ := Aside0.mk hi5
        have n1_ := Aside0.mk hb5
        have n3_ := Aside0.mk (KeepBut.blk hk5 BK.out GN.out (by simp))
        have n2_ := Aside0.mk (KeepBut.trans (show KeepBut w _ g none from by repeat (first | (with_reducible first | exact HK.out | apply keep_drewN | apply keep_drew | apply keep_alloc) | exact HK.out)) hk5 (.inl rfl))
        clear HI HB HK BK hi5 hb5 hk5 hx0 hx1 hx2 hx3 hx4 hx5
        have HI := n0_
        have HB := n1_
        have HK := n2_
        have BK := n3_
        clear n0_ n1_ n2_ n3_
        go_wp2
        go_ret
        have he := HE.out
        injection he with he1 he2
        subst he1 he2
        exact ⟨rfl, by repeat (first | (with_reducible first | exact HI.out | apply IsS95.alloc | apply IsS95.drewN | apply IsS95.drew) | exact HI.out), by repeat (first | (with_reducible first | exact HB.out | apply below_alloc | apply pw_below_drewN | apply below_drew1) | exact HB.out), by repeat (first | (with_reducible first | exact HK.out | apply keep_drewN | apply keep_drew | apply keep_alloc) | exact HK.out)⟩
    · have hb0 : decide (i < (L : Int)) = false := decide_eq_false hlt
      have he : goE (oneS (cB b)) j (l.drop i.toNat) = (true, j) := by
        rw [List.drop_eq_nil_of_le (by have := HL.out; omega)]
        rfl
      have HE := Aside0.mk (he.symm.trans HR.out)
      clear he HR
      go_wp2
      go_ret
      have he := HE.out
      injection he with he1 he2
      subst he1 he2
      exact ⟨rfl, by repeat (first | (with_reducible first | exact HI.out | apply IsS95.alloc | apply IsS95.drewN | apply IsS95.drew) | exact HI.out), by repeat (first | (with_reducible first | exact HB.out | apply below_alloc | apply pw_below_drewN | apply below_drew1) | exact HB.out), by repeat (first | (with_reducible first | exact HK.out | apply keep_drewN | apply keep_drew | apply keep_alloc) | exact HK.out)⟩
theorem block_all : ∀ b : Nat, b ≤ 13 → BlockC b
  | 0, _ => by
    intro l L A c n r m g w0 w hL hC hc h0 h1 hI hB hr bl hbl
    have e : bl = 13 := by omega
    subst e
    injection hr with e1 e2
    subst e1 e2
    exact block_deep L A c _ g w0 w hI hB
  | b + 1, hb => by
    have ih := block_all b (by omega)
    intro l L A c n r m g w0 w hL hC hc h0 h1 hI hB hr bl hbl
    unfold cB at hr
    by_cases q : 600 < l.length
    · rw [if_pos q] at hr
      injection hr with e1 e2
      subst e1 e2
      exact block_long L A c _ g w0 w hI hB bl (by omega)
    · rw [if_neg q] at hr
      exact block_step b ih (by omega) l L A c n r m g w0 w hL hC hc h0 h1 hI hB (by omega) hr bl (by omega) (by omega)
def rightB (l : List S41) : Bool := (cB 13 0 l).1
set_option maxHeartbeats 4000000 in
set_option maxRecDepth 100000 in
theorem right_calls (A : Option Addr) (c : Nat) (l : List S41) (w : World) (hC : Kd.C k41 w A l.length l) (hc : l.length ≤ c) (r : Bool) (h : rightB l = r) :
    Calls Try.prog 34 #[.slice A l.length c] w fun e w' => e = .returned (.bool r) ∧ Below w.heap.size w w' := by
  obtain ⟨r', m, hr⟩ : ∃ r' m, cB 13 0 l = (r', m) := pair_of _
  have e : r' = r := by unfold rightB at h; rw [hr] at h; exact h
  subst e
  have HC := Aside0.mk hC
  have HCC := Aside0.mk hc
  have HR := Aside0.mk hr
  have HB := Aside0.mk (Below.refl w.heap.size w)
  have BC := Aside0.mk (block_all 13 (Nat.le_refl _))
  clear hC hc hr h
  go_enter Try.func34, Try.ntmps34
  go_wp2_with (first | ((with_reducible refine gate_dst (N := 5) rfl ?_); refine box_event ?hg (N := 5) ?hd (cs := #[.int .i64 0]) (t := 95) ?hr ?_; (case hd => rfl); (case hg => rfl); (case hr => first | (go_simp; done) | (go_simp; rfl)); intro g hg w3 hbox hb; have m1_ := Aside0.mk (below_step HB.out hb); have m2_ := Aside0.mk (show IsS95 w w3 g 0 from ⟨hbox, (by rw [hg]; exact below_size HB.out)⟩); clear HB hb hbox hg; have HB := m1_; have HI := m2_; clear m1_ m2_))
  (with_reducible refine (BC.out.use l _ A c 0 r' m g w _ rfl HC.out HCC.out (Int.le_refl _) (by omega) HI.out HB.out HR.out 0 (by omega)).mono ?_)
  rintro e w5 ⟨rfl, hi5, hb5, hk5⟩
  have n1_ := Aside0.mk hb5
  clear HB hb5
  have HB := n1_
  go_wp2
  go_ret
  exact ⟨rfl, by repeat (first | (with_reducible first | exact HB.out | apply below_alloc | apply pw_below_drewN | apply below_drew1) | exact HB.out)⟩
end Go.Proofs.Ytobkdmmnbnpemaa.K
