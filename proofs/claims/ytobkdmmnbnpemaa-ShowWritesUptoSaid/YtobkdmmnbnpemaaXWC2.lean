/- The writer's within, walked by hand. -/
import Derived.Test.YtobkdmmnbnpemaaXWY5
import Derived.Test.YtobkdmmnbnpemaaXWYB
import Derived.Lib.Hide
namespace Go.Proofs.Ytobkdmmnbnpemaa.K
open Go.RowKit Go.Proofs.YtobkdmmnbnpemaaW.PrintWords Go.Proofs.YtobkdmmnbnpemaaW.PrintLast Go.Proofs.YtobkdmmnbnpemaaW.PrintMore
attribute [local go_sem] max2_int min2_int max_two min_two max_three min_three max_four min_four
set_option linter.unusedVariables false
set_option linter.unusedSimpArgs false
theorem IsW.dent {B : Nat} {W : World} {g : Nat} {t : List UInt8} {n : Int} (h : IsW B W g t n) (m : Int) : IsW B (W.setCell ⟨g, 1, none⟩ (.int .i64 m)) g t m := by
  obtain ⟨v, h⟩ := h; exact ⟨v, h.dent m⟩
theorem IsW.cell1 {B : Nat} {W : World} {g : Nat} {t : List UInt8} {n : Int} (h : IsW B W g t n) : W.cell? ⟨g, 1, none⟩ = some (.int .i64 n) ∧ W.frozen? ⟨g, 1, none⟩ = false := by
  obtain ⟨v, h⟩ := h; exact ⟨(blk_cell h.1 1).trans rfl, blk_frozen h.1 1⟩
def StC (d : Nat) (f : Int → S41 → Option (List UInt8)) : Prop := ∀ (k : Int) (f1 : ByteArray) (f2 : Int) (l3 : List S38) (l4 l5 : List S41) (A3 A4 A5 : Option Addr) (c3 c4 c5 : Nat) (n : Int) (r t : List UInt8) (g : Nat) (w0 w : World),
  f n ⟨k, f1, f2, l3, l4, l5⟩ = some r → 0 ≤ n → n + d ≤ 900 → IsW w0.heap.size w g t n → Below w0.heap.size w0 w → Kd.C k38 w0 A3 l3.length l3 → Kd.C k41 w0 A4 l4.length l4 → Kd.C k41 w0 A5 l5.length l5 → l3.length ≤ c3 → l4.length ≤ c4 → l5.length ≤ c5 → t.length + r.length ≤ 1000000000 →
  Calls Try.prog 39 #[.pointer (some ⟨g, 0, none⟩), .agg #[.int .i64 k, .string f1, .int .i64 f2, .slice A3 l3.length c3, .slice A4 l4.length c4, .slice A5 l5.length c5]] w (LPost w0.heap.size g (t ++ r) n w0 w)
theorem StC.use {d : Nat} {f : Int → S41 → Option (List UInt8)} (h : StC d f) (x : S41) (A3 A4 A5 : Option Addr) (c3 c4 c5 : Nat) (n : Int) (r t : List UInt8) (g : Nat) (w0 w : World)
  (hr : f n x = some r) (h0 : 0 ≤ n) (h1 : n + d ≤ 900) (hw : IsW w0.heap.size w g t n) (hb : Below w0.heap.size w0 w) (h3 : Kd.C k38 w0 A3 x.f3.length x.f3) (h4 : Kd.C k41 w0 A4 x.f4.length x.f4) (h5 : Kd.C k41 w0 A5 x.f5.length x.f5) (g3 : x.f3.length ≤ c3) (g4 : x.f4.length ≤ c4) (g5 : x.f5.length ≤ c5) (hs : t.length + r.length ≤ 1000000000) :
  Calls Try.prog 39 #[.pointer (some ⟨g, 0, none⟩), .agg #[.int .i64 x.f0, .string x.f1, .int .i64 x.f2, .slice A3 x.f3.length c3, .slice A4 x.f4.length c4, .slice A5 x.f5.length c5]] w (LPost w0.heap.size g (t ++ r) n w0 w) :=
  h x.f0 x.f1 x.f2 x.f3 x.f4 x.f5 A3 A4 A5 c3 c4 c5 n r t g w0 w (by rw [eta41]; exact hr) h0 h1 hw hb h3 h4 h5 g3 g4 g5 hs
def WiRel (f : Int → S41 → Option (List UInt8)) (l : List S41) (L : Nat) (n : Int) (tr : List UInt8) (g : Nat) (w0 w : World) (v15 : Value) (w' : World) : Prop :=
  ∃ (i : Int) (t1 r1 : List UInt8), v15 = .int .i64 i ∧ 0 ≤ i ∧ i ≤ (L : Int) ∧ Aside0 (sB f n (l.drop i.toNat) = some r1) ∧ Aside0 (t1 ++ r1 = tr) ∧ Aside0 (IsW w0.heap.size w' g t1 n) ∧ Aside0 (Below w0.heap.size w0 w') ∧ Aside0 (KeepT w w' g)
set_option maxHeartbeats 8000000 in
set_option maxRecDepth 100000 in
theorem within_calls (d : Nat) (f : Int → S41 → Option (List UInt8)) (SC0 : StC d f) (l : List S41) (L : Nat) (A : Option Addr) (c : Nat) (n : Int) (r t : List UInt8) (g : Nat) (w0 w : World) (hr : sB f (n + 1) l = some r) (hn0 : 0 ≤ n) (hn1 : n + 1 + d ≤ 900) (hL : l.length = L) (hW : IsW w0.heap.size w g t n) (hB : Below w0.heap.size w0 w)
    (hC : Kd.C k41 w0 A l.length l) (hc : L ≤ c) (hLs : L ≤ 1000000) (hs : t.length + r.length ≤ 1000000000) :
    Calls Try.prog 61 #[.pointer (some ⟨g, 0, none⟩), .slice A L c] w (LPost w0.heap.size g (t ++ r) n w0 w) := by
  have hu41 := Try.underlying41
  have HW := Aside0.mk hW
  have HB := Aside0.mk hB
  have HL := Aside0.mk hL
  have HC := Aside0.mk hC
  have HS := Aside0.mk hs
  have HR := Aside0.mk hr
  have SC := Aside0.mk SC0
  have HN1 := Aside0.mk hn1
  have GE := Aside0.mk hW.ge
  have HK := Aside0.mk (KeepT.refl w g)
  obtain ⟨hcg1, hfg1⟩ := hW.cell1
  have hn9 : n ≤ 900 := by omega
  clear hW hB hL hC hs hr SC0 hn1
  go_enter Try.func61, Try.ntmps61
  go_wp2
  have n0_ := Aside0.mk (IsW.dent HW.out (n + 1))
  have n1_ := Aside0.mk (show Below w0.heap.size w0 (w.setCell ⟨g, 1, none⟩ (.int .i64 (n + 1))) from below_set HB.out GE.out)
  have n2_ := Aside0.mk (HK.out.set 1 (.int .i64 (n + 1)))
  clear HW HB HK hcg1 hfg1
  have HW := n0_
  have HB := n1_
  have HK := n2_
  clear n0_ n1_ n2_
  go_loopw [15] (fun v15 wr => WiRel f l L (n + 1) (t ++ r) g w0 w v15 wr) (fun v15 _ => L - (intOf v15).toNat)
  case atStart => exact ⟨0, t, r, rfl, Int.le_refl _, by omega, HR, ⟨rfl⟩, HW, HB, HK⟩
  case round =>
    unfold WiRel at hrel
    clear HR HW HB HK
    obtain ⟨i, t1, r1, rfl, hi0, hi1, HR, HT, HW, HB, HK⟩ := hrel
    by_cases hlt : i < (L : Int)
    · have hlt' : i < (l.length : Int) := by rw [HL.out]; exact hlt
      have hb0 : decide (i < (L : Int)) = true := decide_eq_true hlt
      have hdr := drop_rd41 l i hi0 hlt'
      have HR0 := HR.out
      rw [hdr] at HR0
      unfold sB at HR0
      obtain ⟨ra, hra, HR0⟩ := Option.bind_eq_some_iff.mp HR0
      obtain ⟨rb, hrb, HR0⟩ := Option.bind_eq_some_iff.mp HR0
      have HR1 := Aside0.mk hra
      have HR2 := Aside0.mk hrb
      have HE := Aside0.mk (Option.some.inj HR0)
      obtain ⟨ad, A3, c3, A4, c4, A5, c5, eA, hx0, hx1, hx2, hx3, hx4, hx5, hl3, hi3, hl4, hi4, hl5, hi5⟩ := at_T41 HC.out i hi0 hlt'
      subst eA
      replace hx0 := (HB.out.cell (World.block_lt_of_cell? w0 _ hx0)).trans hx0
      replace hx1 := (HB.out.cell (World.block_lt_of_cell? w0 _ hx1)).trans hx1
      replace hx2 := (HB.out.cell (World.block_lt_of_cell? w0 _ hx2)).trans hx2
      replace hx3 := (HB.out.cell (World.block_lt_of_cell? w0 _ hx3)).trans hx3
      replace hx4 := (HB.out.cell (World.block_lt_of_cell? w0 _ hx4)).trans hx4
      replace hx5 := (HB.out.cell (World.block_lt_of_cell? w0 _ hx5)).trans hx5
      have HC3 := Aside0.mk hi3
      have HC4 := Aside0.mk hi4
      have HC5 := Aside0.mk hi5
      have HL3 := Aside0.mk hl3
      have HL4 := Aside0.mk hl4
      have HL5 := Aside0.mk hl5
      have p1 := eq_true hi0
      have p2 := eq_true hlt
      have HSZ := Aside0.mk (show t1.length + ra.length ≤ 1000000000 by
        have h1 := congrArg List.length HT.out
        have h2 := congrArg List.length HE.out
        have := HS.out
        simp only [List.length_append] at h1 h2
        omega)
      have hnn : 0 ≤ n + 1 := by omega
      clear hdr hra hrb HR0 hi3 hi4 hi5 hl3 hl4 hl5 HR
      go_wp2_with fail
      (with_reducible refine (SC.out.use (rd_T41 l i) A3 A4 A5 c3 c4 c5 (n + 1) ra t1 g w0 _ HR1.out hnn (by have := HN1.out; omega) (by repeat (first | (with_reducible first | exact HW.out | apply IsW.alloc | apply IsW.drewN | apply IsW.drew) | exact HW.out)) (by repeat (first | (with_reducible first | exact HB.out | apply below_alloc | apply pw_below_drewN | apply below_drew1 | refine below_set ?_ GE.out) | exact HB.out)) HC3.out HC4.out HC5.out HL3.out HL4.out HL5.out HSZ.out).mono ?_)
      rintro e w5 ⟨rfl, hw5, hb5, hk5⟩
      have n0_ := Aside0.mk hw5
      have n1_ := Aside0.mk hb5
      have n2_ := Aside0.mk (KeepT.trans (show KeepT w _ g from by repeat (first | (with_reducible first | exact HK.out | apply KeepT.set | apply KeepT.drewN | apply KeepT.drew | apply KeepT.alloc) | exact HK.out)) hk5)
      clear HW HB HK hw5 hb5 hk5 hx0 hx1 hx2 hx3 hx4 hx5
      have HW := n0_
      have HB := n1_
      have HK := n2_
      clear n0_ n1_ n2_
      go_wp2
      go_roundw
      case rel => exact ⟨i + 1, t1 ++ ra, rb, by go_num, by omega, by omega, HR2, ⟨by rw [List.append_assoc, HE.out]; exact HT.out⟩, HW, HB, HK⟩
      case measure => simp [intOf]; omega
    · have hb0 : decide (i < (L : Int)) = false := decide_eq_false hlt
      have he : some ([] : List UInt8) = some r1 := by
        have := HR.out
        rw [List.drop_eq_nil_of_le (by have := HL.out; omega)] at this
        exact this
      have he1 := Option.some.inj he
      subst he1
      have ht := HT.out
      rw [List.append_nil] at ht
      subst ht
      obtain ⟨hcg1, hfg1⟩ := HW.out.cell1
      clear he HT HR
      have n0_ := Aside0.mk (IsW.dent HW.out n)
      go_wp2
      go_end0
      exact ⟨rfl, n0_.out, by repeat (first | (with_reducible first | exact HB.out | apply below_alloc | apply pw_below_drewN | apply below_drew1 | refine below_set ?_ GE.out) | exact HB.out), by repeat (first | (with_reducible first | exact HK.out | apply KeepT.set | apply KeepT.drewN | apply KeepT.drew | apply KeepT.alloc) | exact HK.out)⟩
end Go.Proofs.Ytobkdmmnbnpemaa.K
