/- num.Text, walked by hand. -/
import Derived.Test.YtobkdmmnbnpemaaXWPL0
import Derived.Lib.Hide
namespace Go.Proofs.Ytobkdmmnbnpemaa.K
open Go.RowKit Go.Proofs.YtobkdmmnbnpemaaW.PrintWords Go.Proofs.YtobkdmmnbnpemaaW.PrintLast Go.Proofs.YtobkdmmnbnpemaaW.PrintMore
attribute [local go_sem] max2_int min2_int max_two min_two max_three min_three max_four min_four
set_option linter.unusedVariables false
set_option linter.unusedSimpArgs false
def dgB (u : Nat) : UInt8 := UInt8.ofNat (48 + u % 10)
def decR : Nat → Nat → List UInt8 → List UInt8
  | 0, _, ds => ds
  | k + 1, u, ds => if u / 10 = 0 then dgB u :: ds else decR k (u / 10) (dgB u :: ds)
def sizeB (a : Int) : Nat := if a < 0 then ((-a) % 18446744073709551616).toNat else (a % 18446744073709551616).toNat
def textB (a : Int) : List UInt8 := if a < 0 then 45 :: decR 20 (sizeB a) [] else decR 20 (sizeB a) []
theorem size_ok (a : Int) : num_size.f a = some ((sizeB a : Nat) : Int) := by
  unfold num_size.f sizeB
  by_cases h : a < 0
  · rw [if_pos h, if_pos h]
    congr 1
    rw [IntKind.wrap_u64, IntKind.wrap_u64]
    omega
  · rw [if_neg h, if_neg h]
    congr 1
    rw [IntKind.wrap_u64]
    omega
theorem sizeB_lt (a : Int) : sizeB a < 18446744073709551616 := by
  unfold sizeB
  by_cases h : a < 0
  · rw [if_pos h]; omega
  · rw [if_neg h]; omega
def cellT (x : Int) (ds : List UInt8) : List Value := List.replicate x.toNat (.int .u8 0) ++ ds.map (fun b => .int .u8 (c8 b))
theorem cellT_put (x : Int) (ds : List UInt8) (c : UInt8) (h : 1 ≤ x) : (cellT x ds).set (x - 1).toNat (.int .u8 (c8 c)) = cellT (x - 1) (c :: ds) := by
  unfold cellT
  have e : x.toNat = (x - 1).toNat + 1 := by omega
  rw [e, List.replicate_succ', List.append_assoc, List.set_append_right _ _ (by simp)]
  simp
theorem cellT_at (x : Int) (ds : List UInt8) (h : 1 ≤ x) : (cellT x ds)[(x - 1).toNat]? = some (.int .u8 0) := by
  unfold cellT
  rw [List.getElem?_append_left (by simp; omega), List.getElem?_replicate, if_pos (by omega)]
theorem cellT_dig (x : Int) (ds : List UInt8) (i : Nat) (h : i < ds.length) : (cellT x ds)[x.toNat + i]? = some (.int .u8 (c8 (ds.getD i 0))) := by
  unfold cellT
  rw [List.getElem?_append_right (by simp)]
  simp only [List.length_replicate, Nat.add_sub_cancel_left, List.getElem?_map]
  rw [List.getElem?_eq_getElem h]
  simp [List.getD_eq_getElem?_getD, List.getElem?_eq_getElem h]
theorem c8_dig (u : Int) (h : 0 ≤ u) : c8 (dgB u.toNat) = 48 + u % 10 := by
  unfold c8 dgB
  have : (48 + u.toNat % 10) % 256 = 48 + u.toNat % 10 := by omega
  rw [UInt8.toNat_ofNat', this]
  omega
theorem cellT_put1 (y : Int) (ds : List UInt8) (c : UInt8) (h : 0 ≤ y) : (cellT (y + 1) ds).set y.toNat (.int .u8 (c8 c)) = cellT y (c :: ds) := by
  have := cellT_put (y + 1) ds c (by omega)
  have e : y + 1 - 1 = y := by omega
  rw [e] at this
  exact this
theorem cellT_at1 (y : Int) (ds : List UInt8) (h : 0 ≤ y) : (cellT (y + 1) ds)[y.toNat]? = some (.int .u8 0) := by
  have := cellT_at (y + 1) ds (by omega)
  have e : y + 1 - 1 = y := by omega
  rw [e] at this
  exact this
theorem blkT_put {w : World} {g : Nat} {y : Int} {ds : List UInt8} (h : w.heap[g]? = some (.cells (cellT (y + 1) ds).toArray 133 (0, 0))) (h0 : 0 ≤ y) (c : UInt8) (v : Int) (hv : v = c8 c) : (w.setCell ⟨g, y.toNat, none⟩ (.int .u8 v)).heap[g]? = some (.cells (cellT y (c :: ds)).toArray 133 (0, 0)) := by
  subst hv
  refine blk_put h y.toNat _ ?_
  rw [← cellT_put1 y ds c h0]
  simp
theorem slice_133 (g : Nat) (y : Int) (h0 : 0 ≤ y) (h1 : y < 20) (W : World) : (Instr.sliceAt 133 (.pointer (some ⟨g, 0, none⟩)) (some (.int .i64 y)) none none).run Try.prog W = .ok (.slice (some ⟨g, y.toNat, none⟩) (20 - y.toNat) (20 - y.toNat)) W := by
  have hu := Try.underlying133
  have hu5 := Try.underlying5
  have e1 : Try.prog.arrayLen 133 = 20 := by kernel_rfl
  have e2 : Try.prog.elem 133 = 5 := by kernel_rfl
  have hs : (sizeOf 5).run Try.prog W = .ok 1 W := by kernel_rfl
  have hne : ¬ (20 = y.toNat) := by omega
  have hb : y ≤ (20 : Nat) := by omega
  have := run_sliceAt_array_l (P := Try.prog) W 133 ⟨g, 0, none⟩ (by rw [e1, e2]; exact hu) .i64 y h0 (by rw [e1]; exact hb)
  rw [this, e1, e2, hs]
  simp only [Result.andThen, slicedAt, if_neg hne, Addr.add, Nat.mul_one, Nat.zero_add]
  by_cases hz : y.toNat = 0
  · rw [if_pos hz, hz]
  · rw [if_neg hz]
theorem conv_133 (g : Nat) (y : Int) (ds : List UInt8) (W : World) (h0 : 0 ≤ y) (hd : y.toNat + ds.length = 20) (h : W.heap[g]? = some (.cells (cellT y ds).toArray 133 (0, 0))) : (convert 62 9 (.slice (some ⟨g, y.toNat, none⟩) (20 - y.toNat) (20 - y.toNat))).run Try.prog W = .ok (.string (bs ds)) W := by
  have hl : (ds.map c8).length = 20 - y.toNat := by rw [List.length_map]; omega
  have := run_convert_bytes_arg (P := Try.prog) W 62 5 Try.underlying62 Try.underlying5 g y.toNat (20 - y.toNat) (20 - y.toNat) (ds.map c8) hl (fun i hi => by
    have hi2 : i < ds.length := by omega
    refine (blk_cell h _).trans ?_
    have := cellT_dig y ds i hi2
    rw [List.getElem?_toArray, this]
    simp [List.getD_eq_getElem?_getD, List.getElem?_eq_getElem hi2]) 9 Try.underlying9
  have e : strOfNums (ds.map c8) = bs ds := by
    unfold strOfNums bs
    rw [List.map_map]
    have : ds.map ((fun n : Int => UInt8.ofNat n.toNat) ∘ c8) = ds := by
      conv => rhs; rw [← List.map_id ds]
      apply List.map_congr_left
      intro c _
      simp [c8]
    rw [this]
  rw [this, e]
def TRel (b : Nat) (R : List UInt8) (w : World) (v4 v5 : Value) (w' : World) : Prop :=
  ∃ (y u : Int) (ds : List UInt8), v4 = .int .i64 (y + 1) ∧ v5 = .int .u64 u ∧ (b : Int) ≤ y ∧ y < 20 ∧ 0 ≤ u ∧ Aside0 (u ≤ 18446744073709551615) ∧ Aside0 (u.toNat < 10 ^ (y + 1 - b).toNat) ∧ Aside0 (y.toNat + 1 + ds.length = 20) ∧ Aside0 (decR (y + 1).toNat u.toNat ds = R) ∧
    Aside0 (w'.heap[w.heap.size]? = some (.cells (cellT (y + 1) ds).toArray 133 (0, 0))) ∧ Aside0 (Below w.heap.size w w')
set_option maxHeartbeats 4000000 in
set_option maxRecDepth 100000 in
theorem text_x (a : Int) (w : World) (h1 : a < 0 → sizeB a < 10000000000000000000) :
    Calls Try.prog 60 #[.int .i64 a] w fun e w' => e = .returned (.string (bs (textB a))) ∧ Below w.heap.size w w' := by
  obtain ⟨u0, hu0⟩ : ∃ u0 : Int, u0 = ((sizeB a : Nat) : Int) := ⟨_, rfl⟩
  have hs := size_ok a
  have hlt := sizeB_lt a
  rw [← hu0] at hs
  have HS := Aside0.mk hs
  have HB := Aside0.mk (Below.refl w.heap.size w)
  have hub : 0 ≤ u0 := by omega
  have hu20 : u0.toNat < 10 ^ (20 - ((if a < 0 then 1 else 0 : Nat) : Int)).toNat := by
    rw [hu0, Int.toNat_natCast]
    by_cases h : a < 0
    · rw [if_pos h]
      have : (10 : Nat) ^ (20 - ((1 : Nat) : Int)).toNat = 10000000000000000000 := by decide
      rw [this]; exact h1 h
    · rw [if_neg h]
      have : (10 : Nat) ^ (20 - ((0 : Nat) : Int)).toNat = 100000000000000000000 := by decide
      rw [this]; omega
  have HU := Aside0.mk hu20
  have HUB := Aside0.mk (show u0 ≤ 18446744073709551615 by rw [hu0]; omega)
  have HR := Aside0.mk (show decR (19 + 1 : Int).toNat u0.toNat [] = decR 20 (sizeB a) [] by rw [hu0]; rfl)
  clear hs hu20 hu0 h1 hlt
  go_enter Try.func60, Try.ntmps60
  go_wp2_with fail
  (with_reducible refine (num_size.calls a u0 _ HS.out).mono ?_)
  rintro e w' ⟨rfl, ⟨nd, rfl⟩⟩
  go_wp2
  go_loopw [4, 5] (fun v4 v5 wr => TRel (if a < 0 then 1 else 0) (decR 20 (sizeB a) []) w v4 v5 wr) (fun v4 _ _ => (intOf v4).toNat)
  case atStart =>
    refine ⟨19, u0, [], rfl, rfl, by split <;> omega, by omega, hub, HUB, HU, ⟨rfl⟩, HR, ⟨?_⟩, ⟨pw_below_drewN (below_alloc HB.out _) _⟩⟩
    exact blk_drewN (blk_new w _) _
  case round =>
    unfold TRel at hrel
    clear HR HU HUB HB HS
    obtain ⟨y, u, ds, rfl, rfl, hx0, hx1, hu, HUB, HU, HD, HR, BK, HB⟩ := hrel
    have hy0 : 0 ≤ y := by omega
    have hcz : wr.cell? ⟨w.heap.size, y.toNat, none⟩ = some (.int .u8 0) := (blk_cell BK.out _).trans (by rw [List.getElem?_toArray]; exact cellT_at1 y ds hy0)
    have hfz := blk_frozen BK.out y.toNat
    have hdv : IntKind.u64.wrap (u.tdiv 10) = u / 10 := by
      have := HUB.out
      rw [Int.tdiv_eq_ediv_of_nonneg hu, IntKind.wrap_u64]
      omega
    have hw8 : IntKind.u8.wrap (48 + u % 10) = 48 + u % 10 := by rw [IntKind.wrap_u8]; omega
    have hc8 := c8_dig u hu
    have HC8 := Lib.hid hc8
    clear hc8
    by_cases hq : u / 10 = 0
    · have hqb : (u / 10 == 0) = true := beq_iff_eq.2 hq
      have hdr := HR.out
      have hyn : (y + 1).toNat = y.toNat + 1 := by omega
      rw [hyn, decR, if_pos (by omega)] at hdr
      have HDR := Aside0.mk hdr
      have HQ := Lib.hid hq
      have BK2 := Aside0.mk (blkT_put BK.out hy0 (dgB u.toNat) (48 + u % 10) HC8.out.symm)
      clear hq hdr hyn HR
      by_cases hneg : a < 0
      · have hb0 : decide (a < 0) = true := decide_eq_true hneg
        have hy1 : 1 ≤ y := by rw [if_pos hneg] at hx0; omega
        obtain ⟨z, rfl⟩ : ∃ z, y = z + 1 := ⟨y - 1, by omega⟩
        have hz0 : 0 ≤ z := by omega
        have hsl := slice_133 w.heap.size z hz0 (by omega)
        have BK3 := Aside0.mk (blkT_put BK2.out hz0 45 45 rfl)
        have hcv := conv_133 w.heap.size z _ _ hz0 (by have := HD.out; simp only [List.length_cons]; omega) BK3.out
        have hcz2 : (wr.setCell ⟨w.heap.size, (z + 1).toNat, none⟩ (.int .u8 (48 + u % 10))).cell? ⟨w.heap.size, z.toNat, none⟩ = some (.int .u8 0) := (blk_cell BK2.out _).trans (by rw [List.getElem?_toArray]; exact cellT_at1 z _ hz0)
        have hfz2 := blk_frozen BK2.out z.toNat
        have hz1 : z < 20 := by omega
        have HN := Lib.hid hneg
        go_wp2
        go_ret
        refine ⟨?_, below_set (below_set HB.out (Nat.le_refl _)) (Nat.le_refl _)⟩
        unfold textB
        rw [if_pos HN.out, ← HDR.out]
        rfl
      · have hb0 : decide (a < 0) = false := decide_eq_false hneg
        have hsl := slice_133 w.heap.size y hy0 hx1
        have hcv := conv_133 w.heap.size y _ _ hy0 (by have := HD.out; simp only [List.length_cons]; omega) BK2.out
        have HN := Lib.hid hneg
        go_wp2
        go_ret
        refine ⟨?_, below_set HB.out (Nat.le_refl _)⟩
        unfold textB
        rw [if_neg (show ¬ a < 0 by have := HN.out; omega), ← HDR.out]
        rfl
    · have hqb : (u / 10 == 0) = false := beq_eq_false_iff_ne.2 hq
      have hyn : (y + 1).toNat = y.toNat + 1 := by omega
      have hdr := HR.out
      rw [hyn, decR, if_neg (by omega)] at hdr
      have HDR := Aside0.mk (show decR y.toNat (u / 10).toNat (dgB u.toNat :: ds) = decR 20 (sizeB a) [] by rw [show (u / 10).toNat = u.toNat / 10 by omega]; exact hdr)
      have BK2 := Aside0.mk (blkT_put BK.out hy0 (dgB u.toNat) (48 + u % 10) HC8.out.symm)
      have hpw : (y + 1 - ((if a < 0 then 1 else 0 : Nat) : Int)).toNat = (y - ((if a < 0 then 1 else 0 : Nat) : Int)).toNat + 1 := by omega
      have hu2 := HU.out
      rw [hpw, Nat.pow_succ] at hu2
      have hu3 : (u / 10).toNat < 10 ^ (y - ((if a < 0 then 1 else 0 : Nat) : Int)).toNat := by
        rw [show (u / 10).toNat = u.toNat / 10 by omega]
        exact Nat.div_lt_of_lt_mul (by rw [Nat.mul_comm]; exact hu2)
      have hy2 : ((if a < 0 then 1 else 0 : Nat) : Int) ≤ y - 1 := by
        by_cases hh : ((if a < 0 then 1 else 0 : Nat) : Int) ≤ y - 1
        · exact hh
        · exfalso
          rw [show (y - ((if a < 0 then 1 else 0 : Nat) : Int)).toNat = 0 by omega] at hu3
          omega
      obtain ⟨z, rfl⟩ : ∃ z, y = z + 1 := ⟨y - 1, by omega⟩
      have hz0 : ((if a < 0 then 1 else 0 : Nat) : Int) ≤ z := by omega
      have hz1 : z < 20 := by omega
      have HZ := Lib.hid hz0
      have HU3 := Aside0.mk hu3
      have HD2 := Aside0.mk (show z.toNat + 1 + (dgB u.toNat :: ds).length = 20 by have := HD.out; simp only [List.length_cons]; omega)
      have hu10 : 0 ≤ u / 10 := by omega
      have HU10 := Aside0.mk (show u / 10 ≤ 18446744073709551615 by have := HUB.out; omega)
      clear hdr hpw hu2 hu3 hy2 hyn HR hq hz0 HU
      go_wp2
      go_roundw
      case rel => exact ⟨z, u / 10, dgB u.toNat :: ds, rfl, rfl, HZ.out, hz1, hu10, ⟨HU10.out⟩, HU3, HD2, HDR, ⟨BK2.out⟩, ⟨below_set HB.out (Nat.le_refl _)⟩⟩
      case measure => simp [intOf]; omega
def num_Text.f (a : Int) : Option ByteArray := if a < 0 ∧ ¬ sizeB a < 10000000000000000000 then none else some (bs (textB a))
theorem num_Text.calls (a0 : Int) (r : ByteArray) (w : World) (h : num_Text.f a0 = some r) : Calls Try.prog 60 #[.int .i64 a0] w fun e w' => e = .returned (.string r) ∧ Below w.heap.size w w' := by
  unfold num_Text.f at h
  by_cases c : a0 < 0 ∧ ¬ sizeB a0 < 10000000000000000000
  · rw [if_pos c] at h; simp at h
  · rw [if_neg c] at h
    have e := Option.some.inj h
    subst e
    exact text_x a0 w (fun q => by
      by_cases c2 : sizeB a0 < 10000000000000000000
      · exact c2
      · exact absurd ⟨q, c2⟩ c)
end Go.Proofs.Ytobkdmmnbnpemaa.K
