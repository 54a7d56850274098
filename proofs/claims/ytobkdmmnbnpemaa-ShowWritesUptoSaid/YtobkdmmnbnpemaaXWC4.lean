/- show.Text, walked by hand. -/
import Derived.Test.YtobkdmmnbnpemaaXWC3
import Derived.Lib.Hide
namespace Go.Proofs.Ytobkdmmnbnpemaa.K
open Go.RowKit Go.Proofs.YtobkdmmnbnpemaaW.PrintWords Go.Proofs.YtobkdmmnbnpemaaW.PrintLast Go.Proofs.YtobkdmmnbnpemaaW.PrintMore
attribute [local go_sem] max2_int min2_int max_two min_two max_three min_three max_four min_four
set_option linter.unusedVariables false
set_option linter.unusedSimpArgs false
theorem own_sl2 {W : World} {base : Nat} {e : TypeId} {size n : Nat} {v : Value} {xs : List Value} (h : W.ownsRow base e size v n xs) : ∃ A c, v = .slice A n c := by
  rcases h.2 with ⟨rfl, h0⟩ | ⟨g', cap, cur, rfl, _⟩
  · subst h0; exact ⟨_, _, rfl⟩
  · exact ⟨_, _, rfl⟩
theorem conv_own {W : World} {base : Nat} {v : Value} {r : List UInt8} (h : W.ownsRow base 5 1 v (r.map c8).length (nums .u8 (r.map c8))) : (convert 62 9 v).run Try.prog W = .ok (.string (bs r)) W := by
  have h0 := h
  rcases h.2 with ⟨rfl, h1⟩ | ⟨ga, cap, cur, rfl, _⟩
  · have : r = [] := by cases r with | nil => rfl | cons => simp at h1
    subst this
    exact run_convert_bytes_nil (P := Try.prog) W 62 5 Try.underlying62 Try.underlying5 0 0 9 Try.underlying9
  · have := run_convert_bytes_arg (P := Try.prog) W 62 5 Try.underlying62 Try.underlying5 ga 0 (r.map c8).length cap (r.map c8) rfl (fun i hi => by
      rw [Nat.zero_add, World.ownsRow.cellAt h0 i (by omega)]
      unfold nums
      have hi2 : i < r.length := by simpa using hi
      simp [List.getD_eq_getElem?_getD, List.getElem?_eq_getElem hi2]) 9 Try.underlying9
    rw [this]
    have e : strOfNums (r.map c8) = bs r := by
      unfold strOfNums bs
      rw [List.map_map]
      have : r.map ((fun n : Int => UInt8.ofNat n.toNat) ∘ c8) = r := by
        conv => rhs; rw [← List.map_id r]
        apply List.map_congr_left
        intro c _
        simp [c8]
      rw [this]
    rw [e]
def TPost (s : ByteArray) (er : Int) (w : World) (e : Ending) (w' : World) : Prop := e = .returned (.tuple #[.string s, .int .i64 er]) ∧ Below w.heap.size w w'
set_option maxHeartbeats 8000000 in
set_option maxRecDepth 100000 in
theorem text_bad (l : List S41) (L : Nat) (A : Option Addr) (c : Nat) (w : World) (hL : l.length = L) (hC : Kd.C k41 w A l.length l) (hc : L ≤ c) (hr : rightB l = false) : Calls Try.prog 16 #[.slice A L c] w (TPost ⟨#[]⟩ 43 w) := by
  subst hL
  have HC := Aside0.mk hC
  have HR := Aside0.mk hr
  have HCC := Aside0.mk hc
  clear hC hr hc
  go_enter Try.func16, Try.ntmps16
  go_wp2_with fail
  (with_reducible refine (right_calls A c l _ HC.out HCC.out false HR.out).mono ?_)
  rintro e w5 ⟨rfl, hb5⟩
  have HB := Aside0.mk hb5
  clear hb5
  go_wp2
  go_ret2
  exact ⟨rfl, HB.out⟩
set_option maxHeartbeats 8000000 in
set_option maxRecDepth 100000 in
theorem text_calls (d : Nat) (hd : d ≤ 900) (f : Int → S41 → Option (List UInt8)) (SC0 : StC d f) (l : List S41) (L : Nat) (A : Option Addr) (c : Nat) (r : List UInt8) (w : World) (hsb : sB f 0 l = some r) (hL : l.length = L) (hC : Kd.C k41 w A l.length l) (hc : L ≤ c) (hLs : L ≤ 1000000) (hs : r.length ≤ 1000000000) (hr : rightB l = true) (s : ByteArray) (er : Int) (hres : (8192 < r.length ∧ s = ⟨#[]⟩ ∧ er = 30) ∨ (¬ 8192 < r.length ∧ s = bs r ∧ er = 0)) :
    Calls Try.prog 16 #[.slice A L c] w (TPost s er w) := by
  have HRES := Lib.hid hres
  have hu41 := Try.underlying41
  have HB := Aside0.mk (Below.refl w.heap.size w)
  have HL := Aside0.mk hL
  have HC := Aside0.mk hC
  have HS := Aside0.mk hs
  have HSB := Aside0.mk hsb
  have HRT := Aside0.mk hr
  have SC := Aside0.mk SC0
  have HCC := Aside0.mk hc
  clear hL hC hs hr hsb SC0 hc hres
  go_enter Try.func16, Try.ntmps16
  go_wp2_with fail
  have HCR := Aside0.mk (show Calls Try.prog 34 #[.slice A L c] w (fun e w' => e = .returned (.bool true) ∧ Below w.heap.size w w') by
    have hL := HL.out
    subst hL
    exact right_calls A c l w HC.out HCC.out true HRT.out)
  (with_reducible refine HCR.out.mono ?_)
  rintro e w5 ⟨rfl, hb5⟩
  have n1_ := Aside0.mk hb5
  clear HB hb5 HCR
  have HB := n1_
  clear n1_
  go_wp2_with (first | ((with_reducible refine gate_dst (N := 11) rfl ?_); refine box_event ?hg (N := 11) ?hd (cs := #[.slice none 0 0, .int .i64 0]) (t := 64) ?hr ?_; (case hd => rfl); (case hg => rfl); (case hr => first | (go_simp; done) | (go_simp; rfl)); intro g hg w3 hbox hb; have m1_ := Aside0.mk (below_step HB.out hb); have m2_ := Aside0.mk (show IsW w.heap.size w3 g [] 0 from ⟨.slice none 0 0, hbox, (by rw [hg]; exact below_size HB.out), World.ownsRow_nil _ _ _ _⟩); clear HB hb hbox hg; have HB := m1_; have HW := m2_; clear m1_ m2_))
  have HK := Aside0.mk (KeepT.refl w3 g)
  have GE := Aside0.mk HW.out.ge
  go_loopw [14] (fun v14 wr => WiRel f l L 0 ([] ++ r) g w w3 v14 wr) (fun v14 _ => L - (intOf v14).toNat)
  case atStart => exact ⟨0, [], r, rfl, Int.le_refl _, by omega, HSB, ⟨rfl⟩, HW, HB, HK⟩
  case round =>
    unfold WiRel at hrel
    clear HSB HW HB HK
    obtain ⟨i, t1, r1, rfl, hi0, hi1, HR, HT, HW, HB, HK⟩ := hrel
    by_cases hlt : i < (L : Int)
    · have hlt' : i < (l.length : Int) := by rw [HL.out]; exact hlt
      have hb0 : decide (i < (L : Int)) = true := decide_eq_true hlt
      have hdr := drop_rd41 l i hi0 hlt'
      have HR0 := HR.out
      rw [hdr] at HR0
      unfold sB at HR0
      obtain ⟨ra, hra, HR0⟩ := Option.bind_eq_some_iff.mp HR0
      obtain ⟨rb, hrb, HR0⟩ := Option.bind_eq_some_iff.mp HR0
      have HR1 := Aside0.mk hra
      have HR2 := Aside0.mk hrb
      have HE := Aside0.mk (Option.some.inj HR0)
      obtain ⟨ad, A3, c3, A4, c4, A5, c5, eA, hx0, hx1, hx2, hx3, hx4, hx5, hl3, hi3, hl4, hi4, hl5, hi5⟩ := at_T41 HC.out i hi0 hlt'
      subst eA
      replace hx0 := (HB.out.cell (World.block_lt_of_cell? w _ hx0)).trans hx0
      replace hx1 := (HB.out.cell (World.block_lt_of_cell? w _ hx1)).trans hx1
      replace hx2 := (HB.out.cell (World.block_lt_of_cell? w _ hx2)).trans hx2
      replace hx3 := (HB.out.cell (World.block_lt_of_cell? w _ hx3)).trans hx3
      replace hx4 := (HB.out.cell (World.block_lt_of_cell? w _ hx4)).trans hx4
      replace hx5 := (HB.out.cell (World.block_lt_of_cell? w _ hx5)).trans hx5
      have HC3 := Aside0.mk hi3
      have HC4 := Aside0.mk hi4
      have HC5 := Aside0.mk hi5
      have HL3 := Aside0.mk hl3
      have HL4 := Aside0.mk hl4
      have HL5 := Aside0.mk hl5
      have p1 := eq_true hi0
      have p2 := eq_true hlt
      have HSZ := Aside0.mk (show t1.length + ra.length ≤ 1000000000 by
        have h1 := congrArg List.length HT.out
        have h2 := congrArg List.length HE.out
        have := HS.out
        simp only [List.length_append, List.length_nil] at h1 h2
        omega)
      clear hdr hra hrb HR0 hi3 hi4 hi5 hl3 hl4 hl5 HR
      go_wp2_with fail
      (with_reducible refine (SC.out.use (rd_T41 l i) A3 A4 A5 c3 c4 c5 0 ra t1 g w _ HR1.out (Int.le_refl _) (by omega) (by repeat (first | (with_reducible first | exact HW.out | apply IsW.alloc | apply IsW.drewN | apply IsW.drew) | exact HW.out)) (by repeat (first | (with_reducible first | exact HB.out | apply below_alloc | apply pw_below_drewN | apply below_drew1 | refine below_set ?_ GE.out) | exact HB.out)) HC3.out HC4.out HC5.out HL3.out HL4.out HL5.out HSZ.out).mono ?_)
      rintro e w5 ⟨rfl, hw5, hb5, hk5⟩
      have n0_ := Aside0.mk hw5
      have n1_ := Aside0.mk hb5
      have n2_ := Aside0.mk (KeepT.trans (show KeepT w3 _ g from by repeat (first | (with_reducible first | exact HK.out | apply KeepT.set | apply KeepT.drewN | apply KeepT.drew | apply KeepT.alloc) | exact HK.out)) hk5)
      clear HW HB HK hw5 hb5 hk5 hx0 hx1 hx2 hx3 hx4 hx5
      have HW := n0_
      have HB := n1_
      have HK := n2_
      clear n0_ n1_ n2_
      go_wp2
      go_roundw
      case rel => exact ⟨i + 1, t1 ++ ra, rb, by go_num, by omega, by omega, HR2, ⟨by rw [List.append_assoc, HE.out]; exact HT.out⟩, HW, HB, HK⟩
      case measure => simp [intOf]; omega
    · have hb0 : decide (i < (L : Int)) = false := decide_eq_false hlt
      have he : some ([] : List UInt8) = some r1 := by
        have := HR.out
        rw [List.drop_eq_nil_of_le (by have := HL.out; omega)] at this
        exact this
      have he1 := Option.some.inj he
      subst he1
      have ht := HT.out
      rw [List.append_nil, List.nil_append] at ht
      subst ht
      obtain ⟨v, hv⟩ := HW.out
      obtain ⟨Av, cv, ev⟩ := own_sl2 hv.2.2
      have hcv := conv_own hv.2.2
      have hcg0 : wr.cell? ⟨g, 0, none⟩ = some v := (blk_cell hv.1 0).trans rfl
      have hfg0 := blk_frozen hv.1 0
      obtain ⟨M, hM⟩ : ∃ M, M = (t1.map c8).length := ⟨_, rfl⟩
      have hM2 : M = t1.length := by rw [hM, List.length_map]
      rw [← hM] at ev
      subst ev
      have HM := Aside0.mk hM2
      clear he HT HR hM hM2 hv HW
      by_cases hbig : 8192 < t1.length
      · have hbb : decide ((8192 : Int) < (M : Int)) = true := decide_eq_true (by have := HM.out; omega)
        have hbc : decide (8192 < M) = true := decide_eq_true (by have := HM.out; omega)
        go_wp2
        go_ret2
        exact ⟨by rcases HRES.out with ⟨_, a, b⟩ | ⟨a, _⟩; (rw [a, b]; rfl); exact absurd hbig a, HB.out⟩
      · have hbb : decide ((8192 : Int) < (M : Int)) = false := decide_eq_false (by have := HM.out; omega)
        have hbc : decide (8192 < M) = false := decide_eq_false (by have := HM.out; omega)
        go_wp2
        go_ret2
        exact ⟨by rcases HRES.out with ⟨a, _⟩ | ⟨_, a, b⟩; exact absurd a (by omega); (rw [a, b]; rfl), HB.out⟩
end Go.Proofs.Ytobkdmmnbnpemaa.K
