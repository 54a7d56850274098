/- The writer's line, walked by hand. -/
import Derived.Test.YtobkdmmnbnpemaaXEC0
namespace Go.Proofs.Ytobkdmmnbnpemaa.K
open Go.RowKit Go.Proofs.YtobkdmmnbnpemaaW.PrintWords Go.Proofs.YtobkdmmnbnpemaaW.PrintLast Go.Proofs.YtobkdmmnbnpemaaW.PrintMore
attribute [local go_sem] max2_int min2_int max_two min_two max_three min_three max_four min_four
set_option linter.unusedVariables false
set_option linter.unusedSimpArgs false
def LPost (B : Nat) (g : Nat) (t : List UInt8) (n : Int) (w0 w : World) (e : Ending) (w' : World) : Prop := e = .returned (.tuple #[]) ∧ IsW B w' g t n ∧ Below w0.heap.size w0 w' ∧ KeepT w w' g
def L1Rel (t : List UInt8) (n : Int) (g : Nat) (w0 w : World) (v10 : Value) (w' : World) : Prop :=
  ∃ (i : Int) (v : Value), v10 = .int .i64 i ∧ 0 ≤ i ∧ i ≤ n ∧ Aside0 (WV w0.heap.size w' g v (t ++ List.replicate (2 * i.toNat) 32) n) ∧ Aside0 (Below w0.heap.size w0 w') ∧ Aside0 (KeepT w w' g)
def L2Rel (t : List UInt8) (n : Int) (parts : List ByteArray) (L : Nat) (g : Nat) (w0 w : World) (v23 : Value) (w' : World) : Prop :=
  ∃ (i : Int) (v : Value), v23 = .int .i64 i ∧ 0 ≤ i ∧ i ≤ (L : Int) ∧ Aside0 (WV w0.heap.size w' g v (t ++ List.replicate (2 * n.toNat) 32 ++ ((parts.take i.toNat).map lst).flatten) n) ∧ Aside0 (Below w0.heap.size w0 w') ∧ Aside0 (KeepT w w' g)
theorem flat_len : ∀ (ps : List ByteArray) (i : Nat), (((ps.take i).map lst).flatten).length ≤ ((ps.map lst).flatten).length
  | [], i => by simp
  | p :: ps, 0 => by simp
  | p :: ps, i + 1 => by
    have := flat_len ps i
    simp only [List.take_succ_cons, List.map_cons, List.flatten_cons, List.length_append]
    omega
theorem flat_at (ps : List ByteArray) (i : Nat) (h : i < ps.length) : ((ps.take i).map lst).flatten ++ lst (ps.getD i ⟨#[]⟩) = ((ps.take (i + 1)).map lst).flatten := by
  rw [List.take_succ_eq_append_getElem h, List.map_append, List.flatten_append, List.getD_eq_getElem?_getD, List.getElem?_eq_getElem h]
  simp
theorem sp_two (t : List UInt8) (i : Int) (h : 0 ≤ i) : t ++ List.replicate (2 * i.toNat) 32 ++ lst ⟨#[32, 32]⟩ = t ++ List.replicate (2 * (i + 1).toNat) 32 := by
  have e : 2 * (i + 1).toNat = 2 * i.toNat + 1 + 1 := by omega
  rw [e, List.replicate_succ', List.replicate_succ', List.append_assoc, List.append_assoc]
  rfl
theorem own_sl {W : World} {base : Nat} {e : TypeId} {size n : Nat} {v : Value} {xs : List Value} (h : W.ownsRow base e size v n xs) : ∃ A m c, v = .slice A m c := by
  rcases h.2 with ⟨rfl, _⟩ | ⟨g', cap, cur, rfl, _⟩
  · exact ⟨_, _, _, rfl⟩
  · exact ⟨_, _, _, rfl⟩
theorem map_ten (t : List UInt8) : (t ++ [10]).map c8 = t.map c8 ++ [10] := by simp [c8]
theorem info5b : (Try.prog.info? 5).map (fun i => (i.zero, i.size, i.bytes)) = some (some (.int .u8 0), 1, 1) := by kernel_rfl
set_option maxHeartbeats 8000000 in
set_option maxRecDepth 100000 in
theorem line_calls (t : List UInt8) (n : Int) (parts : List ByteArray) (b L g : Nat) (w0 w : World) (hn0 : 0 ≤ n) (hn1 : n ≤ 1000) (hL : parts.length = L) (hLs : L ≤ 10) (hW : IsW w0.heap.size w g t n) (hB : Below w0.heap.size w0 w)
    (hb : w.heap[b]? = some (.cells (parts.map Value.string).toArray 9 (0, 0))) (hs : t.length + ((parts.map lst).flatten).length ≤ 1000000000) :
    Calls Try.prog 59 #[.pointer (some ⟨g, 0, none⟩), .slice (some ⟨b, 0, none⟩) L L] w (LPost w0.heap.size g (t ++ lineB n parts) n w0 w) := by
  obtain ⟨v, hV⟩ := hW
  have hbg : b ≠ g := blk_ne hb hV.1 (by decide)
  have HBG := Aside0.mk hbg
  have HV := Aside0.mk hV
  have HB := Aside0.mk hB
  have HP := Aside0.mk hb
  have HL := Aside0.mk hL
  have HS := Aside0.mk hs
  have GE := Aside0.mk hV.2.1
  have HK := Aside0.mk (KeepT.refl w g)
  have hcg0 : w.cell? ⟨g, 0, none⟩ = some v := (blk_cell hV.1 0).trans rfl
  have hcg1 : w.cell? ⟨g, 1, none⟩ = some (.int .i64 n) := (blk_cell hV.1 1).trans rfl
  have hfg0 := blk_frozen hV.1 0
  have hfg1 := blk_frozen hV.1 1
  clear hV hB hb hL hs hbg
  go_enter Try.func59, Try.ntmps59
  go_wp2
  go_loopw [10] (fun v10 wr => L1Rel t n g w0 w v10 wr) (fun v10 _ => (n - intOf v10).toNat)
  case atStart => exact ⟨0, v, rfl, Int.le_refl _, hn0, ⟨by have := HV.out; simpa using this⟩, HB, HK⟩
  case round =>
    unfold L1Rel at hrel
    clear HV HB HK hcg0 hcg1 hfg0 hfg1
    obtain ⟨i, v, rfl, hi0, hi1, HV, HB, HK⟩ := hrel
    have hcg0 : wr.cell? ⟨g, 0, none⟩ = some v := (blk_cell HV.out.1 0).trans rfl
    have hcg1 : wr.cell? ⟨g, 1, none⟩ = some (.int .i64 n) := (blk_cell HV.out.1 1).trans rfl
    have hfg0 := blk_frozen HV.out.1 0
    have hfg1 := blk_frozen HV.out.1 1
    by_cases hlt : i < n
    · have hb0 : decide (i < n) = true := decide_eq_true hlt
      go_wp2_with (first | ((with_reducible refine gate_builtin (b := .append) (xs := #[.tmp 16, .const (.string ⟨#[32, 32]⟩)]) rfl ?_); at_builtin; refine print_append_str (w0 := w0) w0.heap.size rfl (.tmp 16) (.const (.string ⟨#[32, 32]⟩)) 62 9 5 rfl Try.underlying62 Try.underlying9 info5b v ((t ++ List.replicate (2 * i.toNat) 32).map c8) ⟨#[32, 32]⟩ rfl rfl HV.out.2.2 HB.out ?aS ?aL ?_; (case aS => exact below_size HB.out); (case aL => have := HS.out; simp only [List.length_map, List.length_append, List.length_replicate]; show _ + 2 ≤ _; omega); intro v1 w1 ho1 hb1 hg1; obtain ⟨A1, m1, c1, rfl⟩ := own_sl ho1; rw [← map_app, sp_two t i hi0] at ho1; have n0_ := Aside0.mk (WV.put HV.out ho1 hg1); have n1_ := Aside0.mk (below_set hb1 GE.out (j := 0) (v := .slice A1 m1 c1)); have n2_ := Aside0.mk ((KeepT.grown HK.out HV.out hg1).set 0 (.slice A1 m1 c1)); have hcn : w1.cell? ⟨g, 0, none⟩ = some v := (blk_cell (blk_grown HV.out.1 hg1 (WV.ne HV.out)) 0).trans rfl; have hfn := blk_frozen (blk_grown HV.out.1 hg1 (WV.ne HV.out)) 0; clear HV HB HK ho1 hb1 hg1 hcg0 hcg1 hfg0 hfg1; have HV := n0_; have HB := n1_; have HK := n2_; clear n0_ n1_ n2_))
      go_roundw
      case rel => exact ⟨i + 1, _, by go_num, by omega, by omega, HV, HB, HK⟩
      case measure => simp [intOf]; omega
    · have hb0 : decide (i < n) = false := decide_eq_false hlt
      have hin : i = n := by omega
      have HIN := Lib.hid hin
      clear hin
      go_wp2
      go_loopw [23] (fun v23 wr => L2Rel t n parts L g w0 w v23 wr) (fun v23 _ => L - (intOf v23).toNat)
      case atStart => exact ⟨0, v, rfl, Int.le_refl _, by omega, ⟨by have := HV.out; rw [HIN.out] at this; simpa using this⟩, HB, HK⟩
      case round =>
        unfold L2Rel at hrel
        clear HV HB HK hcg0 hcg1 hfg0 hfg1 HIN hi0 hi1 hlt hb0
        obtain ⟨k2, v2, rfl, hi0, hi1, HV, HB, HK⟩ := hrel
        have hcg0 : wr.cell? ⟨g, 0, none⟩ = some v2 := (blk_cell HV.out.1 0).trans rfl
        have hcg1 : wr.cell? ⟨g, 1, none⟩ = some (.int .i64 n) := (blk_cell HV.out.1 1).trans rfl
        have hfg0 := blk_frozen HV.out.1 0
        have hfg1 := blk_frozen HV.out.1 1
        by_cases hlt : k2 < (L : Int)
        · have hb0 : decide (k2 < (L : Int)) = true := decide_eq_true hlt
          have HLT := Aside0.mk (show k2.toNat < parts.length by rw [HL.out]; omega)
          have hcp : wr.cell? ⟨b, k2.toNat, none⟩ = some (.string (parts.getD k2.toNat ⟨#[]⟩)) := by
            refine (blk_cell (HK.out.blk HP.out HBG.out (by decide)) k2.toNat).trans ?_
            rw [List.getElem?_toArray, List.getElem?_map, List.getD_eq_getElem?_getD, List.getElem?_eq_getElem HLT.out]
            rfl
          have HLEN := Aside0.mk (show ((t ++ List.replicate (2 * n.toNat) 32 ++ ((parts.take k2.toNat).map lst).flatten).map c8).length + (parts.getD k2.toNat ⟨#[]⟩).size ≤ 140737488355328 by
            have h1 := flat_len parts (k2.toNat + 1)
            rw [← flat_at parts k2.toNat HLT.out, List.length_append, lst_len] at h1
            have := HS.out
            simp only [List.length_map, List.length_append, List.length_replicate] at h1 ⊢
            omega)
          have p1 := eq_true hi0
          have p2 := eq_true hlt
          go_wp2_with (first | ((with_reducible refine gate_builtin (b := .append) (xs := #[.tmp 31, .tmp 32]) rfl ?_); at_builtin; refine print_append_str (w0 := w0) w0.heap.size rfl (.tmp 31) (.tmp 32) 62 9 5 rfl Try.underlying62 Try.underlying9 info5b v2 ((t ++ List.replicate (2 * n.toNat) 32 ++ ((parts.take k2.toNat).map lst).flatten).map c8) (parts.getD k2.toNat ⟨#[]⟩) rfl rfl HV.out.2.2 HB.out ?aS ?aL ?_; (case aS => exact below_size HB.out); (case aL => exact HLEN.out); intro v1 w1 ho1 hb1 hg1; obtain ⟨A1, m1, c1, rfl⟩ := own_sl ho1; rw [← map_app, List.append_assoc, flat_at parts k2.toNat HLT.out] at ho1; have n0_ := Aside0.mk (WV.put HV.out ho1 hg1); have n1_ := Aside0.mk (below_set hb1 GE.out (j := 0) (v := .slice A1 m1 c1)); have n2_ := Aside0.mk ((KeepT.grown HK.out HV.out hg1).set 0 (.slice A1 m1 c1)); have hcn : w1.cell? ⟨g, 0, none⟩ = some v2 := (blk_cell (blk_grown HV.out.1 hg1 (WV.ne HV.out)) 0).trans rfl; have hfn := blk_frozen (blk_grown HV.out.1 hg1 (WV.ne HV.out)) 0; clear HV HB HK ho1 hb1 hg1 hcg0 hcg1 hfg0 hfg1; have HV := n0_; have HB := n1_; have HK := n2_; clear n0_ n1_ n2_))
          go_roundw
          case rel => exact ⟨k2 + 1, _, by go_num, by omega, by omega, ⟨by have := HV.out; rw [show (k2 + 1).toNat = k2.toNat + 1 by omega]; exact this⟩, HB, HK⟩
          case measure => simp [intOf]; omega
        · have hb0 : decide (k2 < (L : Int)) = false := decide_eq_false hlt
          obtain ⟨TT, hTT⟩ : ∃ TT, TT = t ++ List.replicate (2 * n.toNat) 32 ++ (parts.map lst).flatten := ⟨_, rfl⟩
          have hfull : t ++ List.replicate (2 * n.toNat) 32 ++ ((parts.take k2.toNat).map lst).flatten = TT := by rw [hTT, List.take_of_length_le (by have := HL.out; omega)]
          have HV2 := Aside0.mk (show WV w0.heap.size wr g v2 TT n by have := HV.out; rw [hfull] at this; exact this)
          have HLEN := Aside0.mk (show ((TT.map c8).length + 1) * 1 ≤ 140737488355328 by
            have := HS.out
            rw [hTT]
            simp only [List.length_map, List.length_append, List.length_replicate]
            omega)
          have HTT := Aside0.mk (show TT ++ [10] = t ++ lineB n parts by rw [hTT]; unfold lineB; simp only [List.append_assoc])
          clear hTT hfull HV
          have HV := HV2
          clear HV2
          go_wp2_with (first | ((with_reducible refine gate_builtin (b := .append) (xs := #[.tmp 41, .tmp 42]) rfl ?_); at_builtin; refine print_append_num (w0 := w0) w0.heap.size rfl (.tmp 41) (.tmp 42) 62 5 .u8 1 rfl Try.underlying62 info5b (by decide) v2 (TT.map c8) 10 rfl rfl HV.out.2.2 HB.out ?aS ?aL ?_; (case aS => exact below_size HB.out); (case aL => exact HLEN.out); intro v1 w1 ho1 hb1 hg1 _; obtain ⟨A1, m1, c1, rfl⟩ := own_sl ho1; rw [← map_ten] at ho1; have n0_ := Aside0.mk (WV.put HV.out ho1 hg1); have n1_ := Aside0.mk (below_set hb1 GE.out (j := 0) (v := .slice A1 m1 c1)); have n2_ := Aside0.mk ((KeepT.grown HK.out HV.out hg1).set 0 (.slice A1 m1 c1)); have hcn : w1.cell? ⟨g, 0, none⟩ = some v2 := (blk_cell (blk_grown HV.out.1 hg1 (WV.ne HV.out)) 0).trans rfl; have hfn := blk_frozen (blk_grown HV.out.1 hg1 (WV.ne HV.out)) 0; clear HV HB HK ho1 hb1 hg1 hcg0 hcg1 hfg0 hfg1; have HV := n0_; have HB := n1_; have HK := n2_; clear n0_ n1_ n2_))
          go_end0
          exact ⟨rfl, ⟨_, by rw [← HTT.out]; exact HV.out⟩, HB.out, HK.out⟩
end Go.Proofs.Ytobkdmmnbnpemaa.K
