/- The reference's Cut, walked by hand: one round's ways as an inductive fact, each way walked for itself. -/
import Derived.Test.YtclhpdnldnifcaaCutF
import Derived.Lib.Hide
namespace Go.Proofs.Ytclhpdnldnifcaa.K
open Go.RowKit Go.Proofs.YtclhpdnldnifcaaW.PrintWords Go.Proofs.YtclhpdnldnifcaaW.PrintLast Go.Proofs.YtclhpdnldnifcaaW.PrintMore
attribute [local go_sem] max2_int min2_int max_two min_two max_three min_three max_four min_four
set_option linter.unusedVariables false
set_option linter.unusedSimpArgs false

def RGoes (k : Nat) (s : ByteArray) (acc : List S33) (x j : Int) (T : ByteArray) (kd v : Int) (r : List S33 × Int × Int) : Prop :=
  acc.length < 3518437208883 ∧ ∃ t, outriderref03_gap.f k s j = some t ∧ outriderref03_Cut.l0 k s (acc ++ [⟨kd, T, v, x⟩]) t = some r
/-- What one round of the reference's Cut does, behind the longest text. -/
inductive RWay (k : Nat) (s : ByteArray) (acc : List S33) (x N j : Int) (T : ByteArray) (r : List S33 × Int × Int) : Prop
  | bad (v e : Int) : outriderref03_digits.f k T = some true → outriderref01_Parse.f k T = some (v, e) → e ≠ 0 → r = ([], x, 33) → RWay k s acc x N j T r
  | lets (v : Int) : outriderref03_digits.f k T = some true → outriderref01_Parse.f k T = some (v, 0) → j < (s.size : Int) → outriderref03_letter.f (bt s j) = some true → r = ([], j, 31) → RWay k s acc x N j T r
  | num (v : Int) : outriderref03_digits.f k T = some true → outriderref01_Parse.f k T = some (v, 0) → j < (s.size : Int) → outriderref03_letter.f (bt s j) = some false → RGoes k s acc x j T 1 v r → RWay k s acc x N j T r
  | last (v : Int) : outriderref03_digits.f k T = some true → outriderref01_Parse.f k T = some (v, 0) → ¬ j < (s.size : Int) → RGoes k s acc x j T 1 v r → RWay k s acc x N j T r
  | word : outriderref03_digits.f k T = some false → outriderref03_Words.f k T = some true → RGoes k s acc x j T 3 0 r → RWay k s acc x N j T r
  | long : outriderref03_digits.f k T = some false → outriderref03_Words.f k T = some false → outriderref03_row.f k T = some true → N > 12 → r = ([], x, 32) → RWay k s acc x N j T r
  | name : outriderref03_digits.f k T = some false → outriderref03_Words.f k T = some false → outriderref03_row.f k T = some true → ¬ N > 12 → RGoes k s acc x j T 2 0 r → RWay k s acc x N j T r
  | sign : outriderref03_digits.f k T = some false → outriderref03_Words.f k T = some false → outriderref03_row.f k T = some false → RGoes k s acc x j T 4 0 r → RWay k s acc x N j T r
theorem rgoes_of {k : Nat} {s : ByteArray} {acc : List S33} {x j : Int} {T : ByteArray} {kd v : Int} {r : List S33 × Int × Int}
    (H : (if acc.length < 3518437208883 then ((outriderref03_gap.f k s j).bind fun t => outriderref03_Cut.l0 k s (acc ++ [⟨kd, T, v, x⟩]) t) else none) = some r) : RGoes k s acc x j T kd v r := by
  by_cases c : acc.length < 3518437208883
  · rw [if_pos c] at H
    obtain ⟨t, h1, h2⟩ := Option.bind_eq_some_iff.mp H
    exact ⟨c, t, h1, h2⟩
  · rw [if_neg c] at H; simp at H
theorem rcut_way {k : Nat} {s : ByteArray} {acc : List S33} {x : Int} {r : List S33 × Int × Int} (H : outriderref03_Cut.l0 (k + 1) s acc x = some r) :
    (¬ x < (s.size : Int) ∧ acc.length < 3518437208883 ∧ r = (acc ++ [⟨0, ⟨#[]⟩, 0, (s.size : Int)⟩], 0, 0)) ∨
    (x < (s.size : Int) ∧ outriderref03_longest.f k s x = some 0 ∧ r = ([], x, 31)) ∨
    (∃ N j T, x < (s.size : Int) ∧ outriderref03_longest.f k s x = some N ∧ N ≠ 0 ∧ 0 ≤ x ∧ j = wrap64 (x + N) ∧ x ≤ j ∧ j ≤ (s.size : Int) ∧ T = s.extract x.toNat j.toNat ∧ RWay k s acc x N j T r) := by
  rw [outriderref03_Cut.l0] at H
  by_cases c1 : x < (s.size : Int)
  · rw [if_pos c1] at H
    obtain ⟨N, h1, H⟩ := Option.bind_eq_some_iff.mp H
    by_cases c2 : N = 0
    · rw [if_pos c2] at H
      subst c2
      exact .inr (.inl ⟨c1, h1, (Option.some.inj H).symm⟩)
    · rw [if_neg c2] at H
      refine .inr (.inr ⟨N, wrap64 (x + N), s.extract x.toNat (wrap64 (x + N)).toNat, c1, h1, c2, ?_⟩)
      generalize hj : wrap64 (x + N) = j at *
      generalize hT : s.extract x.toNat j.toNat = T at *
      by_cases c3 : 0 ≤ x
      · rw [if_pos c3] at H
        by_cases c4 : x ≤ j
        · rw [if_pos c4] at H
          by_cases c5 : j ≤ (s.size : Int)
          · rw [if_pos c5] at H
            refine ⟨c3, rfl, c4, c5, rfl, ?_⟩
            obtain ⟨d, h2, H⟩ := Option.bind_eq_some_iff.mp H
            cases d with
            | true =>
              rw [if_pos rfl] at H
              obtain ⟨⟨v, e⟩, h3, H⟩ := Option.bind_eq_some_iff.mp H
              by_cases c6 : e = 0
              · subst c6
                rw [if_pos rfl] at H
                by_cases c7 : j < (s.size : Int)
                · rw [if_pos c7] at H
                  by_cases c8 : 0 ≤ j
                  · rw [if_pos c8] at H
                    obtain ⟨b, h4, H⟩ := Option.bind_eq_some_iff.mp H
                    cases b with
                    | true => rw [if_pos rfl] at H; exact .lets v h2 h3 c7 h4 (Option.some.inj H).symm
                    | false => rw [if_neg (by simp)] at H; exact .num v h2 h3 c7 h4 (rgoes_of H)
                  · rw [if_neg c8] at H; simp at H
                · rw [if_neg c7] at H; exact .last v h2 h3 c7 (rgoes_of H)
              · rw [if_neg c6] at H; exact .bad v e h2 h3 c6 (Option.some.inj H).symm
            | false =>
              rw [if_neg (by simp)] at H
              obtain ⟨b, h4, H⟩ := Option.bind_eq_some_iff.mp H
              cases b with
              | true => rw [if_pos rfl] at H; exact .word h2 h4 (rgoes_of H)
              | false =>
                rw [if_neg (by simp)] at H
                obtain ⟨b, h5, H⟩ := Option.bind_eq_some_iff.mp H
                cases b with
                | true =>
                  rw [if_pos rfl] at H
                  by_cases c6 : N > 12
                  · rw [if_pos c6] at H; exact .long h2 h4 h5 c6 (Option.some.inj H).symm
                  · rw [if_neg c6] at H; exact .name h2 h4 h5 c6 (rgoes_of H)
                | false => rw [if_neg (by simp)] at H; exact .sign h2 h4 h5 (rgoes_of H)
          · rw [if_neg c5] at H; simp at H
        · rw [if_neg c4] at H; simp at H
      · rw [if_neg c3] at H; simp at H
  · rw [if_neg c1] at H
    by_cases c : acc.length < 3518437208883
    · rw [if_pos c] at H; exact .inl ⟨c1, c, (Option.some.inj H).symm⟩
    · rw [if_neg c] at H; simp at H

def RPost (r : List S33 × Int × Int) (w : World) (e : Ending) (w' : World) : Prop :=
  ∃ v : Value, e = .returned (.tuple #[v, .int .i64 r.2.1, .int .i64 r.2.2]) ∧ Kd.R k33 33 w' w.heap.size (fun _ => True) v r.1 ∧ Below w.heap.size w w'
def RRel (s : ByteArray) (r : List S33 × Int × Int) (w : World) (k kq : Nat) (v5 v6 : Value) (w' : World) : Prop :=
  ∃ (acc : List S33) (x : Int), v6 = .int .i64 x ∧ Aside0 (outriderref03_Cut.l0 kq s acc x = some r) ∧ Aside0 (kq ≤ k) ∧ Aside0 (Kd.R k33 33 w' w.heap.size (fun _ => True) v5 acc) ∧ Aside0 (Below w.heap.size w w')

set_option maxHeartbeats 4000000 in
set_option maxRecDepth 100000 in
theorem rcut_walk (k : Nat) (s : ByteArray) (r : List S33 × Int × Int) (w : World) (h : ¬ 8192 < s.size) (a : Int) (hg : outriderref03_gap.f k s 0 = some a) (hr : outriderref03_Cut.l0 k s [] a = some r) : Calls Try.prog 9 #[.string s] w (RPost r w) := by
  have hu33 := Try.underlying33
  have h' : ¬ (8192 : Int) < (s.size : Int) := by omega
  have HR := Aside0.mk hr
  have HG := Aside0.mk hg
  have HB := Aside0.mk (Below.refl w.heap.size w)
  clear hr hg
  go_enter Try.func9, Try.ntmps9
  go_wp2_with fail
  refine (outriderref03_gap.calls k s 0 a _ HG.out).mono ?_
  rintro e w' ⟨rfl, ⟨nd, rfl⟩⟩
  go_wp2
  go_loopg [5, 6] k (fun kq v5 v6 w' => RRel s r w k kq v5 v6 w')
  case atStart => exact ⟨[], a, rfl, HR, ⟨Nat.le_refl _⟩, ⟨Kd.R_nil _ _ _ _ _⟩, ⟨pw_below_drewN HB.out _⟩⟩
  case round =>
    clear HR HG HB h h'
    unfold RRel at hrel
    obtain ⟨acc, x, rfl, HA, HK1, HO, HB⟩ := hrel
    cases gk with
    | zero => exact absurd HA.out (by simp [outriderref03_Cut.l0])
    | succ k1 =>
      have hway := rcut_way HA.out
      clear HA
      rcases hway with ⟨c1, hl, hr⟩ | ⟨c1, h1, hr⟩ | ⟨N, j, T, c1, h1, c6, c7, hj, c8, c9, hT, hw⟩
      · have c1b : decide (x < (s.size : Int)) = false := decide_eq_false c1
        subst hr
        have AL := Aside0.mk hl
        clear c1 hl
        go_wp2_with (first | ((with_reducible refine gate_builtin (b := .append) (xs := #[.tmp 90, .tmp 94]) rfl ?_); at_builtin; refine Kd.R_append k33 (w0 := w) w.heap.size rfl (.tmp 90) (.tmp 94) 22 33 (.agg #[(.int .i64 0), (.string ⟨#[]⟩), (.int .i64 0), (.int .i64 0)]) 40 rfl Try.underlying22 info33 rfl (by decide) (by omega) u5 acc (⟨0, (⟨#[]⟩ : ByteArray), 0, (s.size : Int)⟩ : S33) [.int .i64 0, .string (⟨#[]⟩ : ByteArray), .int .i64 0, .int .i64 (s.size : Int)] (fun _ => True) (fun _ => False) rfl rfl ?aP (fun _ hk => hk.elim) ?aF ?aO ?aB ?aS ?aL ?_; (case aP => exact k33_mkM _ _ _ _); (case aF => exact (fun _ _ => trivial)); (case aO => exact (by (with_reducible repeat (first | apply Kd.R_alloc | apply Kd.R_drewN | apply Kd.R_drew)); exact HO.out)); (case aB => exact (by repeat (first | (with_reducible first | exact HB.out | apply below_alloc | apply pw_below_drewN | apply below_drew1) | exact HB.out))); (case aS => exact (below_size (by repeat (first | (with_reducible first | exact HB.out | apply below_alloc | apply pw_below_drewN | apply below_drew1) | exact HB.out)))); (case aL => have := AL.out; omega); intro v9 w9 ho9 hb9 hg9 hat9; have m1_ := Aside0.mk ho9; have m2_ := Aside0.mk hb9; clear HB HO ho9 hb9 hg9 hat9; have HO := m1_; have HB := m2_; clear m1_ m2_))
        go_ret3
        exact ⟨_, rfl, by (with_reducible repeat (first | apply Kd.R_alloc | apply Kd.R_drewN | apply Kd.R_drew)); exact HO.out, by repeat (first | (with_reducible first | exact HB.out | apply below_alloc | apply pw_below_drewN | apply below_drew1) | exact HB.out)⟩
      · have c1b : decide (x < (s.size : Int)) = true := decide_eq_true c1
        have A1 := Aside0.mk h1
        subst hr
        clear c1 h1
        go_wp2_with fail
        (with_reducible refine (outriderref03_longest.calls k1 s x 0 _ A1.out).mono ?_)
        rintro e w' ⟨rfl, ⟨nd, rfl⟩⟩
        go_wp2
        go_ret3
        exact ⟨_, rfl, Kd.R_nil _ _ _ _ _, by repeat (first | (with_reducible first | exact HB.out | apply below_alloc | apply pw_below_drewN | apply below_drew1) | exact HB.out)⟩
      · have c1b : decide (x < (s.size : Int)) = true := decide_eq_true c1
        have A1 := Aside0.mk h1
        have HT := Aside0.mk hT
        have c6b0 : (N == 0) = false := beq_eq_false_iff_ne.mpr c6
        have c6b1 : (N != 0) = true := bne_iff_ne.mpr c6
        have c7b0 := eq_true c7
        have c7b1 : decide (0 ≤ x) = true := decide_eq_true c7
        have c8b0 := eq_true c8
        have c8b1 : decide (x ≤ j) = true := decide_eq_true c8
        have c9b0 := eq_true c9
        have c9b1 : decide (j ≤ (s.size : Int)) = true := decide_eq_true c9
        have hji : wrap64 (x + N) = j := hj.symm
        have hjiw : IntKind.i64.wrap (x + N) = j := (i64_w _).trans hji
        have c16 : (0 : Int) ≤ j := by omega
        have c16b0 : decide (0 ≤ j) = true := decide_eq_true c16
        clear c1 h1 c7 hj hT
        cases hw with
        | bad v ee h2 h3 h4 hr =>
          have A2 := Aside0.mk h2
          have A3 := Aside0.mk h3
          have e1 : (ee == 0) = false := beq_eq_false_iff_ne.mpr h4
          have e2 : (ee != 0) = true := bne_iff_ne.mpr h4
          subst hr
          clear h2 h3 h4
          clear c16
          go_wp2_with fail
          (with_reducible (with_reducible refine (outriderref03_longest.calls k1 s x N _ A1.out).mono ?_))
          rintro e w' ⟨rfl, ⟨nd, rfl⟩⟩
          go_wp2_with (first | ((with_reducible refine gate_dst (N := 8) rfl ?_); refine box_event ?hg (N := 8) ?hd (cs := #[.int .i64 0, .string (⟨#[]⟩ : ByteArray), .int .i64 0, .int .i64 0]) (t := 33) ?hr ?_; (case hd => rfl); (case hg => rfl); (case hr => first | (go_simp; done) | (go_simp; rfl)); intro gb hg w24 hbox hb; have n0_ := Aside0.mk (Kd.R_below (Kd.R_elderB (by (with_reducible repeat (first | apply Kd.R_alloc | apply Kd.R_drewN | apply Kd.R_drew)); exact HO.out) gb (Nat.le_of_eq hg.symm)) hb); have n1_ := Aside0.mk (below_step (by repeat (first | (with_reducible first | exact HB.out | apply below_alloc | apply pw_below_drewN | apply below_drew1) | exact HB.out)) hb); have n2_ := Aside0.mk hbox; have n3_ := Aside0.mk ((by rw [hg]; exact (below_size (by repeat (first | (with_reducible first | exact HB.out | apply below_alloc | apply pw_below_drewN | apply below_drew1) | exact HB.out))) : w.heap.size ≤ gb)); clear HO HB; have HO := n0_; have HB := n1_; have BK := n2_; have GE := n3_; clear n0_ n1_ n2_ n3_; clear hb hbox hg; have hcz0 : w24.cell? ⟨gb, 0, none⟩ = some (.int .i64 0) := (blk_cell BK.out 0).trans rfl; have hcz1 : w24.cell? ⟨gb, 1, none⟩ = some (.string (⟨#[]⟩ : ByteArray)) := (blk_cell BK.out 1).trans rfl; have hcz2 : w24.cell? ⟨gb, 2, none⟩ = some (.int .i64 0) := (blk_cell BK.out 2).trans rfl; have hcz3 : w24.cell? ⟨gb, 3, none⟩ = some (.int .i64 0) := (blk_cell BK.out 3).trans rfl; have hfz0 := blk_frozen BK.out 0; have hfz1 := blk_frozen BK.out 1; have hfz2 := blk_frozen BK.out 2; have hfz3 := blk_frozen BK.out 3))
          generalize hq : World.setCell _ ⟨gb, 3, none⟩ (.int .i64 x) = wt
          have n0_ := Aside0.mk (show wt.heap[gb]? = some (.cells #[.int .i64 0, .string (s.extract x.toNat j.toNat), .int .i64 0, .int .i64 x] 33 (0, 0)) by rw [← hq]; refine blk_put (cs := #[.int .i64 0, .string (s.extract x.toNat j.toNat), .int .i64 0, .int .i64 0]) ?_ 3 _ rfl; refine blk_put (cs := #[.int .i64 0, .string (s.extract x.toNat j.toNat), .int .i64 0, .int .i64 0]) ?_ 2 _ rfl; refine blk_put (cs := #[.int .i64 0, .string (⟨#[]⟩ : ByteArray), .int .i64 0, .int .i64 0]) ?_ 1 _ rfl; refine blk_put (cs := #[.int .i64 0, .string (⟨#[]⟩ : ByteArray), .int .i64 0, .int .i64 0]) ?_ 0 _ rfl; exact BK.out)
          have n1_ := Aside0.mk (show Below w.heap.size w wt by rw [← hq]; repeat (first | (with_reducible first | exact HB.out | apply below_alloc | apply pw_below_drewN | apply below_drew1 | refine below_set ?_ GE.out) | exact HB.out))
          have n2_ := Aside0.mk (show Kd.R k33 33 wt w.heap.size (fun k => True ∧ k ≠ gb) u5 acc by rw [← hq]; exact (Kd.R_far (p := ⟨gb, 3, none⟩) (Kd.R_far (p := ⟨gb, 2, none⟩) (Kd.R_far (p := ⟨gb, 1, none⟩) (Kd.R_far (p := ⟨gb, 0, none⟩) HO.out (fun _ hk => hk.2) _) (fun _ hk => hk.2) _) (fun _ hk => hk.2) _) (fun _ hk => hk.2) _))
          clear hq BK HB HO hcz0 hcz1 hcz2 hcz3 hfz0 hfz1 hfz2 hfz3
          have BK := n0_
          have HB := n1_
          have HO := n2_
          clear n0_ n1_ n2_
          rw [← HT.out] at BK
          rw [← HT.out]
          have hcz0 : wt.cell? ⟨gb, 0, none⟩ = some (.int .i64 0) := (blk_cell BK.out 0).trans rfl
          have hcz1 : wt.cell? ⟨gb, 1, none⟩ = some (.string T) := (blk_cell BK.out 1).trans rfl
          have hcz2 : wt.cell? ⟨gb, 2, none⟩ = some (.int .i64 0) := (blk_cell BK.out 2).trans rfl
          have hcz3 : wt.cell? ⟨gb, 3, none⟩ = some (.int .i64 x) := (blk_cell BK.out 3).trans rfl
          have hfz0 := blk_frozen BK.out 0
          have hfz1 := blk_frozen BK.out 1
          have hfz2 := blk_frozen BK.out 2
          have hfz3 := blk_frozen BK.out 3
          (with_reducible refine (outriderref03_digits.calls k1 T true _ A2.out).mono ?_)
          rintro e w' ⟨rfl, ⟨nd1, rfl⟩⟩
          go_wp2_with fail
          (with_reducible refine (outriderref01_Parse.calls k1 T v ee _ A3.out).mono ?_)
          rintro e w' ⟨rfl, ⟨nd2, rfl⟩⟩
          go_wp2
          go_ret3
          exact ⟨_, rfl, Kd.R_nil _ _ _ _ _, by repeat (first | (with_reducible first | exact HB.out | apply below_alloc | apply pw_below_drewN | apply below_drew1 | refine below_set ?_ GE.out) | exact HB.out)⟩
        | lets v h2 h3 h4 h5 hr =>
          have A2 := Aside0.mk h2
          have A3 := Aside0.mk h3
          have A4 := Aside0.mk h5
          have c14b0 : decide (j < (s.size : Int)) = true := decide_eq_true h4
          have p17 := eq_true c16
          have q17 := eq_true h4
          have hx17 := bt_at s j
          subst hr
          clear h2 h3 h4 h5
          clear c16
          go_wp2_with fail
          (with_reducible (with_reducible refine (outriderref03_longest.calls k1 s x N _ A1.out).mono ?_))
          rintro e w' ⟨rfl, ⟨nd, rfl⟩⟩
          go_wp2_with (first | ((with_reducible refine gate_dst (N := 8) rfl ?_); refine box_event ?hg (N := 8) ?hd (cs := #[.int .i64 0, .string (⟨#[]⟩ : ByteArray), .int .i64 0, .int .i64 0]) (t := 33) ?hr ?_; (case hd => rfl); (case hg => rfl); (case hr => first | (go_simp; done) | (go_simp; rfl)); intro gb hg w24 hbox hb; have n0_ := Aside0.mk (Kd.R_below (Kd.R_elderB (by (with_reducible repeat (first | apply Kd.R_alloc | apply Kd.R_drewN | apply Kd.R_drew)); exact HO.out) gb (Nat.le_of_eq hg.symm)) hb); have n1_ := Aside0.mk (below_step (by repeat (first | (with_reducible first | exact HB.out | apply below_alloc | apply pw_below_drewN | apply below_drew1) | exact HB.out)) hb); have n2_ := Aside0.mk hbox; have n3_ := Aside0.mk ((by rw [hg]; exact (below_size (by repeat (first | (with_reducible first | exact HB.out | apply below_alloc | apply pw_below_drewN | apply below_drew1) | exact HB.out))) : w.heap.size ≤ gb)); clear HO HB; have HO := n0_; have HB := n1_; have BK := n2_; have GE := n3_; clear n0_ n1_ n2_ n3_; clear hb hbox hg; have hcz0 : w24.cell? ⟨gb, 0, none⟩ = some (.int .i64 0) := (blk_cell BK.out 0).trans rfl; have hcz1 : w24.cell? ⟨gb, 1, none⟩ = some (.string (⟨#[]⟩ : ByteArray)) := (blk_cell BK.out 1).trans rfl; have hcz2 : w24.cell? ⟨gb, 2, none⟩ = some (.int .i64 0) := (blk_cell BK.out 2).trans rfl; have hcz3 : w24.cell? ⟨gb, 3, none⟩ = some (.int .i64 0) := (blk_cell BK.out 3).trans rfl; have hfz0 := blk_frozen BK.out 0; have hfz1 := blk_frozen BK.out 1; have hfz2 := blk_frozen BK.out 2; have hfz3 := blk_frozen BK.out 3))
          generalize hq : World.setCell _ ⟨gb, 3, none⟩ (.int .i64 x) = wt
          have n0_ := Aside0.mk (show wt.heap[gb]? = some (.cells #[.int .i64 0, .string (s.extract x.toNat j.toNat), .int .i64 0, .int .i64 x] 33 (0, 0)) by rw [← hq]; refine blk_put (cs := #[.int .i64 0, .string (s.extract x.toNat j.toNat), .int .i64 0, .int .i64 0]) ?_ 3 _ rfl; refine blk_put (cs := #[.int .i64 0, .string (s.extract x.toNat j.toNat), .int .i64 0, .int .i64 0]) ?_ 2 _ rfl; refine blk_put (cs := #[.int .i64 0, .string (⟨#[]⟩ : ByteArray), .int .i64 0, .int .i64 0]) ?_ 1 _ rfl; refine blk_put (cs := #[.int .i64 0, .string (⟨#[]⟩ : ByteArray), .int .i64 0, .int .i64 0]) ?_ 0 _ rfl; exact BK.out)
          have n1_ := Aside0.mk (show Below w.heap.size w wt by rw [← hq]; repeat (first | (with_reducible first | exact HB.out | apply below_alloc | apply pw_below_drewN | apply below_drew1 | refine below_set ?_ GE.out) | exact HB.out))
          have n2_ := Aside0.mk (show Kd.R k33 33 wt w.heap.size (fun k => True ∧ k ≠ gb) u5 acc by rw [← hq]; exact (Kd.R_far (p := ⟨gb, 3, none⟩) (Kd.R_far (p := ⟨gb, 2, none⟩) (Kd.R_far (p := ⟨gb, 1, none⟩) (Kd.R_far (p := ⟨gb, 0, none⟩) HO.out (fun _ hk => hk.2) _) (fun _ hk => hk.2) _) (fun _ hk => hk.2) _) (fun _ hk => hk.2) _))
          clear hq BK HB HO hcz0 hcz1 hcz2 hcz3 hfz0 hfz1 hfz2 hfz3
          have BK := n0_
          have HB := n1_
          have HO := n2_
          clear n0_ n1_ n2_
          rw [← HT.out] at BK
          rw [← HT.out]
          have hcz0 : wt.cell? ⟨gb, 0, none⟩ = some (.int .i64 0) := (blk_cell BK.out 0).trans rfl
          have hcz1 : wt.cell? ⟨gb, 1, none⟩ = some (.string T) := (blk_cell BK.out 1).trans rfl
          have hcz2 : wt.cell? ⟨gb, 2, none⟩ = some (.int .i64 0) := (blk_cell BK.out 2).trans rfl
          have hcz3 : wt.cell? ⟨gb, 3, none⟩ = some (.int .i64 x) := (blk_cell BK.out 3).trans rfl
          have hfz0 := blk_frozen BK.out 0
          have hfz1 := blk_frozen BK.out 1
          have hfz2 := blk_frozen BK.out 2
          have hfz3 := blk_frozen BK.out 3
          (with_reducible refine (outriderref03_digits.calls k1 T true _ A2.out).mono ?_)
          rintro e w' ⟨rfl, ⟨nd1, rfl⟩⟩
          go_wp2_with fail
          (with_reducible refine (outriderref01_Parse.calls k1 T v 0 _ A3.out).mono ?_)
          rintro e w' ⟨rfl, ⟨nd2, rfl⟩⟩
          go_wp2_with fail
          (with_reducible refine (outriderref03_letter.calls (bt s j) true _ A4.out).mono ?_)
          rintro e w' ⟨rfl, ⟨nd3, rfl⟩⟩
          go_wp2
          go_ret3
          exact ⟨_, rfl, Kd.R_nil _ _ _ _ _, by repeat (first | (with_reducible first | exact HB.out | apply below_alloc | apply pw_below_drewN | apply below_drew1 | refine below_set ?_ GE.out) | exact HB.out)⟩
        | num v h2 h3 h4 h5 hgo =>
          have A2 := Aside0.mk h2
          have A3 := Aside0.mk h3
          have A4 := Aside0.mk h5
          have c14b0 : decide (j < (s.size : Int)) = true := decide_eq_true h4
          have p17 := eq_true c16
          have q17 := eq_true h4
          have hx17 := bt_at s j
          obtain ⟨hlen, t, hg1, hg2⟩ := hgo
          have GO_ := Aside0.mk (And.intro hlen trivial)
          have AG := Aside0.mk hg1
          have AN := Aside0.mk hg2
          clear hlen hg1 hg2
          clear h2 h3 h4 h5
          clear c16
          go_wp2_with fail
          (with_reducible (with_reducible refine (outriderref03_longest.calls k1 s x N _ A1.out).mono ?_))
          rintro e w' ⟨rfl, ⟨nd, rfl⟩⟩
          go_wp2_with (first | ((with_reducible refine gate_dst (N := 8) rfl ?_); refine box_event ?hg (N := 8) ?hd (cs := #[.int .i64 0, .string (⟨#[]⟩ : ByteArray), .int .i64 0, .int .i64 0]) (t := 33) ?hr ?_; (case hd => rfl); (case hg => rfl); (case hr => first | (go_simp; done) | (go_simp; rfl)); intro gb hg w24 hbox hb; have n0_ := Aside0.mk (Kd.R_below (Kd.R_elderB (by (with_reducible repeat (first | apply Kd.R_alloc | apply Kd.R_drewN | apply Kd.R_drew)); exact HO.out) gb (Nat.le_of_eq hg.symm)) hb); have n1_ := Aside0.mk (below_step (by repeat (first | (with_reducible first | exact HB.out | apply below_alloc | apply pw_below_drewN | apply below_drew1) | exact HB.out)) hb); have n2_ := Aside0.mk hbox; have n3_ := Aside0.mk ((by rw [hg]; exact (below_size (by repeat (first | (with_reducible first | exact HB.out | apply below_alloc | apply pw_below_drewN | apply below_drew1) | exact HB.out))) : w.heap.size ≤ gb)); clear HO HB; have HO := n0_; have HB := n1_; have BK := n2_; have GE := n3_; clear n0_ n1_ n2_ n3_; clear hb hbox hg; have hcz0 : w24.cell? ⟨gb, 0, none⟩ = some (.int .i64 0) := (blk_cell BK.out 0).trans rfl; have hcz1 : w24.cell? ⟨gb, 1, none⟩ = some (.string (⟨#[]⟩ : ByteArray)) := (blk_cell BK.out 1).trans rfl; have hcz2 : w24.cell? ⟨gb, 2, none⟩ = some (.int .i64 0) := (blk_cell BK.out 2).trans rfl; have hcz3 : w24.cell? ⟨gb, 3, none⟩ = some (.int .i64 0) := (blk_cell BK.out 3).trans rfl; have hfz0 := blk_frozen BK.out 0; have hfz1 := blk_frozen BK.out 1; have hfz2 := blk_frozen BK.out 2; have hfz3 := blk_frozen BK.out 3))
          generalize hq : World.setCell _ ⟨gb, 3, none⟩ (.int .i64 x) = wt
          have n0_ := Aside0.mk (show wt.heap[gb]? = some (.cells #[.int .i64 0, .string (s.extract x.toNat j.toNat), .int .i64 0, .int .i64 x] 33 (0, 0)) by rw [← hq]; refine blk_put (cs := #[.int .i64 0, .string (s.extract x.toNat j.toNat), .int .i64 0, .int .i64 0]) ?_ 3 _ rfl; refine blk_put (cs := #[.int .i64 0, .string (s.extract x.toNat j.toNat), .int .i64 0, .int .i64 0]) ?_ 2 _ rfl; refine blk_put (cs := #[.int .i64 0, .string (⟨#[]⟩ : ByteArray), .int .i64 0, .int .i64 0]) ?_ 1 _ rfl; refine blk_put (cs := #[.int .i64 0, .string (⟨#[]⟩ : ByteArray), .int .i64 0, .int .i64 0]) ?_ 0 _ rfl; exact BK.out)
          have n1_ := Aside0.mk (show Below w.heap.size w wt by rw [← hq]; repeat (first | (with_reducible first | exact HB.out | apply below_alloc | apply pw_below_drewN | apply below_drew1 | refine below_set ?_ GE.out) | exact HB.out))
          have n2_ := Aside0.mk (show Kd.R k33 33 wt w.heap.size (fun k => True ∧ k ≠ gb) u5 acc by rw [← hq]; exact (Kd.R_far (p := ⟨gb, 3, none⟩) (Kd.R_far (p := ⟨gb, 2, none⟩) (Kd.R_far (p := ⟨gb, 1, none⟩) (Kd.R_far (p := ⟨gb, 0, none⟩) HO.out (fun _ hk => hk.2) _) (fun _ hk => hk.2) _) (fun _ hk => hk.2) _) (fun _ hk => hk.2) _))
          clear hq BK HB HO hcz0 hcz1 hcz2 hcz3 hfz0 hfz1 hfz2 hfz3
          have BK := n0_
          have HB := n1_
          have HO := n2_
          clear n0_ n1_ n2_
          rw [← HT.out] at BK
          rw [← HT.out]
          have hcz0 : wt.cell? ⟨gb, 0, none⟩ = some (.int .i64 0) := (blk_cell BK.out 0).trans rfl
          have hcz1 : wt.cell? ⟨gb, 1, none⟩ = some (.string T) := (blk_cell BK.out 1).trans rfl
          have hcz2 : wt.cell? ⟨gb, 2, none⟩ = some (.int .i64 0) := (blk_cell BK.out 2).trans rfl
          have hcz3 : wt.cell? ⟨gb, 3, none⟩ = some (.int .i64 x) := (blk_cell BK.out 3).trans rfl
          have hfz0 := blk_frozen BK.out 0
          have hfz1 := blk_frozen BK.out 1
          have hfz2 := blk_frozen BK.out 2
          have hfz3 := blk_frozen BK.out 3
          (with_reducible refine (outriderref03_digits.calls k1 T true _ A2.out).mono ?_)
          rintro e w' ⟨rfl, ⟨nd1, rfl⟩⟩
          go_wp2_with fail
          (with_reducible refine (outriderref01_Parse.calls k1 T v 0 _ A3.out).mono ?_)
          rintro e w' ⟨rfl, ⟨nd2, rfl⟩⟩
          go_wp2_with fail
          (with_reducible refine (outriderref03_letter.calls (bt s j) false _ A4.out).mono ?_)
          rintro e w' ⟨rfl, ⟨nd3, rfl⟩⟩
          have AL := Aside0.mk GO_.out.1
          go_wp2_with (first | ((with_reducible refine gate_builtin (b := .append) (xs := #[.tmp 81, .tmp 83]) rfl ?_); at_builtin; generalize hq : World.setCell _ ⟨gb, 2, none⟩ _ = wv; have n1_ := Aside0.mk (show Below w.heap.size w wv by rw [← hq]; repeat (first | (with_reducible first | exact HB.out | apply below_alloc | apply pw_below_drewN | apply below_drew1 | refine below_set ?_ GE.out) | exact HB.out)); have n2_ := Aside0.mk (show Kd.R k33 33 wv w.heap.size (fun k => True ∧ k ≠ gb) u5 acc by rw [← hq]; exact (Kd.R_far (p := ⟨gb, 2, none⟩) (Kd.R_far (p := ⟨gb, 0, none⟩) (by (with_reducible repeat (first | apply Kd.R_alloc | apply Kd.R_drewN | apply Kd.R_drew)); exact HO.out) (fun _ hk => hk.2) _) (fun _ hk => hk.2) _)); clear HB HO hcz0 hcz1 hcz2 hcz3 hfz0 hfz1 hfz2 hfz3 BK; have HQ := Lib.hid hq; clear hq; have HB := n1_; have HO := n2_; clear n1_ n2_; refine Kd.R_append k33 (w0 := w) w.heap.size rfl (.tmp 81) (.tmp 83) 22 33 (.agg #[(.int .i64 0), (.string ⟨#[]⟩), (.int .i64 0), (.int .i64 0)]) 40 rfl Try.underlying22 info33 rfl (by decide) (by omega) u5 acc (⟨1, T, v, x⟩ : S33) [.int .i64 1, .string T, .int .i64 v, .int .i64 x] (fun _ => True) (fun _ => False) rfl ?aX ?aP (fun _ hk => hk.elim) ?aF ?aO ?aB ?aS ?aL ?_; (case aX => rw [← HQ.out]; first | (go_simp; done) | (go_simp; rfl)); (case aP => exact k33_mkM _ _ _ _); (case aF => exact (fun _ _ => trivial)); (case aO => exact Kd.R_mono (by (with_reducible repeat (first | apply Kd.R_alloc | apply Kd.R_drewN | apply Kd.R_drew)); exact HO.out) (fun _ _ => trivial)); (case aB => exact (by repeat (first | (with_reducible first | exact HB.out | apply below_alloc | apply pw_below_drewN | apply below_drew1 | refine below_set ?_ GE.out) | exact HB.out))); (case aS => exact (below_size (by repeat (first | (with_reducible first | exact HB.out | apply below_alloc | apply pw_below_drewN | apply below_drew1 | refine below_set ?_ GE.out) | exact HB.out)))); (case aL => have := AL.out; omega); intro v9 w9 ho9 hb9 hg9 hat9; have m1_ := Aside0.mk ho9; have m2_ := Aside0.mk hb9; clear HB HO ho9 hb9 hg9 hat9; have HO := m1_; have HB := m2_; clear m1_ m2_) | ((with_reducible refine gate_callee (f := 19) rfl ?_); refine goesL_ (some 89) rfl rfl Try.func19 (by kernel_rfl) rfl #[.string s, .int .i64 j] rfl (by (try simp only [List.map_toArray, List.map_cons, List.map_nil]); first | done | rfl) ?_; (with_reducible refine (outriderref03_gap.calls k1 s j t _ AG.out).mono ?_); rintro e w' ⟨rfl, ⟨nd9, rfl⟩⟩; refine ⟨_, rfl, ?_⟩))
          go_roundg k1
          case measure => have := HK1.out; omega
          case rel => exact ⟨_, t, rfl, AN, ⟨by have := HK1.out; omega⟩, ⟨by (with_reducible repeat (first | apply Kd.R_alloc | apply Kd.R_drewN | apply Kd.R_drew)); exact HO.out⟩, ⟨by repeat (first | (with_reducible first | exact HB.out | apply below_alloc | apply pw_below_drewN | apply below_drew1 | refine below_set ?_ GE.out) | exact HB.out)⟩⟩
        | last v h2 h3 h4 hgo =>
          have A2 := Aside0.mk h2
          have A3 := Aside0.mk h3
          have c14b0 : decide (j < (s.size : Int)) = false := decide_eq_false h4
          obtain ⟨hlen, t, hg1, hg2⟩ := hgo
          have GO_ := Aside0.mk (And.intro hlen trivial)
          have AG := Aside0.mk hg1
          have AN := Aside0.mk hg2
          clear hlen hg1 hg2
          clear h2 h3 h4
          clear c16
          go_wp2_with fail
          (with_reducible (with_reducible refine (outriderref03_longest.calls k1 s x N _ A1.out).mono ?_))
          rintro e w' ⟨rfl, ⟨nd, rfl⟩⟩
          go_wp2_with (first | ((with_reducible refine gate_dst (N := 8) rfl ?_); refine box_event ?hg (N := 8) ?hd (cs := #[.int .i64 0, .string (⟨#[]⟩ : ByteArray), .int .i64 0, .int .i64 0]) (t := 33) ?hr ?_; (case hd => rfl); (case hg => rfl); (case hr => first | (go_simp; done) | (go_simp; rfl)); intro gb hg w24 hbox hb; have n0_ := Aside0.mk (Kd.R_below (Kd.R_elderB (by (with_reducible repeat (first | apply Kd.R_alloc | apply Kd.R_drewN | apply Kd.R_drew)); exact HO.out) gb (Nat.le_of_eq hg.symm)) hb); have n1_ := Aside0.mk (below_step (by repeat (first | (with_reducible first | exact HB.out | apply below_alloc | apply pw_below_drewN | apply below_drew1) | exact HB.out)) hb); have n2_ := Aside0.mk hbox; have n3_ := Aside0.mk ((by rw [hg]; exact (below_size (by repeat (first | (with_reducible first | exact HB.out | apply below_alloc | apply pw_below_drewN | apply below_drew1) | exact HB.out))) : w.heap.size ≤ gb)); clear HO HB; have HO := n0_; have HB := n1_; have BK := n2_; have GE := n3_; clear n0_ n1_ n2_ n3_; clear hb hbox hg; have hcz0 : w24.cell? ⟨gb, 0, none⟩ = some (.int .i64 0) := (blk_cell BK.out 0).trans rfl; have hcz1 : w24.cell? ⟨gb, 1, none⟩ = some (.string (⟨#[]⟩ : ByteArray)) := (blk_cell BK.out 1).trans rfl; have hcz2 : w24.cell? ⟨gb, 2, none⟩ = some (.int .i64 0) := (blk_cell BK.out 2).trans rfl; have hcz3 : w24.cell? ⟨gb, 3, none⟩ = some (.int .i64 0) := (blk_cell BK.out 3).trans rfl; have hfz0 := blk_frozen BK.out 0; have hfz1 := blk_frozen BK.out 1; have hfz2 := blk_frozen BK.out 2; have hfz3 := blk_frozen BK.out 3))
          generalize hq : World.setCell _ ⟨gb, 3, none⟩ (.int .i64 x) = wt
          have n0_ := Aside0.mk (show wt.heap[gb]? = some (.cells #[.int .i64 0, .string (s.extract x.toNat j.toNat), .int .i64 0, .int .i64 x] 33 (0, 0)) by rw [← hq]; refine blk_put (cs := #[.int .i64 0, .string (s.extract x.toNat j.toNat), .int .i64 0, .int .i64 0]) ?_ 3 _ rfl; refine blk_put (cs := #[.int .i64 0, .string (s.extract x.toNat j.toNat), .int .i64 0, .int .i64 0]) ?_ 2 _ rfl; refine blk_put (cs := #[.int .i64 0, .string (⟨#[]⟩ : ByteArray), .int .i64 0, .int .i64 0]) ?_ 1 _ rfl; refine blk_put (cs := #[.int .i64 0, .string (⟨#[]⟩ : ByteArray), .int .i64 0, .int .i64 0]) ?_ 0 _ rfl; exact BK.out)
          have n1_ := Aside0.mk (show Below w.heap.size w wt by rw [← hq]; repeat (first | (with_reducible first | exact HB.out | apply below_alloc | apply pw_below_drewN | apply below_drew1 | refine below_set ?_ GE.out) | exact HB.out))
          have n2_ := Aside0.mk (show Kd.R k33 33 wt w.heap.size (fun k => True ∧ k ≠ gb) u5 acc by rw [← hq]; exact (Kd.R_far (p := ⟨gb, 3, none⟩) (Kd.R_far (p := ⟨gb, 2, none⟩) (Kd.R_far (p := ⟨gb, 1, none⟩) (Kd.R_far (p := ⟨gb, 0, none⟩) HO.out (fun _ hk => hk.2) _) (fun _ hk => hk.2) _) (fun _ hk => hk.2) _) (fun _ hk => hk.2) _))
          clear hq BK HB HO hcz0 hcz1 hcz2 hcz3 hfz0 hfz1 hfz2 hfz3
          have BK := n0_
          have HB := n1_
          have HO := n2_
          clear n0_ n1_ n2_
          rw [← HT.out] at BK
          rw [← HT.out]
          have hcz0 : wt.cell? ⟨gb, 0, none⟩ = some (.int .i64 0) := (blk_cell BK.out 0).trans rfl
          have hcz1 : wt.cell? ⟨gb, 1, none⟩ = some (.string T) := (blk_cell BK.out 1).trans rfl
          have hcz2 : wt.cell? ⟨gb, 2, none⟩ = some (.int .i64 0) := (blk_cell BK.out 2).trans rfl
          have hcz3 : wt.cell? ⟨gb, 3, none⟩ = some (.int .i64 x) := (blk_cell BK.out 3).trans rfl
          have hfz0 := blk_frozen BK.out 0
          have hfz1 := blk_frozen BK.out 1
          have hfz2 := blk_frozen BK.out 2
          have hfz3 := blk_frozen BK.out 3
          (with_reducible refine (outriderref03_digits.calls k1 T true _ A2.out).mono ?_)
          rintro e w' ⟨rfl, ⟨nd1, rfl⟩⟩
          go_wp2_with fail
          (with_reducible refine (outriderref01_Parse.calls k1 T v 0 _ A3.out).mono ?_)
          rintro e w' ⟨rfl, ⟨nd2, rfl⟩⟩
          have AL := Aside0.mk GO_.out.1
          go_wp2_with (first | ((with_reducible refine gate_builtin (b := .append) (xs := #[.tmp 81, .tmp 83]) rfl ?_); at_builtin; generalize hq : World.setCell _ ⟨gb, 2, none⟩ _ = wv; have n1_ := Aside0.mk (show Below w.heap.size w wv by rw [← hq]; repeat (first | (with_reducible first | exact HB.out | apply below_alloc | apply pw_below_drewN | apply below_drew1 | refine below_set ?_ GE.out) | exact HB.out)); have n2_ := Aside0.mk (show Kd.R k33 33 wv w.heap.size (fun k => True ∧ k ≠ gb) u5 acc by rw [← hq]; exact (Kd.R_far (p := ⟨gb, 2, none⟩) (Kd.R_far (p := ⟨gb, 0, none⟩) (by (with_reducible repeat (first | apply Kd.R_alloc | apply Kd.R_drewN | apply Kd.R_drew)); exact HO.out) (fun _ hk => hk.2) _) (fun _ hk => hk.2) _)); clear HB HO hcz0 hcz1 hcz2 hcz3 hfz0 hfz1 hfz2 hfz3 BK; have HQ := Lib.hid hq; clear hq; have HB := n1_; have HO := n2_; clear n1_ n2_; refine Kd.R_append k33 (w0 := w) w.heap.size rfl (.tmp 81) (.tmp 83) 22 33 (.agg #[(.int .i64 0), (.string ⟨#[]⟩), (.int .i64 0), (.int .i64 0)]) 40 rfl Try.underlying22 info33 rfl (by decide) (by omega) u5 acc (⟨1, T, v, x⟩ : S33) [.int .i64 1, .string T, .int .i64 v, .int .i64 x] (fun _ => True) (fun _ => False) rfl ?aX ?aP (fun _ hk => hk.elim) ?aF ?aO ?aB ?aS ?aL ?_; (case aX => rw [← HQ.out]; first | (go_simp; done) | (go_simp; rfl)); (case aP => exact k33_mkM _ _ _ _); (case aF => exact (fun _ _ => trivial)); (case aO => exact Kd.R_mono (by (with_reducible repeat (first | apply Kd.R_alloc | apply Kd.R_drewN | apply Kd.R_drew)); exact HO.out) (fun _ _ => trivial)); (case aB => exact (by repeat (first | (with_reducible first | exact HB.out | apply below_alloc | apply pw_below_drewN | apply below_drew1 | refine below_set ?_ GE.out) | exact HB.out))); (case aS => exact (below_size (by repeat (first | (with_reducible first | exact HB.out | apply below_alloc | apply pw_below_drewN | apply below_drew1 | refine below_set ?_ GE.out) | exact HB.out)))); (case aL => have := AL.out; omega); intro v9 w9 ho9 hb9 hg9 hat9; have m1_ := Aside0.mk ho9; have m2_ := Aside0.mk hb9; clear HB HO ho9 hb9 hg9 hat9; have HO := m1_; have HB := m2_; clear m1_ m2_) | ((with_reducible refine gate_callee (f := 19) rfl ?_); refine goesL_ (some 89) rfl rfl Try.func19 (by kernel_rfl) rfl #[.string s, .int .i64 j] rfl (by (try simp only [List.map_toArray, List.map_cons, List.map_nil]); first | done | rfl) ?_; (with_reducible refine (outriderref03_gap.calls k1 s j t _ AG.out).mono ?_); rintro e w' ⟨rfl, ⟨nd9, rfl⟩⟩; refine ⟨_, rfl, ?_⟩))
          go_roundg k1
          case measure => have := HK1.out; omega
          case rel => exact ⟨_, t, rfl, AN, ⟨by have := HK1.out; omega⟩, ⟨by (with_reducible repeat (first | apply Kd.R_alloc | apply Kd.R_drewN | apply Kd.R_drew)); exact HO.out⟩, ⟨by repeat (first | (with_reducible first | exact HB.out | apply below_alloc | apply pw_below_drewN | apply below_drew1 | refine below_set ?_ GE.out) | exact HB.out)⟩⟩
        | word h2 h3 hgo =>
          have A2 := Aside0.mk h2
          have A3 := Aside0.mk h3
          obtain ⟨hlen, t, hg1, hg2⟩ := hgo
          have GO_ := Aside0.mk (And.intro hlen trivial)
          have AG := Aside0.mk hg1
          have AN := Aside0.mk hg2
          clear hlen hg1 hg2
          clear h2 h3
          clear c16
          go_wp2_with fail
          (with_reducible (with_reducible refine (outriderref03_longest.calls k1 s x N _ A1.out).mono ?_))
          rintro e w' ⟨rfl, ⟨nd, rfl⟩⟩
          go_wp2_with (first | ((with_reducible refine gate_dst (N := 8) rfl ?_); refine box_event ?hg (N := 8) ?hd (cs := #[.int .i64 0, .string (⟨#[]⟩ : ByteArray), .int .i64 0, .int .i64 0]) (t := 33) ?hr ?_; (case hd => rfl); (case hg => rfl); (case hr => first | (go_simp; done) | (go_simp; rfl)); intro gb hg w24 hbox hb; have n0_ := Aside0.mk (Kd.R_below (Kd.R_elderB (by (with_reducible repeat (first | apply Kd.R_alloc | apply Kd.R_drewN | apply Kd.R_drew)); exact HO.out) gb (Nat.le_of_eq hg.symm)) hb); have n1_ := Aside0.mk (below_step (by repeat (first | (with_reducible first | exact HB.out | apply below_alloc | apply pw_below_drewN | apply below_drew1) | exact HB.out)) hb); have n2_ := Aside0.mk hbox; have n3_ := Aside0.mk ((by rw [hg]; exact (below_size (by repeat (first | (with_reducible first | exact HB.out | apply below_alloc | apply pw_below_drewN | apply below_drew1) | exact HB.out))) : w.heap.size ≤ gb)); clear HO HB; have HO := n0_; have HB := n1_; have BK := n2_; have GE := n3_; clear n0_ n1_ n2_ n3_; clear hb hbox hg; have hcz0 : w24.cell? ⟨gb, 0, none⟩ = some (.int .i64 0) := (blk_cell BK.out 0).trans rfl; have hcz1 : w24.cell? ⟨gb, 1, none⟩ = some (.string (⟨#[]⟩ : ByteArray)) := (blk_cell BK.out 1).trans rfl; have hcz2 : w24.cell? ⟨gb, 2, none⟩ = some (.int .i64 0) := (blk_cell BK.out 2).trans rfl; have hcz3 : w24.cell? ⟨gb, 3, none⟩ = some (.int .i64 0) := (blk_cell BK.out 3).trans rfl; have hfz0 := blk_frozen BK.out 0; have hfz1 := blk_frozen BK.out 1; have hfz2 := blk_frozen BK.out 2; have hfz3 := blk_frozen BK.out 3))
          generalize hq : World.setCell _ ⟨gb, 3, none⟩ (.int .i64 x) = wt
          have n0_ := Aside0.mk (show wt.heap[gb]? = some (.cells #[.int .i64 0, .string (s.extract x.toNat j.toNat), .int .i64 0, .int .i64 x] 33 (0, 0)) by rw [← hq]; refine blk_put (cs := #[.int .i64 0, .string (s.extract x.toNat j.toNat), .int .i64 0, .int .i64 0]) ?_ 3 _ rfl; refine blk_put (cs := #[.int .i64 0, .string (s.extract x.toNat j.toNat), .int .i64 0, .int .i64 0]) ?_ 2 _ rfl; refine blk_put (cs := #[.int .i64 0, .string (⟨#[]⟩ : ByteArray), .int .i64 0, .int .i64 0]) ?_ 1 _ rfl; refine blk_put (cs := #[.int .i64 0, .string (⟨#[]⟩ : ByteArray), .int .i64 0, .int .i64 0]) ?_ 0 _ rfl; exact BK.out)
          have n1_ := Aside0.mk (show Below w.heap.size w wt by rw [← hq]; repeat (first | (with_reducible first | exact HB.out | apply below_alloc | apply pw_below_drewN | apply below_drew1 | refine below_set ?_ GE.out) | exact HB.out))
          have n2_ := Aside0.mk (show Kd.R k33 33 wt w.heap.size (fun k => True ∧ k ≠ gb) u5 acc by rw [← hq]; exact (Kd.R_far (p := ⟨gb, 3, none⟩) (Kd.R_far (p := ⟨gb, 2, none⟩) (Kd.R_far (p := ⟨gb, 1, none⟩) (Kd.R_far (p := ⟨gb, 0, none⟩) HO.out (fun _ hk => hk.2) _) (fun _ hk => hk.2) _) (fun _ hk => hk.2) _) (fun _ hk => hk.2) _))
          clear hq BK HB HO hcz0 hcz1 hcz2 hcz3 hfz0 hfz1 hfz2 hfz3
          have BK := n0_
          have HB := n1_
          have HO := n2_
          clear n0_ n1_ n2_
          rw [← HT.out] at BK
          rw [← HT.out]
          have hcz0 : wt.cell? ⟨gb, 0, none⟩ = some (.int .i64 0) := (blk_cell BK.out 0).trans rfl
          have hcz1 : wt.cell? ⟨gb, 1, none⟩ = some (.string T) := (blk_cell BK.out 1).trans rfl
          have hcz2 : wt.cell? ⟨gb, 2, none⟩ = some (.int .i64 0) := (blk_cell BK.out 2).trans rfl
          have hcz3 : wt.cell? ⟨gb, 3, none⟩ = some (.int .i64 x) := (blk_cell BK.out 3).trans rfl
          have hfz0 := blk_frozen BK.out 0
          have hfz1 := blk_frozen BK.out 1
          have hfz2 := blk_frozen BK.out 2
          have hfz3 := blk_frozen BK.out 3
          (with_reducible refine (outriderref03_digits.calls k1 T false _ A2.out).mono ?_)
          rintro e w' ⟨rfl, ⟨nd1, rfl⟩⟩
          go_wp2_with fail
          (with_reducible refine (outriderref03_Words.calls k1 T true _ A3.out).mono ?_)
          rintro e w' ⟨rfl, hbw⟩
          have n0_ := Aside0.mk (below_step (by repeat (first | (with_reducible first | exact HB.out | apply below_alloc | apply pw_below_drewN | apply below_drew1 | refine below_set ?_ GE.out) | exact HB.out)) hbw)
          have n1_ := Aside0.mk (show _ from Kd.R_below (by (with_reducible repeat (first | apply Kd.R_alloc | apply Kd.R_drewN | apply Kd.R_drew)); exact HO.out) hbw)
          have n2_ := Aside0.mk (blk_below (by (with_reducible repeat (first | refine blk_drewN ?_ _ | refine blk_drew ?_ | refine blk_alloc ?_ _)); exact BK.out) hbw)
          clear hbw HB HO BK hcz0 hcz1 hcz2 hcz3 hfz0 hfz1 hfz2 hfz3
          have HB := n0_
          have HO := n1_
          have BK := n2_
          clear n0_ n1_ n2_
          have hcz0 := (blk_cell BK.out 0)
          have hcz1 := (blk_cell BK.out 1)
          have hcz2 := (blk_cell BK.out 2)
          have hcz3 := (blk_cell BK.out 3)
          simp at hcz0 hcz1 hcz2 hcz3
          have hfz0 := blk_frozen BK.out 0
          have hfz1 := blk_frozen BK.out 1
          have hfz2 := blk_frozen BK.out 2
          have hfz3 := blk_frozen BK.out 3
          have AL := Aside0.mk GO_.out.1
          go_wp2_with (first | ((with_reducible refine gate_builtin (b := .append) (xs := #[.tmp 81, .tmp 83]) rfl ?_); at_builtin; generalize hq : World.setCell _ ⟨gb, 0, none⟩ _ = wv; have n1_ := Aside0.mk (show Below w.heap.size w wv by rw [← hq]; repeat (first | (with_reducible first | exact HB.out | apply below_alloc | apply pw_below_drewN | apply below_drew1 | refine below_set ?_ GE.out) | exact HB.out)); have n2_ := Aside0.mk (show Kd.R k33 33 wv w.heap.size (fun k => True ∧ k ≠ gb) u5 acc by rw [← hq]; exact (Kd.R_far (p := ⟨gb, 0, none⟩) (by (with_reducible repeat (first | apply Kd.R_alloc | apply Kd.R_drewN | apply Kd.R_drew)); exact HO.out) (fun _ hk => hk.2) _)); clear HB HO hcz0 hcz1 hcz2 hcz3 hfz0 hfz1 hfz2 hfz3 BK; have HQ := Lib.hid hq; clear hq; have HB := n1_; have HO := n2_; clear n1_ n2_; refine Kd.R_append k33 (w0 := w) w.heap.size rfl (.tmp 81) (.tmp 83) 22 33 (.agg #[(.int .i64 0), (.string ⟨#[]⟩), (.int .i64 0), (.int .i64 0)]) 40 rfl Try.underlying22 info33 rfl (by decide) (by omega) u5 acc (⟨3, T, 0, x⟩ : S33) [.int .i64 3, .string T, .int .i64 0, .int .i64 x] (fun _ => True) (fun _ => False) rfl ?aX ?aP (fun _ hk => hk.elim) ?aF ?aO ?aB ?aS ?aL ?_; (case aX => rw [← HQ.out]; first | (go_simp; done) | (go_simp; rfl)); (case aP => exact k33_mkM _ _ _ _); (case aF => exact (fun _ _ => trivial)); (case aO => exact Kd.R_mono (by (with_reducible repeat (first | apply Kd.R_alloc | apply Kd.R_drewN | apply Kd.R_drew)); exact HO.out) (fun _ _ => trivial)); (case aB => exact (by repeat (first | (with_reducible first | exact HB.out | apply below_alloc | apply pw_below_drewN | apply below_drew1 | refine below_set ?_ GE.out) | exact HB.out))); (case aS => exact (below_size (by repeat (first | (with_reducible first | exact HB.out | apply below_alloc | apply pw_below_drewN | apply below_drew1 | refine below_set ?_ GE.out) | exact HB.out)))); (case aL => have := AL.out; omega); intro v9 w9 ho9 hb9 hg9 hat9; have m1_ := Aside0.mk ho9; have m2_ := Aside0.mk hb9; clear HB HO ho9 hb9 hg9 hat9; have HO := m1_; have HB := m2_; clear m1_ m2_) | ((with_reducible refine gate_callee (f := 19) rfl ?_); refine goesL_ (some 89) rfl rfl Try.func19 (by kernel_rfl) rfl #[.string s, .int .i64 j] rfl (by (try simp only [List.map_toArray, List.map_cons, List.map_nil]); first | done | rfl) ?_; (with_reducible refine (outriderref03_gap.calls k1 s j t _ AG.out).mono ?_); rintro e w' ⟨rfl, ⟨nd9, rfl⟩⟩; refine ⟨_, rfl, ?_⟩))
          go_roundg k1
          case measure => have := HK1.out; omega
          case rel => exact ⟨_, t, rfl, AN, ⟨by have := HK1.out; omega⟩, ⟨by (with_reducible repeat (first | apply Kd.R_alloc | apply Kd.R_drewN | apply Kd.R_drew)); exact HO.out⟩, ⟨by repeat (first | (with_reducible first | exact HB.out | apply below_alloc | apply pw_below_drewN | apply below_drew1 | refine below_set ?_ GE.out) | exact HB.out)⟩⟩
        | long h2 h3 h4 h5 hr =>
          have A2 := Aside0.mk h2
          have A3 := Aside0.mk h3
          have A4 := Aside0.mk h4
          have c12 : decide (12 < N) = true := decide_eq_true h5
          subst hr
          clear h2 h3 h4 h5
          clear c16
          go_wp2_with fail
          (with_reducible (with_reducible refine (outriderref03_longest.calls k1 s x N _ A1.out).mono ?_))
          rintro e w' ⟨rfl, ⟨nd, rfl⟩⟩
          go_wp2_with (first | ((with_reducible refine gate_dst (N := 8) rfl ?_); refine box_event ?hg (N := 8) ?hd (cs := #[.int .i64 0, .string (⟨#[]⟩ : ByteArray), .int .i64 0, .int .i64 0]) (t := 33) ?hr ?_; (case hd => rfl); (case hg => rfl); (case hr => first | (go_simp; done) | (go_simp; rfl)); intro gb hg w24 hbox hb; have n0_ := Aside0.mk (Kd.R_below (Kd.R_elderB (by (with_reducible repeat (first | apply Kd.R_alloc | apply Kd.R_drewN | apply Kd.R_drew)); exact HO.out) gb (Nat.le_of_eq hg.symm)) hb); have n1_ := Aside0.mk (below_step (by repeat (first | (with_reducible first | exact HB.out | apply below_alloc | apply pw_below_drewN | apply below_drew1) | exact HB.out)) hb); have n2_ := Aside0.mk hbox; have n3_ := Aside0.mk ((by rw [hg]; exact (below_size (by repeat (first | (with_reducible first | exact HB.out | apply below_alloc | apply pw_below_drewN | apply below_drew1) | exact HB.out))) : w.heap.size ≤ gb)); clear HO HB; have HO := n0_; have HB := n1_; have BK := n2_; have GE := n3_; clear n0_ n1_ n2_ n3_; clear hb hbox hg; have hcz0 : w24.cell? ⟨gb, 0, none⟩ = some (.int .i64 0) := (blk_cell BK.out 0).trans rfl; have hcz1 : w24.cell? ⟨gb, 1, none⟩ = some (.string (⟨#[]⟩ : ByteArray)) := (blk_cell BK.out 1).trans rfl; have hcz2 : w24.cell? ⟨gb, 2, none⟩ = some (.int .i64 0) := (blk_cell BK.out 2).trans rfl; have hcz3 : w24.cell? ⟨gb, 3, none⟩ = some (.int .i64 0) := (blk_cell BK.out 3).trans rfl; have hfz0 := blk_frozen BK.out 0; have hfz1 := blk_frozen BK.out 1; have hfz2 := blk_frozen BK.out 2; have hfz3 := blk_frozen BK.out 3))
          generalize hq : World.setCell _ ⟨gb, 3, none⟩ (.int .i64 x) = wt
          have n0_ := Aside0.mk (show wt.heap[gb]? = some (.cells #[.int .i64 0, .string (s.extract x.toNat j.toNat), .int .i64 0, .int .i64 x] 33 (0, 0)) by rw [← hq]; refine blk_put (cs := #[.int .i64 0, .string (s.extract x.toNat j.toNat), .int .i64 0, .int .i64 0]) ?_ 3 _ rfl; refine blk_put (cs := #[.int .i64 0, .string (s.extract x.toNat j.toNat), .int .i64 0, .int .i64 0]) ?_ 2 _ rfl; refine blk_put (cs := #[.int .i64 0, .string (⟨#[]⟩ : ByteArray), .int .i64 0, .int .i64 0]) ?_ 1 _ rfl; refine blk_put (cs := #[.int .i64 0, .string (⟨#[]⟩ : ByteArray), .int .i64 0, .int .i64 0]) ?_ 0 _ rfl; exact BK.out)
          have n1_ := Aside0.mk (show Below w.heap.size w wt by rw [← hq]; repeat (first | (with_reducible first | exact HB.out | apply below_alloc | apply pw_below_drewN | apply below_drew1 | refine below_set ?_ GE.out) | exact HB.out))
          have n2_ := Aside0.mk (show Kd.R k33 33 wt w.heap.size (fun k => True ∧ k ≠ gb) u5 acc by rw [← hq]; exact (Kd.R_far (p := ⟨gb, 3, none⟩) (Kd.R_far (p := ⟨gb, 2, none⟩) (Kd.R_far (p := ⟨gb, 1, none⟩) (Kd.R_far (p := ⟨gb, 0, none⟩) HO.out (fun _ hk => hk.2) _) (fun _ hk => hk.2) _) (fun _ hk => hk.2) _) (fun _ hk => hk.2) _))
          clear hq BK HB HO hcz0 hcz1 hcz2 hcz3 hfz0 hfz1 hfz2 hfz3
          have BK := n0_
          have HB := n1_
          have HO := n2_
          clear n0_ n1_ n2_
          rw [← HT.out] at BK
          rw [← HT.out]
          have hcz0 : wt.cell? ⟨gb, 0, none⟩ = some (.int .i64 0) := (blk_cell BK.out 0).trans rfl
          have hcz1 : wt.cell? ⟨gb, 1, none⟩ = some (.string T) := (blk_cell BK.out 1).trans rfl
          have hcz2 : wt.cell? ⟨gb, 2, none⟩ = some (.int .i64 0) := (blk_cell BK.out 2).trans rfl
          have hcz3 : wt.cell? ⟨gb, 3, none⟩ = some (.int .i64 x) := (blk_cell BK.out 3).trans rfl
          have hfz0 := blk_frozen BK.out 0
          have hfz1 := blk_frozen BK.out 1
          have hfz2 := blk_frozen BK.out 2
          have hfz3 := blk_frozen BK.out 3
          (with_reducible refine (outriderref03_digits.calls k1 T false _ A2.out).mono ?_)
          rintro e w' ⟨rfl, ⟨nd1, rfl⟩⟩
          go_wp2_with fail
          (with_reducible refine (outriderref03_Words.calls k1 T false _ A3.out).mono ?_)
          rintro e w' ⟨rfl, hbw⟩
          have n0_ := Aside0.mk (below_step (by repeat (first | (with_reducible first | exact HB.out | apply below_alloc | apply pw_below_drewN | apply below_drew1 | refine below_set ?_ GE.out) | exact HB.out)) hbw)
          have n1_ := Aside0.mk (show _ from Kd.R_below (by (with_reducible repeat (first | apply Kd.R_alloc | apply Kd.R_drewN | apply Kd.R_drew)); exact HO.out) hbw)
          have n2_ := Aside0.mk (blk_below (by (with_reducible repeat (first | refine blk_drewN ?_ _ | refine blk_drew ?_ | refine blk_alloc ?_ _)); exact BK.out) hbw)
          clear hbw HB HO BK hcz0 hcz1 hcz2 hcz3 hfz0 hfz1 hfz2 hfz3
          have HB := n0_
          have HO := n1_
          have BK := n2_
          clear n0_ n1_ n2_
          have hcz0 := (blk_cell BK.out 0)
          have hcz1 := (blk_cell BK.out 1)
          have hcz2 := (blk_cell BK.out 2)
          have hcz3 := (blk_cell BK.out 3)
          simp at hcz0 hcz1 hcz2 hcz3
          have hfz0 := blk_frozen BK.out 0
          have hfz1 := blk_frozen BK.out 1
          have hfz2 := blk_frozen BK.out 2
          have hfz3 := blk_frozen BK.out 3
          go_wp2_with fail
          (with_reducible refine (outriderref03_row.calls k1 T true _ A4.out).mono ?_)
          rintro e w' ⟨rfl, ⟨nd4, rfl⟩⟩
          go_wp2
          go_ret3
          exact ⟨_, rfl, Kd.R_nil _ _ _ _ _, by repeat (first | (with_reducible first | exact HB.out | apply below_alloc | apply pw_below_drewN | apply below_drew1 | refine below_set ?_ GE.out) | exact HB.out)⟩
        | name h2 h3 h4 h5 hgo =>
          have A2 := Aside0.mk h2
          have A3 := Aside0.mk h3
          have A4 := Aside0.mk h4
          have c12 : decide (12 < N) = false := decide_eq_false h5
          obtain ⟨hlen, t, hg1, hg2⟩ := hgo
          have GO_ := Aside0.mk (And.intro hlen trivial)
          have AG := Aside0.mk hg1
          have AN := Aside0.mk hg2
          clear hlen hg1 hg2
          clear h2 h3 h4 h5
          clear c16
          go_wp2_with fail
          (with_reducible (with_reducible refine (outriderref03_longest.calls k1 s x N _ A1.out).mono ?_))
          rintro e w' ⟨rfl, ⟨nd, rfl⟩⟩
          go_wp2_with (first | ((with_reducible refine gate_dst (N := 8) rfl ?_); refine box_event ?hg (N := 8) ?hd (cs := #[.int .i64 0, .string (⟨#[]⟩ : ByteArray), .int .i64 0, .int .i64 0]) (t := 33) ?hr ?_; (case hd => rfl); (case hg => rfl); (case hr => first | (go_simp; done) | (go_simp; rfl)); intro gb hg w24 hbox hb; have n0_ := Aside0.mk (Kd.R_below (Kd.R_elderB (by (with_reducible repeat (first | apply Kd.R_alloc | apply Kd.R_drewN | apply Kd.R_drew)); exact HO.out) gb (Nat.le_of_eq hg.symm)) hb); have n1_ := Aside0.mk (below_step (by repeat (first | (with_reducible first | exact HB.out | apply below_alloc | apply pw_below_drewN | apply below_drew1) | exact HB.out)) hb); have n2_ := Aside0.mk hbox; have n3_ := Aside0.mk ((by rw [hg]; exact (below_size (by repeat (first | (with_reducible first | exact HB.out | apply below_alloc | apply pw_below_drewN | apply below_drew1) | exact HB.out))) : w.heap.size ≤ gb)); clear HO HB; have HO := n0_; have HB := n1_; have BK := n2_; have GE := n3_; clear n0_ n1_ n2_ n3_; clear hb hbox hg; have hcz0 : w24.cell? ⟨gb, 0, none⟩ = some (.int .i64 0) := (blk_cell BK.out 0).trans rfl; have hcz1 : w24.cell? ⟨gb, 1, none⟩ = some (.string (⟨#[]⟩ : ByteArray)) := (blk_cell BK.out 1).trans rfl; have hcz2 : w24.cell? ⟨gb, 2, none⟩ = some (.int .i64 0) := (blk_cell BK.out 2).trans rfl; have hcz3 : w24.cell? ⟨gb, 3, none⟩ = some (.int .i64 0) := (blk_cell BK.out 3).trans rfl; have hfz0 := blk_frozen BK.out 0; have hfz1 := blk_frozen BK.out 1; have hfz2 := blk_frozen BK.out 2; have hfz3 := blk_frozen BK.out 3))
          generalize hq : World.setCell _ ⟨gb, 3, none⟩ (.int .i64 x) = wt
          have n0_ := Aside0.mk (show wt.heap[gb]? = some (.cells #[.int .i64 0, .string (s.extract x.toNat j.toNat), .int .i64 0, .int .i64 x] 33 (0, 0)) by rw [← hq]; refine blk_put (cs := #[.int .i64 0, .string (s.extract x.toNat j.toNat), .int .i64 0, .int .i64 0]) ?_ 3 _ rfl; refine blk_put (cs := #[.int .i64 0, .string (s.extract x.toNat j.toNat), .int .i64 0, .int .i64 0]) ?_ 2 _ rfl; refine blk_put (cs := #[.int .i64 0, .string (⟨#[]⟩ : ByteArray), .int .i64 0, .int .i64 0]) ?_ 1 _ rfl; refine blk_put (cs := #[.int .i64 0, .string (⟨#[]⟩ : ByteArray), .int .i64 0, .int .i64 0]) ?_ 0 _ rfl; exact BK.out)
          have n1_ := Aside0.mk (show Below w.heap.size w wt by rw [← hq]; repeat (first | (with_reducible first | exact HB.out | apply below_alloc | apply pw_below_drewN | apply below_drew1 | refine below_set ?_ GE.out) | exact HB.out))
          have n2_ := Aside0.mk (show Kd.R k33 33 wt w.heap.size (fun k => True ∧ k ≠ gb) u5 acc by rw [← hq]; exact (Kd.R_far (p := ⟨gb, 3, none⟩) (Kd.R_far (p := ⟨gb, 2, none⟩) (Kd.R_far (p := ⟨gb, 1, none⟩) (Kd.R_far (p := ⟨gb, 0, none⟩) HO.out (fun _ hk => hk.2) _) (fun _ hk => hk.2) _) (fun _ hk => hk.2) _) (fun _ hk => hk.2) _))
          clear hq BK HB HO hcz0 hcz1 hcz2 hcz3 hfz0 hfz1 hfz2 hfz3
          have BK := n0_
          have HB := n1_
          have HO := n2_
          clear n0_ n1_ n2_
          rw [← HT.out] at BK
          rw [← HT.out]
          have hcz0 : wt.cell? ⟨gb, 0, none⟩ = some (.int .i64 0) := (blk_cell BK.out 0).trans rfl
          have hcz1 : wt.cell? ⟨gb, 1, none⟩ = some (.string T) := (blk_cell BK.out 1).trans rfl
          have hcz2 : wt.cell? ⟨gb, 2, none⟩ = some (.int .i64 0) := (blk_cell BK.out 2).trans rfl
          have hcz3 : wt.cell? ⟨gb, 3, none⟩ = some (.int .i64 x) := (blk_cell BK.out 3).trans rfl
          have hfz0 := blk_frozen BK.out 0
          have hfz1 := blk_frozen BK.out 1
          have hfz2 := blk_frozen BK.out 2
          have hfz3 := blk_frozen BK.out 3
          (with_reducible refine (outriderref03_digits.calls k1 T false _ A2.out).mono ?_)
          rintro e w' ⟨rfl, ⟨nd1, rfl⟩⟩
          go_wp2_with fail
          (with_reducible refine (outriderref03_Words.calls k1 T false _ A3.out).mono ?_)
          rintro e w' ⟨rfl, hbw⟩
          have n0_ := Aside0.mk (below_step (by repeat (first | (with_reducible first | exact HB.out | apply below_alloc | apply pw_below_drewN | apply below_drew1 | refine below_set ?_ GE.out) | exact HB.out)) hbw)
          have n1_ := Aside0.mk (show _ from Kd.R_below (by (with_reducible repeat (first | apply Kd.R_alloc | apply Kd.R_drewN | apply Kd.R_drew)); exact HO.out) hbw)
          have n2_ := Aside0.mk (blk_below (by (with_reducible repeat (first | refine blk_drewN ?_ _ | refine blk_drew ?_ | refine blk_alloc ?_ _)); exact BK.out) hbw)
          clear hbw HB HO BK hcz0 hcz1 hcz2 hcz3 hfz0 hfz1 hfz2 hfz3
          have HB := n0_
          have HO := n1_
          have BK := n2_
          clear n0_ n1_ n2_
          have hcz0 := (blk_cell BK.out 0)
          have hcz1 := (blk_cell BK.out 1)
          have hcz2 := (blk_cell BK.out 2)
          have hcz3 := (blk_cell BK.out 3)
          simp at hcz0 hcz1 hcz2 hcz3
          have hfz0 := blk_frozen BK.out 0
          have hfz1 := blk_frozen BK.out 1
          have hfz2 := blk_frozen BK.out 2
          have hfz3 := blk_frozen BK.out 3
          go_wp2_with fail
          (with_reducible refine (outriderref03_row.calls k1 T true _ A4.out).mono ?_)
          rintro e w' ⟨rfl, ⟨nd4, rfl⟩⟩
          have AL := Aside0.mk GO_.out.1
          go_wp2_with (first | ((with_reducible refine gate_builtin (b := .append) (xs := #[.tmp 81, .tmp 83]) rfl ?_); at_builtin; generalize hq : World.setCell _ ⟨gb, 0, none⟩ _ = wv; have n1_ := Aside0.mk (show Below w.heap.size w wv by rw [← hq]; repeat (first | (with_reducible first | exact HB.out | apply below_alloc | apply pw_below_drewN | apply below_drew1 | refine below_set ?_ GE.out) | exact HB.out)); have n2_ := Aside0.mk (show Kd.R k33 33 wv w.heap.size (fun k => True ∧ k ≠ gb) u5 acc by rw [← hq]; exact (Kd.R_far (p := ⟨gb, 0, none⟩) (by (with_reducible repeat (first | apply Kd.R_alloc | apply Kd.R_drewN | apply Kd.R_drew)); exact HO.out) (fun _ hk => hk.2) _)); clear HB HO hcz0 hcz1 hcz2 hcz3 hfz0 hfz1 hfz2 hfz3 BK; have HQ := Lib.hid hq; clear hq; have HB := n1_; have HO := n2_; clear n1_ n2_; refine Kd.R_append k33 (w0 := w) w.heap.size rfl (.tmp 81) (.tmp 83) 22 33 (.agg #[(.int .i64 0), (.string ⟨#[]⟩), (.int .i64 0), (.int .i64 0)]) 40 rfl Try.underlying22 info33 rfl (by decide) (by omega) u5 acc (⟨2, T, 0, x⟩ : S33) [.int .i64 2, .string T, .int .i64 0, .int .i64 x] (fun _ => True) (fun _ => False) rfl ?aX ?aP (fun _ hk => hk.elim) ?aF ?aO ?aB ?aS ?aL ?_; (case aX => rw [← HQ.out]; first | (go_simp; done) | (go_simp; rfl)); (case aP => exact k33_mkM _ _ _ _); (case aF => exact (fun _ _ => trivial)); (case aO => exact Kd.R_mono (by (with_reducible repeat (first | apply Kd.R_alloc | apply Kd.R_drewN | apply Kd.R_drew)); exact HO.out) (fun _ _ => trivial)); (case aB => exact (by repeat (first | (with_reducible first | exact HB.out | apply below_alloc | apply pw_below_drewN | apply below_drew1 | refine below_set ?_ GE.out) | exact HB.out))); (case aS => exact (below_size (by repeat (first | (with_reducible first | exact HB.out | apply below_alloc | apply pw_below_drewN | apply below_drew1 | refine below_set ?_ GE.out) | exact HB.out)))); (case aL => have := AL.out; omega); intro v9 w9 ho9 hb9 hg9 hat9; have m1_ := Aside0.mk ho9; have m2_ := Aside0.mk hb9; clear HB HO ho9 hb9 hg9 hat9; have HO := m1_; have HB := m2_; clear m1_ m2_) | ((with_reducible refine gate_callee (f := 19) rfl ?_); refine goesL_ (some 89) rfl rfl Try.func19 (by kernel_rfl) rfl #[.string s, .int .i64 j] rfl (by (try simp only [List.map_toArray, List.map_cons, List.map_nil]); first | done | rfl) ?_; (with_reducible refine (outriderref03_gap.calls k1 s j t _ AG.out).mono ?_); rintro e w' ⟨rfl, ⟨nd9, rfl⟩⟩; refine ⟨_, rfl, ?_⟩))
          go_roundg k1
          case measure => have := HK1.out; omega
          case rel => exact ⟨_, t, rfl, AN, ⟨by have := HK1.out; omega⟩, ⟨by (with_reducible repeat (first | apply Kd.R_alloc | apply Kd.R_drewN | apply Kd.R_drew)); exact HO.out⟩, ⟨by repeat (first | (with_reducible first | exact HB.out | apply below_alloc | apply pw_below_drewN | apply below_drew1 | refine below_set ?_ GE.out) | exact HB.out)⟩⟩
        | sign h2 h3 h4 hgo =>
          have A2 := Aside0.mk h2
          have A3 := Aside0.mk h3
          have A4 := Aside0.mk h4
          obtain ⟨hlen, t, hg1, hg2⟩ := hgo
          have GO_ := Aside0.mk (And.intro hlen trivial)
          have AG := Aside0.mk hg1
          have AN := Aside0.mk hg2
          clear hlen hg1 hg2
          clear h2 h3 h4
          clear c16
          go_wp2_with fail
          (with_reducible (with_reducible refine (outriderref03_longest.calls k1 s x N _ A1.out).mono ?_))
          rintro e w' ⟨rfl, ⟨nd, rfl⟩⟩
          go_wp2_with (first | ((with_reducible refine gate_dst (N := 8) rfl ?_); refine box_event ?hg (N := 8) ?hd (cs := #[.int .i64 0, .string (⟨#[]⟩ : ByteArray), .int .i64 0, .int .i64 0]) (t := 33) ?hr ?_; (case hd => rfl); (case hg => rfl); (case hr => first | (go_simp; done) | (go_simp; rfl)); intro gb hg w24 hbox hb; have n0_ := Aside0.mk (Kd.R_below (Kd.R_elderB (by (with_reducible repeat (first | apply Kd.R_alloc | apply Kd.R_drewN | apply Kd.R_drew)); exact HO.out) gb (Nat.le_of_eq hg.symm)) hb); have n1_ := Aside0.mk (below_step (by repeat (first | (with_reducible first | exact HB.out | apply below_alloc | apply pw_below_drewN | apply below_drew1) | exact HB.out)) hb); have n2_ := Aside0.mk hbox; have n3_ := Aside0.mk ((by rw [hg]; exact (below_size (by repeat (first | (with_reducible first | exact HB.out | apply below_alloc | apply pw_below_drewN | apply below_drew1) | exact HB.out))) : w.heap.size ≤ gb)); clear HO HB; have HO := n0_; have HB := n1_; have BK := n2_; have GE := n3_; clear n0_ n1_ n2_ n3_; clear hb hbox hg; have hcz0 : w24.cell? ⟨gb, 0, none⟩ = some (.int .i64 0) := (blk_cell BK.out 0).trans rfl; have hcz1 : w24.cell? ⟨gb, 1, none⟩ = some (.string (⟨#[]⟩ : ByteArray)) := (blk_cell BK.out 1).trans rfl; have hcz2 : w24.cell? ⟨gb, 2, none⟩ = some (.int .i64 0) := (blk_cell BK.out 2).trans rfl; have hcz3 : w24.cell? ⟨gb, 3, none⟩ = some (.int .i64 0) := (blk_cell BK.out 3).trans rfl; have hfz0 := blk_frozen BK.out 0; have hfz1 := blk_frozen BK.out 1; have hfz2 := blk_frozen BK.out 2; have hfz3 := blk_frozen BK.out 3))
          generalize hq : World.setCell _ ⟨gb, 3, none⟩ (.int .i64 x) = wt
          have n0_ := Aside0.mk (show wt.heap[gb]? = some (.cells #[.int .i64 0, .string (s.extract x.toNat j.toNat), .int .i64 0, .int .i64 x] 33 (0, 0)) by rw [← hq]; refine blk_put (cs := #[.int .i64 0, .string (s.extract x.toNat j.toNat), .int .i64 0, .int .i64 0]) ?_ 3 _ rfl; refine blk_put (cs := #[.int .i64 0, .string (s.extract x.toNat j.toNat), .int .i64 0, .int .i64 0]) ?_ 2 _ rfl; refine blk_put (cs := #[.int .i64 0, .string (⟨#[]⟩ : ByteArray), .int .i64 0, .int .i64 0]) ?_ 1 _ rfl; refine blk_put (cs := #[.int .i64 0, .string (⟨#[]⟩ : ByteArray), .int .i64 0, .int .i64 0]) ?_ 0 _ rfl; exact BK.out)
          have n1_ := Aside0.mk (show Below w.heap.size w wt by rw [← hq]; repeat (first | (with_reducible first | exact HB.out | apply below_alloc | apply pw_below_drewN | apply below_drew1 | refine below_set ?_ GE.out) | exact HB.out))
          have n2_ := Aside0.mk (show Kd.R k33 33 wt w.heap.size (fun k => True ∧ k ≠ gb) u5 acc by rw [← hq]; exact (Kd.R_far (p := ⟨gb, 3, none⟩) (Kd.R_far (p := ⟨gb, 2, none⟩) (Kd.R_far (p := ⟨gb, 1, none⟩) (Kd.R_far (p := ⟨gb, 0, none⟩) HO.out (fun _ hk => hk.2) _) (fun _ hk => hk.2) _) (fun _ hk => hk.2) _) (fun _ hk => hk.2) _))
          clear hq BK HB HO hcz0 hcz1 hcz2 hcz3 hfz0 hfz1 hfz2 hfz3
          have BK := n0_
          have HB := n1_
          have HO := n2_
          clear n0_ n1_ n2_
          rw [← HT.out] at BK
          rw [← HT.out]
          have hcz0 : wt.cell? ⟨gb, 0, none⟩ = some (.int .i64 0) := (blk_cell BK.out 0).trans rfl
          have hcz1 : wt.cell? ⟨gb, 1, none⟩ = some (.string T) := (blk_cell BK.out 1).trans rfl
          have hcz2 : wt.cell? ⟨gb, 2, none⟩ = some (.int .i64 0) := (blk_cell BK.out 2).trans rfl
          have hcz3 : wt.cell? ⟨gb, 3, none⟩ = some (.int .i64 x) := (blk_cell BK.out 3).trans rfl
          have hfz0 := blk_frozen BK.out 0
          have hfz1 := blk_frozen BK.out 1
          have hfz2 := blk_frozen BK.out 2
          have hfz3 := blk_frozen BK.out 3
          (with_reducible refine (outriderref03_digits.calls k1 T false _ A2.out).mono ?_)
          rintro e w' ⟨rfl, ⟨nd1, rfl⟩⟩
          go_wp2_with fail
          (with_reducible refine (outriderref03_Words.calls k1 T false _ A3.out).mono ?_)
          rintro e w' ⟨rfl, hbw⟩
          have n0_ := Aside0.mk (below_step (by repeat (first | (with_reducible first | exact HB.out | apply below_alloc | apply pw_below_drewN | apply below_drew1 | refine below_set ?_ GE.out) | exact HB.out)) hbw)
          have n1_ := Aside0.mk (show _ from Kd.R_below (by (with_reducible repeat (first | apply Kd.R_alloc | apply Kd.R_drewN | apply Kd.R_drew)); exact HO.out) hbw)
          have n2_ := Aside0.mk (blk_below (by (with_reducible repeat (first | refine blk_drewN ?_ _ | refine blk_drew ?_ | refine blk_alloc ?_ _)); exact BK.out) hbw)
          clear hbw HB HO BK hcz0 hcz1 hcz2 hcz3 hfz0 hfz1 hfz2 hfz3
          have HB := n0_
          have HO := n1_
          have BK := n2_
          clear n0_ n1_ n2_
          have hcz0 := (blk_cell BK.out 0)
          have hcz1 := (blk_cell BK.out 1)
          have hcz2 := (blk_cell BK.out 2)
          have hcz3 := (blk_cell BK.out 3)
          simp at hcz0 hcz1 hcz2 hcz3
          have hfz0 := blk_frozen BK.out 0
          have hfz1 := blk_frozen BK.out 1
          have hfz2 := blk_frozen BK.out 2
          have hfz3 := blk_frozen BK.out 3
          go_wp2_with fail
          (with_reducible refine (outriderref03_row.calls k1 T false _ A4.out).mono ?_)
          rintro e w' ⟨rfl, ⟨nd4, rfl⟩⟩
          have AL := Aside0.mk GO_.out.1
          go_wp2_with (first | ((with_reducible refine gate_builtin (b := .append) (xs := #[.tmp 81, .tmp 83]) rfl ?_); at_builtin; generalize hq : World.setCell _ ⟨gb, 0, none⟩ _ = wv; have n1_ := Aside0.mk (show Below w.heap.size w wv by rw [← hq]; repeat (first | (with_reducible first | exact HB.out | apply below_alloc | apply pw_below_drewN | apply below_drew1 | refine below_set ?_ GE.out) | exact HB.out)); have n2_ := Aside0.mk (show Kd.R k33 33 wv w.heap.size (fun k => True ∧ k ≠ gb) u5 acc by rw [← hq]; exact (Kd.R_far (p := ⟨gb, 0, none⟩) (by (with_reducible repeat (first | apply Kd.R_alloc | apply Kd.R_drewN | apply Kd.R_drew)); exact HO.out) (fun _ hk => hk.2) _)); clear HB HO hcz0 hcz1 hcz2 hcz3 hfz0 hfz1 hfz2 hfz3 BK; have HQ := Lib.hid hq; clear hq; have HB := n1_; have HO := n2_; clear n1_ n2_; refine Kd.R_append k33 (w0 := w) w.heap.size rfl (.tmp 81) (.tmp 83) 22 33 (.agg #[(.int .i64 0), (.string ⟨#[]⟩), (.int .i64 0), (.int .i64 0)]) 40 rfl Try.underlying22 info33 rfl (by decide) (by omega) u5 acc (⟨4, T, 0, x⟩ : S33) [.int .i64 4, .string T, .int .i64 0, .int .i64 x] (fun _ => True) (fun _ => False) rfl ?aX ?aP (fun _ hk => hk.elim) ?aF ?aO ?aB ?aS ?aL ?_; (case aX => rw [← HQ.out]; first | (go_simp; done) | (go_simp; rfl)); (case aP => exact k33_mkM _ _ _ _); (case aF => exact (fun _ _ => trivial)); (case aO => exact Kd.R_mono (by (with_reducible repeat (first | apply Kd.R_alloc | apply Kd.R_drewN | apply Kd.R_drew)); exact HO.out) (fun _ _ => trivial)); (case aB => exact (by repeat (first | (with_reducible first | exact HB.out | apply below_alloc | apply pw_below_drewN | apply below_drew1 | refine below_set ?_ GE.out) | exact HB.out))); (case aS => exact (below_size (by repeat (first | (with_reducible first | exact HB.out | apply below_alloc | apply pw_below_drewN | apply below_drew1 | refine below_set ?_ GE.out) | exact HB.out)))); (case aL => have := AL.out; omega); intro v9 w9 ho9 hb9 hg9 hat9; have m1_ := Aside0.mk ho9; have m2_ := Aside0.mk hb9; clear HB HO ho9 hb9 hg9 hat9; have HO := m1_; have HB := m2_; clear m1_ m2_) | ((with_reducible refine gate_callee (f := 19) rfl ?_); refine goesL_ (some 89) rfl rfl Try.func19 (by kernel_rfl) rfl #[.string s, .int .i64 j] rfl (by (try simp only [List.map_toArray, List.map_cons, List.map_nil]); first | done | rfl) ?_; (with_reducible refine (outriderref03_gap.calls k1 s j t _ AG.out).mono ?_); rintro e w' ⟨rfl, ⟨nd9, rfl⟩⟩; refine ⟨_, rfl, ?_⟩))
          go_roundg k1
          case measure => have := HK1.out; omega
          case rel => exact ⟨_, t, rfl, AN, ⟨by have := HK1.out; omega⟩, ⟨by (with_reducible repeat (first | apply Kd.R_alloc | apply Kd.R_drewN | apply Kd.R_drew)); exact HO.out⟩, ⟨by repeat (first | (with_reducible first | exact HB.out | apply below_alloc | apply pw_below_drewN | apply below_drew1 | refine below_set ?_ GE.out) | exact HB.out)⟩⟩
set_option maxHeartbeats 1000000 in
theorem rcut_big (s : ByteArray) (w : World) (h : 8192 < s.size) : Calls Try.prog 9 #[.string s] w (RPost ([], 0, 30) w) := by
  have h' : (8192 : Int) < (s.size : Int) := by omega
  go_enter Try.func9, Try.ntmps9
  go_wp2
  go_ret3
  exact ⟨_, rfl, Kd.R_nil _ _ _ _ _, Below.refl _ _⟩
theorem outriderref03_Cut.calls (k : Nat) (a0 : ByteArray) (r1 : List (S33)) (r2 : Int) (r3 : Int) (w : World) (h : outriderref03_Cut.f k a0 = some (r1, r2, r3)) :
    Calls Try.prog 9 #[.string a0] w fun e w' => ∃ v0_ : Value, e = .returned (.tuple #[v0_, .int .i64 r2, .int .i64 r3]) ∧ Kd.R k33 33 w' w.heap.size (fun _ => True) v0_ r1 ∧ Below w.heap.size w w' := by
  unfold outriderref03_Cut.f at h
  by_cases c : (a0.size : Int) > 8192
  · rw [if_pos c] at h
    have e := Option.some.inj h
    have := rcut_big a0 w (by omega)
    rw [e] at this
    exact this
  · rw [if_neg c] at h
    obtain ⟨t, h1, h2⟩ := Option.bind_eq_some_iff.mp h
    exact rcut_walk k a0 (r1, r2, r3) w (by omega) t h1 h2
end Go.Proofs.Ytclhpdnldnifcaa.K
