/- Walks of the seat's own: lex_blank, lex_cutter_skip, lex_letter, lex_digit, num_sum, num_Parse, lex_Words; they began as parts of a print and were turned. -/
import Derived.Test.YtobkdmmnbnpemaaXJX0
namespace Go.Proofs.Ytobkdmmnbnpemaa.Lx
open Go.RowKit Go.Proofs.YtobkdmmnbnpemaaW.PrintWords Go.Proofs.YtobkdmmnbnpemaaW.PrintLast Go.Proofs.YtobkdmmnbnpemaaW.PrintMore
attribute [local go_sem] max2_int min2_int max_two min_two max_three min_three max_four min_four
set_option linter.unusedVariables false
set_option linter.unusedSimpArgs false
def lex_blank.f (a0 : Int) : Option (Bool) := if a0 = 32 then (some true) else (if a0 = 10 then (some true) else (if a0 = 9 then (some true) else (some (a0 == 13))))
set_option maxHeartbeats 8000000 in
set_option maxRecDepth 100000 in
theorem lex_blank.calls (a0 : Int) (r : Bool) (w : World) (h : lex_blank.f a0 = some r) :
    Calls Try.prog 95 #[.int .u8 a0] w fun e w' => e = .returned (.bool r) ∧ Drawn0 w w' := by
  have H : (if a0 = 32 then (some true) else (if a0 = 10 then (some true) else (if a0 = 9 then (some true) else (some (a0 == 13))))) = some r := h; clear h; by_cases c2 : a0 = 32
  · rw [if_pos c2] at H
    have c2b0 : (a0 == 32) = true := beq_iff_eq.mpr c2; have c2b1 : (a0 != 32) = false := bne_eq_false_iff_eq.mpr c2; clear c2; obtain rfl := Option.some.inj H
    go_enter Try.func95, Try.ntmps95
    go_wp2
    go_ret
    exact z_4
  · rw [if_neg c2] at H
    have c2b0 : (a0 == 32) = false := beq_eq_false_iff_ne.mpr c2; have c2b1 : (a0 != 32) = true := bne_iff_ne.mpr c2; by_cases c3 : a0 = 10
    · rw [if_pos c3] at H
      have c3b0 : (a0 == 10) = true := beq_iff_eq.mpr c3; have c3b1 : (a0 != 10) = false := bne_eq_false_iff_eq.mpr c3; clear c3; obtain rfl := Option.some.inj H
      go_enter Try.func95, Try.ntmps95
      go_wp2
      go_ret
      exact z_4
    · rw [if_neg c3] at H
      have c3b0 : (a0 == 10) = false := beq_eq_false_iff_ne.mpr c3; have c3b1 : (a0 != 10) = true := bne_iff_ne.mpr c3; by_cases c4 : a0 = 9
      · rw [if_pos c4] at H
        have c4b0 : (a0 == 9) = true := beq_iff_eq.mpr c4; have c4b1 : (a0 != 9) = false := bne_eq_false_iff_eq.mpr c4; clear c4; obtain rfl := Option.some.inj H
        go_enter Try.func95, Try.ntmps95
        go_wp2
        go_ret
        exact z_4
      · rw [if_neg c4] at H
        have c4b0 : (a0 == 9) = false := beq_eq_false_iff_ne.mpr c4; have c4b1 : (a0 != 9) = true := bne_iff_ne.mpr c4; obtain rfl := Option.some.inj H
        go_enter Try.func95, Try.ntmps95
        go_wp2
        go_ret
        exact z_4
def IsS41 (w0 W : World) (g : Nat) (f0 : ByteArray) (f1 : Int) : Prop := W.heap[g]? = some (.cells #[.string f0, .int .i64 f1] 99 (0, 0)) ∧ w0.heap.size ≤ g
theorem IsS41.grown {w0 W : World} {g : Nat} {f0 : ByteArray} {f1 : Int} {W1 : World} {row : Option Nat} (h : IsS41 w0 W g f0 f1) (hw : W.grownBy W1 row) (hne : some g ≠ row) : IsS41 w0 W1 g f0 f1 := by
  obtain ⟨hb, hg⟩ := h; exact ⟨blk_grown hb hw hne, hg⟩
theorem IsS41.kept {w0 W : World} {g : Nat} {f0 : ByteArray} {f1 : Int} {W1 : World} {S : Nat → Prop} (h : IsS41 w0 W g f0 f1) (hk : Kept W W1 S) (hne : ¬ S g) : IsS41 w0 W1 g f0 f1 := by
  obtain ⟨hb, hg⟩ := h; exact ⟨blk_kept hb hk hne, hg⟩
theorem IsS41.below {w0 W : World} {g : Nat} {f0 : ByteArray} {f1 : Int} {W1 : World} (h : IsS41 w0 W g f0 f1) (hw : Below W.heap.size W W1) : IsS41 w0 W1 g f0 f1 := h.grown (grown_of_below hw none) (by simp)
theorem IsS41.alloc {w0 W : World} {g : Nat} {f0 : ByteArray} {f1 : Int} (h : IsS41 w0 W g f0 f1) (o : Obj) : IsS41 w0 (W.alloc o) g f0 f1 := h.below (below_alloc (Below.refl _ _) o)
theorem IsS41.drewN {w0 W : World} {g : Nat} {f0 : ByteArray} {f1 : Int} (h : IsS41 w0 W g f0 f1) (m : Nat) : IsS41 w0 (W.drewN m) g f0 f1 := h
theorem IsS41.drew {w0 W : World} {g : Nat} {f0 : ByteArray} {f1 : Int} (h : IsS41 w0 W g f0 f1) : IsS41 w0 W.drew g f0 f1 := h
theorem IsS41.at_ {w0 W : World} {g : Nat} {f0 : ByteArray} {f1 : Int} {w' : World} {m : Nat} (hq : W.drewN m = w') (h : IsS41 w0 W g f0 f1) : IsS41 w0 w' g f0 f1 := by subst hq; exact IsS41.drewN h m
theorem IsS41.apart {w0 W : World} {g : Nat} {f0 : ByteArray} {f1 : Int} {α : Type} {d : Kd α} {e : Nat} {base : Nat} {ok : Nat → Prop} {v : Value} {xs : List α} (h : IsS41 w0 W g f0 f1) (ho : d.R e W base ok v xs) (ht : ∀ q, q ∈ e :: d.E → q ≠ 99) : d.R e W base (fun k => ok k ∧ k ≠ g) v xs := by
  obtain ⟨hb, hg⟩ := h; exact Kd.R_types ho hb ht
theorem IsS41.own_ne {w0 W : World} {g : Nat} {f0 : ByteArray} {f1 : Int} {α : Type} {d : Kd α} {e : Nat} {base : Nat} {ok : Nat → Prop} {v : Value} {xs : List α} (h : IsS41 w0 W g f0 f1) (ho : d.R e W base ok v xs) (ht : e ≠ 99) : some g ≠ v.ownBlock := by
  obtain ⟨hb, hg⟩ := h; exact Kd.R_ne ho hb ht
theorem IsS41.lt {w0 W : World} {g : Nat} {f0 : ByteArray} {f1 : Int} (h : IsS41 w0 W g f0 f1) : g < W.heap.size := by
  obtain ⟨hb, hg⟩ := h; exact blk_lt hb
theorem IsS41.ge {w0 W : World} {g : Nat} {f0 : ByteArray} {f1 : Int} (h : IsS41 w0 W g f0 f1) : w0.heap.size ≤ g := by
  obtain ⟨hb, hg⟩ := h; exact hg
theorem IsS41.ne_blk {w0 W : World} {g : Nat} {f0 : ByteArray} {f1 : Int} {a : Nat} {cs : Array Value} {t : TypeId} {fr : Nat × Nat} (h : IsS41 w0 W g f0 f1) (hb2 : W.heap[a]? = some (.cells cs t fr)) (ht : t ≠ 99) : g ≠ a := by
  obtain ⟨hb, hg⟩ := h; rintro rfl; rw [hb] at hb2; injection hb2 with hb2; injection hb2 with _ ht2; exact ht ht2.symm
theorem IsS41.far {w0 W : World} {g : Nat} {f0 : ByteArray} {f1 : Int} {p : Addr} (h : IsS41 w0 W g f0 f1) (hne : g ≠ p.block) (u : Value) : IsS41 w0 (W.setCell p u) g f0 f1 := by
  obtain ⟨hb, hg⟩ := h; exact ⟨blk_far hb hne u, hg⟩
theorem cellS41_0 {W : World} {g : Nat} {f0 : ByteArray} {f1 : Int} (h : W.heap[g]? = some (.cells #[.string f0, .int .i64 f1] 99 (0, 0))) : W.cell? ⟨g, 0, none⟩ = some (.string f0) := (blk_cell h 0).trans rfl
theorem IsS41.set_0 {w0 W : World} {g : Nat} {f0 : ByteArray} {f1 : Int} (h : IsS41 w0 W g f0 f1) (x : ByteArray) : IsS41 w0 (W.setCell ⟨g, 0, none⟩ (.string x)) g x f1 := by
  obtain ⟨hb, hg⟩ := h; exact ⟨by simpa using blk_set hb 0 (.string x), hg⟩
theorem cellS41_1 {W : World} {g : Nat} {f0 : ByteArray} {f1 : Int} (h : W.heap[g]? = some (.cells #[.string f0, .int .i64 f1] 99 (0, 0))) : W.cell? ⟨g, 1, none⟩ = some (.int .i64 f1) := (blk_cell h 1).trans rfl
theorem IsS41.set_1 {w0 W : World} {g : Nat} {f0 : ByteArray} {f1 : Int} (h : IsS41 w0 W g f0 f1) (x : Int) : IsS41 w0 (W.setCell ⟨g, 1, none⟩ (.int .i64 x)) g f0 x := by
  obtain ⟨hb, hg⟩ := h; exact ⟨by simpa using blk_set hb 1 (.int .i64 x), hg⟩
mutual
def lex_cutter_skip.l0 : Nat → ByteArray → Int → Option (ByteArray × Int)
  | 0, _, _ => none
  | k + 1, x1000, x1001 => if x1001 < (x1000.size : Int) then (if 0 ≤ x1001 then ((lex_blank.f (bt x1000 x1001)).bind fun t101 => (if t101 = true then (lex_cutter_skip.l0 k x1000 (wrap64 (x1001 + 1))) else (if (bt x1000 x1001) = 35 then (lex_cutter_skip.l1 k x1000 x1001) else (some (x1000, x1001))))) else (none)) else (some (x1000, x1001))
def lex_cutter_skip.l1 : Nat → ByteArray → Int → Option (ByteArray × Int)
  | 0, _, _ => none
  | k + 1, x1000, x1001 => if x1001 < (x1000.size : Int) then (if 0 ≤ x1001 then (if (bt x1000 x1001) = 10 then (lex_cutter_skip.l0 k x1000 x1001) else (lex_cutter_skip.l1 k x1000 (wrap64 (x1001 + 1)))) else (none)) else (lex_cutter_skip.l0 k x1000 x1001)
end
def lex_cutter_skip.f (k : Nat) (s0_0 : ByteArray) (s0_1 : Int) : Option (ByteArray × Int) := lex_cutter_skip.l0 k s0_0 s0_1
theorem lex_cutter_skip.mono_l : ∀ k, (∀ y0 y1, LeO (lex_cutter_skip.l0 k y0 y1) (lex_cutter_skip.l0 (k + 1) y0 y1)) ∧ (∀ y0 y1, LeO (lex_cutter_skip.l1 k y0 y1) (lex_cutter_skip.l1 (k + 1) y0 y1))
  | 0 => ⟨fun _ _ r h => by simp [lex_cutter_skip.l0] at h, fun _ _ r h => by simp [lex_cutter_skip.l1] at h⟩
  | k + 1 => by
    obtain ⟨ih0, ih1⟩ := lex_cutter_skip.mono_l k; refine ⟨?_, ?_⟩
    · intro y0 y1
      unfold lex_cutter_skip.l0
      repeat' first
      | (with_reducible exact ih0 _ _)
      | (with_reducible exact ih1 _ _)
      | (with_reducible exact LeO.refl _)
      | (with_reducible exact LeO.none _)
      | (with_reducible refine LeO.ite ?_ ?_)
      | (with_reducible refine LeO.bind ?_ (fun _ => ?_))
      | exact ih0 _ _
      | exact ih1 _ _
      | exact LeO.none _
      | refine LeO.ite ?_ ?_
      | refine LeO.bind ?_ (fun _ => ?_)
    · intro y0 y1
      unfold lex_cutter_skip.l1
      repeat' first
      | (with_reducible exact ih0 _ _)
      | (with_reducible exact ih1 _ _)
      | (with_reducible exact LeO.refl _)
      | (with_reducible exact LeO.none _)
      | (with_reducible refine LeO.ite ?_ ?_)
      | (with_reducible refine LeO.bind ?_ (fun _ => ?_))
      | exact ih0 _ _
      | exact ih1 _ _
      | exact LeO.none _
      | refine LeO.ite ?_ ?_
      | refine LeO.bind ?_ (fun _ => ?_)
theorem lex_cutter_skip.mono : ∀ a0 a1 k, LeO (lex_cutter_skip.f k a0 a1) (lex_cutter_skip.f (k + 1) a0 a1) := by
  intro a0 a1 k; obtain ⟨ih0, ih1⟩ := lex_cutter_skip.mono_l k; unfold lex_cutter_skip.f
  repeat' first
      | (with_reducible exact ih0 _ _)
      | (with_reducible exact ih1 _ _)
      | (with_reducible exact LeO.refl _)
      | (with_reducible exact LeO.none _)
      | (with_reducible refine LeO.ite ?_ ?_)
      | (with_reducible refine LeO.bind ?_ (fun _ => ?_))
      | exact ih0 _ _
      | exact ih1 _ _
      | exact LeO.none _
      | refine LeO.ite ?_ ?_
      | refine LeO.bind ?_ (fun _ => ?_)
set_option maxHeartbeats 8000000 in
set_option maxRecDepth 100000 in
theorem lex_cutter_skip.calls (k : Nat) (g : Nat) (s0_0 : ByteArray) (s0_1 : Int) (r1 : ByteArray) (r2 : Int) (w0 w : World) (hI : IsS41 w0 w g s0_0 s0_1) (hB : Below w0.heap.size w0 w) (h : lex_cutter_skip.f k s0_0 s0_1 = some (r1, r2)) :
    Calls Try.prog 57 #[.pointer (some ⟨g, 0, none⟩)] w fun e w' => e = .returned (.tuple #[]) ∧ IsS41 w0 w' g r1 r2 ∧ Below w0.heap.size w0 w' ∧ KeepBut w w' g none := by
  have HI0 := A_0 hI; have HK := A_0 (KeepBut.refl w g none); have HL := A_0 hB.size; clear hI; have HW0 := A_0 hB.size; have HB := A_0 hB; clear hB; have H : (lex_cutter_skip.l0 k s0_0 s0_1) = some (r1, r2) := h; clear h; have H' := A_0 H; clear H
  go_enter Try.func57, Try.ntmps57
  go_wp2
  repeat (go_quiet (fail); try go_wp2)
  go_loopg [] k (fun kq w' => ∃ (x1001_1 : Int), Aside0 (lex_cutter_skip.l0 kq s0_0 x1001_1 = some (r1, r2)) ∧ Aside0 (kq ≤ k) ∧ Aside0 (IsS41 w0 w' g s0_0 x1001_1) ∧ Aside0 (KeepBut w w' g none) ∧ Aside0 (Below w0.heap.size w0 w'))
  case atStart => exact ⟨(s0_1), H', ⟨Nat.le_refl _⟩, ⟨z_168⟩, ⟨z_169⟩, ⟨z_170⟩⟩
  case round =>
    clear H'
    try clear c1
    obtain ⟨x1001_1, HA, HK1, HI0, HK, HB⟩ := hrel; cases gk with
    | zero => exact absurd HA.out (by simp [lex_cutter_skip.l0])
    | succ k1 =>
      have H := HA.out; clear HA; simp only [lex_cutter_skip.l0] at H; by_cases c2 : x1001_1 < (s0_0.size : Int)
      · rw [if_pos c2] at H
        have c2b0 : decide (x1001_1 < (s0_0.size : Int)) = true := decide_eq_true c2; clear c2; by_cases c3 : 0 ≤ x1001_1
        · rw [if_pos c3] at H
          have c3b0 : decide (0 ≤ x1001_1) = true := decide_eq_true c3; clear c3; replace H := Option.bind_eq_some_iff.mp H; obtain ⟨t101, A50, H⟩ := H; replace H : (if t101 = true then (lex_cutter_skip.l0 k1 s0_0 (wrap64 (x1001_1 + 1))) else (if (bt s0_0 x1001_1) = 35 then (lex_cutter_skip.l1 k1 s0_0 x1001_1) else (some (s0_0, x1001_1)))) = some (r1, r2) := H; have A5 := A_0 A50; clear A50; by_cases c6 : t101 = true
          · subst c6
            have H1 : (lex_cutter_skip.l0 k1 s0_0 (wrap64 (x1001_1 + 1))) = some (r1, r2) := z_171; clear H; have H := H1; clear H1; have H' := A_0 H; clear H; obtain ⟨HGz7, hgz7⟩ := HI0.out; have hcz7_0 := cellS41_0 HGz7; have hcz7_1 := cellS41_1 HGz7; have hfz7_0 := blk_frozen HGz7 0; have hfz7_1 := blk_frozen HGz7 1; clear HGz7 hgz7; have p4 : 0 ≤ (x1001_1 : Int) := of_decide_eq_true (z_11); have q4 : x1001_1 < (s0_0.size : Int) := of_decide_eq_true (z_11); have hx4 := bt_at s0_0 x1001_1; replace p4 := eq_true p4; replace q4 := eq_true q4
            go_wp2_with (first | (go_at_call 95; (with_reducible refine (lex_blank.calls (bt s0_0 x1001_1) true _ A5.out).mono ?_); rintro e w' ⟨rfl, ⟨nd, rfl⟩⟩; (try first | exact ⟨rfl, _, World.drewN_drewN _ _ _⟩ | exact ⟨rfl, _, Eq.trans (World.drewN_drewN _ _ _) (congrArg (World.drewN _) (Nat.add_assoc _ _ _))⟩)))
            repeat (go_quiet (first | (go_at_call 95; (with_reducible refine (lex_blank.calls (bt s0_0 x1001_1) true _ A5.out).mono ?_); rintro e w' ⟨rfl, ⟨nd, rfl⟩⟩; (try first | exact ⟨rfl, _, World.drewN_drewN _ _ _⟩ | exact ⟨rfl, _, Eq.trans (World.drewN_drewN _ _ _) (congrArg (World.drewN _) (Nat.add_assoc _ _ _))⟩))); try go_wp2_with (first | (go_at_call 95; (with_reducible refine (lex_blank.calls (bt s0_0 x1001_1) true _ A5.out).mono ?_); rintro e w' ⟨rfl, ⟨nd, rfl⟩⟩; (try first | exact ⟨rfl, _, World.drewN_drewN _ _ _⟩ | exact ⟨rfl, _, Eq.trans (World.drewN_drewN _ _ _) (congrArg (World.drewN _) (Nat.add_assoc _ _ _))⟩))))
            go_roundg k1
            case measure => have := HK1.out; omega
            case rel => exact ⟨(wrap64 (x1001_1 + 1)), H', ⟨by have := HK1.out; omega⟩, ⟨z_168⟩, ⟨z_169⟩, ⟨z_170⟩⟩
          · replace c6 := Bool.eq_false_iff.mpr c6
            subst c6; have H1 : (if (bt s0_0 x1001_1) = 35 then (lex_cutter_skip.l1 k1 s0_0 x1001_1) else (some (s0_0, x1001_1))) = some (r1, r2) := z_172; clear H; have H := H1; clear H1; by_cases c9 : (bt s0_0 x1001_1) = 35
            · rw [if_pos c9] at H
              have c9b0 : ((bt s0_0 x1001_1) == 35) = true := beq_iff_eq.mpr c9; have c9b1 : ((bt s0_0 x1001_1) != 35) = false := bne_eq_false_iff_eq.mpr c9; clear c9; have H' := A_0 H; clear H; obtain ⟨HGz10, hgz10⟩ := HI0.out; have hcz10_0 := cellS41_0 HGz10; have hcz10_1 := cellS41_1 HGz10; have hfz10_0 := blk_frozen HGz10 0; have hfz10_1 := blk_frozen HGz10 1; clear HGz10 hgz10; have p4 : 0 ≤ (x1001_1 : Int) := of_decide_eq_true (z_11); have q4 : x1001_1 < (s0_0.size : Int) := of_decide_eq_true (z_11); have hx4 := bt_at s0_0 x1001_1; replace p4 := eq_true p4; replace q4 := eq_true q4
              go_wp2_with (first | (go_at_call 95; (with_reducible refine (lex_blank.calls (bt s0_0 x1001_1) false _ A5.out).mono ?_); rintro e w' ⟨rfl, ⟨nd, rfl⟩⟩; (try first | exact ⟨rfl, _, World.drewN_drewN _ _ _⟩ | exact ⟨rfl, _, Eq.trans (World.drewN_drewN _ _ _) (congrArg (World.drewN _) (Nat.add_assoc _ _ _))⟩); have p8 : 0 ≤ (x1001_1 : Int) := of_decide_eq_true (z_11); have q8 : x1001_1 < (s0_0.size : Int) := of_decide_eq_true (z_11); have hx8 := bt_at s0_0 x1001_1; replace p8 := eq_true p8; replace q8 := eq_true q8))
              repeat (go_quiet (first | (go_at_call 95; (with_reducible refine (lex_blank.calls (bt s0_0 x1001_1) false _ A5.out).mono ?_); rintro e w' ⟨rfl, ⟨nd, rfl⟩⟩; (try first | exact ⟨rfl, _, World.drewN_drewN _ _ _⟩ | exact ⟨rfl, _, Eq.trans (World.drewN_drewN _ _ _) (congrArg (World.drewN _) (Nat.add_assoc _ _ _))⟩); have p8 : 0 ≤ (x1001_1 : Int) := of_decide_eq_true (z_11); have q8 : x1001_1 < (s0_0.size : Int) := of_decide_eq_true (z_11); have hx8 := bt_at s0_0 x1001_1; replace p8 := eq_true p8; replace q8 := eq_true q8)); try go_wp2_with (first | (go_at_call 95; (with_reducible refine (lex_blank.calls (bt s0_0 x1001_1) false _ A5.out).mono ?_); rintro e w' ⟨rfl, ⟨nd, rfl⟩⟩; (try first | exact ⟨rfl, _, World.drewN_drewN _ _ _⟩ | exact ⟨rfl, _, Eq.trans (World.drewN_drewN _ _ _) (congrArg (World.drewN _) (Nat.add_assoc _ _ _))⟩); have p8 : 0 ≤ (x1001_1 : Int) := of_decide_eq_true (z_11); have q8 : x1001_1 < (s0_0.size : Int) := of_decide_eq_true (z_11); have hx8 := bt_at s0_0 x1001_1; replace p8 := eq_true p8; replace q8 := eq_true q8)))
              go_loopg [] k1 (fun kq w' => ∃ (x1001_2 : Int), Aside0 (lex_cutter_skip.l1 kq s0_0 x1001_2 = some (r1, r2)) ∧ Aside0 (kq ≤ k1) ∧ Aside0 (IsS41 w0 w' g s0_0 x1001_2) ∧ Aside0 (KeepBut w w' g none) ∧ Aside0 (Below w0.heap.size w0 w'))
              case atStart => exact ⟨(x1001_1), H', ⟨Nat.le_refl _⟩, ⟨z_168⟩, ⟨z_169⟩, ⟨z_170⟩⟩
              case round =>
                clear H'
                try clear c1
                try clear c2
                try clear c2b0
                try clear p2
                try clear c3
                try clear c3b0
                try clear p4
                try clear q4
                try clear hx4
                try clear c6
                try clear p6
                try clear p8
                try clear q8
                try clear hx8
                try clear c9
                try clear c9b0
                try clear c9b1
                try clear hcz10_0
                try clear hcz10_1
                try clear hcz7_0
                try clear hcz7_1
                try clear hfz10_0
                try clear hfz10_1
                try clear hfz7_0
                try clear hfz7_1
                try clear p4
                try clear p8
                try clear q4
                try clear q8
                obtain ⟨x1001_2, HA, HK2, HI0, HK, HB⟩ := hrel; cases gk with
                | zero => exact absurd HA.out (by simp [lex_cutter_skip.l1])
                | succ k2 =>
                  have H := HA.out; clear HA; simp only [lex_cutter_skip.l1] at H; by_cases c11 : x1001_2 < (s0_0.size : Int)
                  · rw [if_pos c11] at H
                    have c11b0 : decide (x1001_2 < (s0_0.size : Int)) = true := decide_eq_true c11; clear c11; by_cases c12 : 0 ≤ x1001_2
                    · rw [if_pos c12] at H
                      have c12b0 : decide (0 ≤ x1001_2) = true := decide_eq_true c12; clear c12; by_cases c14 : (bt s0_0 x1001_2) = 10
                      · rw [if_pos c14] at H
                        have c14b0 : ((bt s0_0 x1001_2) == 10) = true := beq_iff_eq.mpr c14; have c14b1 : ((bt s0_0 x1001_2) != 10) = false := bne_eq_false_iff_eq.mpr c14; clear c14; have H' := A_0 H; clear H; obtain ⟨HGz15, hgz15⟩ := HI0.out; have hcz15_0 := cellS41_0 HGz15; have hcz15_1 := cellS41_1 HGz15; have hfz15_0 := blk_frozen HGz15 0; have hfz15_1 := blk_frozen HGz15 1; clear HGz15 hgz15; have p13 : 0 ≤ (x1001_2 : Int) := of_decide_eq_true (z_11); have q13 : x1001_2 < (s0_0.size : Int) := of_decide_eq_true (z_11); have hx13 := bt_at s0_0 x1001_2; replace p13 := eq_true p13; replace q13 := eq_true q13
                        go_wp2
                        repeat (go_quiet (fail); try go_wp2)
                        go_roundg k2
                        case measure => have := HK1.out; have := HK2.out; omega
                        case rel => exact ⟨(x1001_2), H', ⟨z_21⟩, ⟨z_168⟩, ⟨z_169⟩, ⟨z_170⟩⟩
                      · rw [if_neg c14] at H
                        have c14b0 : ((bt s0_0 x1001_2) == 10) = false := beq_eq_false_iff_ne.mpr c14; have c14b1 : ((bt s0_0 x1001_2) != 10) = true := bne_iff_ne.mpr c14; have H' := A_0 H; clear H; obtain ⟨HGz16, hgz16⟩ := HI0.out; have hcz16_0 := cellS41_0 HGz16; have hcz16_1 := cellS41_1 HGz16; have hfz16_0 := blk_frozen HGz16 0; have hfz16_1 := blk_frozen HGz16 1; clear HGz16 hgz16; have p13 : 0 ≤ (x1001_2 : Int) := of_decide_eq_true (z_11); have q13 : x1001_2 < (s0_0.size : Int) := of_decide_eq_true (z_11); have hx13 := bt_at s0_0 x1001_2; replace p13 := eq_true p13; replace q13 := eq_true q13
                        go_wp2
                        repeat (go_quiet (fail); try go_wp2)
                        go_roundg k2
                        case measure => have := HK1.out; have := HK2.out; omega
                        case rel => exact ⟨(wrap64 (x1001_2 + 1)), H', ⟨z_21⟩, ⟨z_168⟩, ⟨z_169⟩, ⟨z_170⟩⟩
                    · rw [if_neg c12] at H
                      exact z_15
                  · rw [if_neg c11] at H
                    have c11b0 : decide (x1001_2 < (s0_0.size : Int)) = false := decide_eq_false c11; clear c11; have H' := A_0 H; clear H; obtain ⟨HGz17, hgz17⟩ := HI0.out; have hcz17_0 := cellS41_0 HGz17; have hcz17_1 := cellS41_1 HGz17; have hfz17_0 := blk_frozen HGz17 0; have hfz17_1 := blk_frozen HGz17 1; clear HGz17 hgz17
                    go_wp2
                    repeat (go_quiet (fail); try go_wp2)
                    go_roundg k2
                    case measure => have := HK1.out; have := HK2.out; omega
                    case rel => exact ⟨(x1001_2), H', ⟨z_21⟩, ⟨z_168⟩, ⟨z_169⟩, ⟨z_170⟩⟩
            · rw [if_neg c9] at H
              have c9b0 : ((bt s0_0 x1001_1) == 35) = false := beq_eq_false_iff_ne.mpr c9; have c9b1 : ((bt s0_0 x1001_1) != 35) = true := bne_iff_ne.mpr c9; simp only [Option.some.injEq, Prod.mk.injEq] at H; obtain ⟨rfl, rfl⟩ := H; obtain ⟨HGz18, hgz18⟩ := HI0.out; have hcz18_0 := cellS41_0 HGz18; have hcz18_1 := cellS41_1 HGz18; have hfz18_0 := blk_frozen HGz18 0; have hfz18_1 := blk_frozen HGz18 1; clear HGz18 hgz18; have p4 : 0 ≤ (x1001_1 : Int) := of_decide_eq_true (z_11); have q4 : x1001_1 < (s0_0.size : Int) := of_decide_eq_true (z_11); have hx4 := bt_at s0_0 x1001_1; replace p4 := eq_true p4; replace q4 := eq_true q4
              go_wp2_with (first | (go_at_call 95; (with_reducible refine (lex_blank.calls (bt s0_0 x1001_1) false _ A5.out).mono ?_); rintro e w' ⟨rfl, ⟨nd, rfl⟩⟩; (try first | exact ⟨rfl, _, World.drewN_drewN _ _ _⟩ | exact ⟨rfl, _, Eq.trans (World.drewN_drewN _ _ _) (congrArg (World.drewN _) (Nat.add_assoc _ _ _))⟩); have p8 : 0 ≤ (x1001_1 : Int) := of_decide_eq_true (z_11); have q8 : x1001_1 < (s0_0.size : Int) := of_decide_eq_true (z_11); have hx8 := bt_at s0_0 x1001_1; replace p8 := eq_true p8; replace q8 := eq_true q8))
              repeat (go_quiet (first | (go_at_call 95; (with_reducible refine (lex_blank.calls (bt s0_0 x1001_1) false _ A5.out).mono ?_); rintro e w' ⟨rfl, ⟨nd, rfl⟩⟩; (try first | exact ⟨rfl, _, World.drewN_drewN _ _ _⟩ | exact ⟨rfl, _, Eq.trans (World.drewN_drewN _ _ _) (congrArg (World.drewN _) (Nat.add_assoc _ _ _))⟩); have p8 : 0 ≤ (x1001_1 : Int) := of_decide_eq_true (z_11); have q8 : x1001_1 < (s0_0.size : Int) := of_decide_eq_true (z_11); have hx8 := bt_at s0_0 x1001_1; replace p8 := eq_true p8; replace q8 := eq_true q8)); try go_wp2_with (first | (go_at_call 95; (with_reducible refine (lex_blank.calls (bt s0_0 x1001_1) false _ A5.out).mono ?_); rintro e w' ⟨rfl, ⟨nd, rfl⟩⟩; (try first | exact ⟨rfl, _, World.drewN_drewN _ _ _⟩ | exact ⟨rfl, _, Eq.trans (World.drewN_drewN _ _ _) (congrArg (World.drewN _) (Nat.add_assoc _ _ _))⟩); have p8 : 0 ≤ (x1001_1 : Int) := of_decide_eq_true (z_11); have q8 : x1001_1 < (s0_0.size : Int) := of_decide_eq_true (z_11); have hx8 := bt_at s0_0 x1001_1; replace p8 := eq_true p8; replace q8 := eq_true q8)))
              first | go_end0 | ((try simp only [Exit.inBlock, Exit.then]); refine bodyPost_ret (results_none rfl _ _ _) rfl ?_)
              exact ⟨z_16, z_168, z_170, z_169⟩
        · rw [if_neg c3] at H
          exact z_15
      · rw [if_neg c2] at H
        have c2b0 : decide (x1001_1 < (s0_0.size : Int)) = false := decide_eq_false c2; clear c2; simp only [Option.some.injEq, Prod.mk.injEq] at H; obtain ⟨rfl, rfl⟩ := H; obtain ⟨HGz19, hgz19⟩ := HI0.out; have hcz19_0 := cellS41_0 HGz19; have hcz19_1 := cellS41_1 HGz19; have hfz19_0 := blk_frozen HGz19 0; have hfz19_1 := blk_frozen HGz19 1; clear HGz19 hgz19
        go_wp2
        repeat (go_quiet (fail); try go_wp2)
        first | go_end0 | ((try simp only [Exit.inBlock, Exit.then]); refine bodyPost_ret (results_none rfl _ _ _) rfl ?_)
        exact ⟨z_16, z_168, z_170, z_169⟩
def lex_letter.f (a0 : Int) : Option (Bool) := if a0 ≥ 97 then (if a0 ≤ 122 then (some true) else (if a0 ≥ 65 then (if a0 ≤ 90 then (some true) else (some (a0 == 95))) else (some (a0 == 95)))) else (if a0 ≥ 65 then (if a0 ≤ 90 then (some true) else (some (a0 == 95))) else (some (a0 == 95)))
set_option maxHeartbeats 8000000 in
set_option maxRecDepth 100000 in
theorem lex_letter.calls (a0 : Int) (r : Bool) (w : World) (h : lex_letter.f a0 = some r) :
    Calls Try.prog 98 #[.int .u8 a0] w fun e w' => e = .returned (.bool r) ∧ Drawn0 w w' := by
  have H : (if a0 ≥ 97 then (if a0 ≤ 122 then (some true) else (if a0 ≥ 65 then (if a0 ≤ 90 then (some true) else (some (a0 == 95))) else (some (a0 == 95)))) else (if a0 ≥ 65 then (if a0 ≤ 90 then (some true) else (some (a0 == 95))) else (some (a0 == 95)))) = some r := h; clear h; by_cases c2 : a0 ≥ 97
  · rw [if_pos c2] at H
    have c2b0 : decide (97 ≤ a0) = true := decide_eq_true c2; clear c2; by_cases c3 : a0 ≤ 122
    · rw [if_pos c3] at H
      have c3b0 : decide (a0 ≤ 122) = true := decide_eq_true c3; clear c3; obtain rfl := Option.some.inj H
      go_enter Try.func98, Try.ntmps98
      go_wp2
      go_ret
      exact z_4
    · rw [if_neg c3] at H
      have c3b0 : decide (a0 ≤ 122) = false := decide_eq_false c3; clear c3; by_cases c4 : a0 ≥ 65
      · rw [if_pos c4] at H
        have c4b0 : decide (65 ≤ a0) = true := decide_eq_true c4; clear c4; by_cases c5 : a0 ≤ 90
        · rw [if_pos c5] at H
          have c5b0 : decide (a0 ≤ 90) = true := decide_eq_true c5; clear c5; obtain rfl := Option.some.inj H
          go_enter Try.func98, Try.ntmps98
          go_wp2
          go_ret
          exact z_4
        · rw [if_neg c5] at H
          have c5b0 : decide (a0 ≤ 90) = false := decide_eq_false c5; clear c5; obtain rfl := Option.some.inj H
          go_enter Try.func98, Try.ntmps98
          go_wp2
          go_ret
          exact z_4
      · rw [if_neg c4] at H
        have c4b0 : decide (65 ≤ a0) = false := decide_eq_false c4; clear c4; obtain rfl := Option.some.inj H
        go_enter Try.func98, Try.ntmps98
        go_wp2
        go_ret
        exact z_4
  · rw [if_neg c2] at H
    have c2b0 : decide (97 ≤ a0) = false := decide_eq_false c2; clear c2; by_cases c6 : a0 ≥ 65
    · rw [if_pos c6] at H
      have c6b0 : decide (65 ≤ a0) = true := decide_eq_true c6; clear c6; by_cases c7 : a0 ≤ 90
      · rw [if_pos c7] at H
        have c7b0 : decide (a0 ≤ 90) = true := decide_eq_true c7; clear c7; obtain rfl := Option.some.inj H
        go_enter Try.func98, Try.ntmps98
        go_wp2
        go_ret
        exact z_4
      · rw [if_neg c7] at H
        have c7b0 : decide (a0 ≤ 90) = false := decide_eq_false c7; clear c7; obtain rfl := Option.some.inj H
        go_enter Try.func98, Try.ntmps98
        go_wp2
        go_ret
        exact z_4
    · rw [if_neg c6] at H
      have c6b0 : decide (65 ≤ a0) = false := decide_eq_false c6; clear c6; obtain rfl := Option.some.inj H
      go_enter Try.func98, Try.ntmps98
      go_wp2
      go_ret
      exact z_4
def lex_digit.f (a0 : Int) : Option (Bool) := if a0 ≥ 48 then (some (decide (a0 ≤ 57))) else (some false)
set_option maxHeartbeats 8000000 in
set_option maxRecDepth 100000 in
theorem lex_digit.calls (a0 : Int) (r : Bool) (w : World) (h : lex_digit.f a0 = some r) :
    Calls Try.prog 96 #[.int .u8 a0] w fun e w' => e = .returned (.bool r) ∧ Drawn0 w w' := by
  have H : (if a0 ≥ 48 then (some (decide (a0 ≤ 57))) else (some false)) = some r := h; clear h; by_cases c2 : a0 ≥ 48
  · rw [if_pos c2] at H
    have c2b0 : decide (48 ≤ a0) = true := decide_eq_true c2; clear c2; obtain rfl := Option.some.inj H
    go_enter Try.func96, Try.ntmps96
    go_wp2
    go_ret
    exact z_4
  · rw [if_neg c2] at H
    have c2b0 : decide (48 ≤ a0) = false := decide_eq_false c2; clear c2; obtain rfl := Option.some.inj H
    go_enter Try.func96, Try.ntmps96
    go_wp2
    go_ret
    exact z_4
def num_sum.l0 : Nat → ByteArray → Int → Int → Int → Option (Int × Bool)
  | 0, _, _, _, _ => none
  | k + 1, x0, x4, x8, x9 => if x9 < x8 then (if 0 ≤ x9 then (if x9 < (x0.size : Int) then (if x4 > ((18446744073709551615 - (((bt x0 x9) - 48) % 256)) / 10) then (some (0, false)) else (num_sum.l0 k x0 (IntKind.u64.wrap ((IntKind.u64.wrap (x4 * 10)) + (((bt x0 x9) - 48) % 256))) x8 (wrap64 (x9 + 1)))) else (none)) else (none)) else (some (x4, true))
def num_sum.f (k : Nat) (a0 : ByteArray) : Option (Int × Bool) := num_sum.l0 k a0 0 (a0.size : Int) 0
theorem num_sum.mono_l : ∀ k, (∀ y0 y1 y2 y3, LeO (num_sum.l0 k y0 y1 y2 y3) (num_sum.l0 (k + 1) y0 y1 y2 y3))
  | 0 => fun _ _ _ _ r h => by simp [num_sum.l0] at h
  | k + 1 => by
    have ih0 := num_sum.mono_l k
    · intro y0 y1 y2 y3
      unfold num_sum.l0
      repeat' first
      | (with_reducible exact ih0 _ _ _ _)
      | (with_reducible exact LeO.refl _)
      | (with_reducible exact LeO.none _)
      | (with_reducible refine LeO.ite ?_ ?_)
      | (with_reducible refine LeO.bind ?_ (fun _ => ?_))
      | exact ih0 _ _ _ _
      | exact LeO.none _
      | refine LeO.ite ?_ ?_
      | refine LeO.bind ?_ (fun _ => ?_)
set_option maxHeartbeats 8000000 in
set_option maxRecDepth 100000 in
theorem num_sum.calls (k : Nat) (a0 : ByteArray) (r1 : Int) (r2 : Bool) (w : World) (h : num_sum.f k a0 = some (r1, r2)) :
    Calls Try.prog 137 #[.string a0] w fun e w' => e = .returned (.tuple #[.int .u64 r1, .bool r2]) ∧ Drawn0 w w' := by
  have H : (num_sum.l0 k a0 0 (a0.size : Int) 0) = some (r1, r2) := h; clear h; have H' := A_0 H; clear H
  go_enter Try.func137, Try.ntmps137
  go_wp2
  go_loopg [4, 9] k (fun kq v4 v9 w' => ∃ (x4_1 : Int) (x9_1 : Int), v4 = .int .u64 x4_1 ∧ v9 = .int .i64 x9_1 ∧ Aside0 (num_sum.l0 kq a0 x4_1 (a0.size : Int) x9_1 = some (r1, r2)) ∧ Aside0 (kq ≤ k) ∧ Drawn0 w w')
  case atStart => exact ⟨(0), (0), (z_8), (z_8), H', ⟨Nat.le_refl _⟩, z_173⟩
  case round =>
    clear H'; obtain ⟨x4_1, x9_1, rfl, rfl, HA, HK1, ⟨m1, rfl⟩⟩ := hrel; cases gk with
    | zero => exact absurd HA.out (by simp [num_sum.l0])
    | succ k1 =>
      have H := HA.out; clear HA; simp only [num_sum.l0] at H; by_cases c2 : x9_1 < (a0.size : Int)
      · rw [if_pos c2] at H
        have c2b0 : decide (x9_1 < (a0.size : Int)) = true := decide_eq_true c2; clear c2; by_cases c3 : 0 ≤ x9_1
        · rw [if_pos c3] at H
          have c3b0 : decide (0 ≤ x9_1) = true := decide_eq_true c3; clear c3; by_cases c4 : x9_1 < (a0.size : Int)
          · rw [if_pos c4] at H
            have c4b0 : decide (x9_1 < (a0.size : Int)) = true := decide_eq_true c4; clear c4; by_cases c6 : x4_1 > ((18446744073709551615 - (((bt a0 x9_1) - 48) % 256)) / 10)
            · rw [if_pos c6] at H
              have c6b0 : decide (((18446744073709551615 - (((bt a0 x9_1) - 48) % 256)) / 10) < x4_1) = true := decide_eq_true c6; clear c6; simp only [Option.some.injEq, Prod.mk.injEq] at H; obtain ⟨rfl, rfl⟩ := H; have p5 : 0 ≤ (x9_1 : Int) := of_decide_eq_true (z_11); have q5 : x9_1 < (a0.size : Int) := of_decide_eq_true (z_11); have hx5 := bt_at a0 x9_1; replace p5 := eq_true p5; replace q5 := eq_true q5
              go_wp2
              go_ret2
              exact z_4
            · rw [if_neg c6] at H
              have c6b0 : decide (((18446744073709551615 - (((bt a0 x9_1) - 48) % 256)) / 10) < x4_1) = false := decide_eq_false c6; clear c6; have H' := A_0 H; clear H; have p5 : 0 ≤ (x9_1 : Int) := of_decide_eq_true (z_11); have q5 : x9_1 < (a0.size : Int) := of_decide_eq_true (z_11); have hx5 := bt_at a0 x9_1; replace p5 := eq_true p5; replace q5 := eq_true q5
              go_wp2
              go_roundg k1
              case measure => have := HK1.out; omega
              case rel => exact ⟨(IntKind.u64.wrap ((IntKind.u64.wrap (x4_1 * 10)) + (((bt a0 x9_1) - 48) % 256))), (wrap64 (x9_1 + 1)), (z_8), (z_8), H', ⟨by have := HK1.out; omega⟩, z_173⟩
          · rw [if_neg c4] at H
            exact z_15
        · rw [if_neg c3] at H
          exact z_15
      · rw [if_neg c2] at H
        have c2b0 : decide (x9_1 < (a0.size : Int)) = false := decide_eq_false c2; clear c2; simp only [Option.some.injEq, Prod.mk.injEq] at H; obtain ⟨rfl, rfl⟩ := H
        go_wp2
        go_ret2
        exact z_4
mutual
def num_Parse.j0 : Nat → ByteArray → Bool → Bool → Option (Int × Int)
  | 0, _, _, _ => none
  | k + 1, x4, x5, x16 => if x16 = true then (if 1 ≤ (x4.size : Int) then (num_Parse.j1 k (x4.extract 1 x4.size) true) else (none)) else (num_Parse.j1 k x4 x5)
def num_Parse.j1 : Nat → ByteArray → Bool → Option (Int × Int)
  | 0, _, _ => none
  | k + 1, x4, x5 => if x4.toList = ([] : List UInt8) then (num_Parse.j2 k x4 x5 true) else (if 0 < (x4.size : Int) then (if (bt x4 0) = 48 then (if (x4.size : Int) > 1 then (num_Parse.j2 k x4 x5 true) else (num_Parse.j2 k x4 x5 x5)) else (num_Parse.j2 k x4 x5 false)) else (none))
def num_Parse.j2 : Nat → ByteArray → Bool → Bool → Option (Int × Int)
  | 0, _, _, _ => none
  | k + 1, x4, x5, x33 => if x33 = true then (some (0, 10)) else (num_Parse.l0 k x4 x5 (x4.size : Int) 0)
def num_Parse.l0 : Nat → ByteArray → Bool → Int → Int → Option (Int × Int)
  | 0, _, _, _, _ => none
  | k + 1, x4, x5, x35, x36 => if x36 < x35 then (if 0 ≤ x36 then (if x36 < (x4.size : Int) then (if (bt x4 x36) < 48 then (some (0, 10)) else (if (bt x4 x36) > 57 then (some (0, 10)) else (num_Parse.l0 k x4 x5 x35 (wrap64 (x36 + 1))))) else (none)) else (none)) else ((num_sum.f k x4).bind fun bt102 => (if bt102.2 = true then (if x5 = true then (if bt102.1 > 9223372036854775808 then (num_Parse.j4 k x5 bt102.1 (decide (bt102.1 > 9223372036854775808))) else (num_Parse.j4 k x5 bt102.1 false)) else (num_Parse.j4 k x5 bt102.1 (decide (bt102.1 > 9223372036854775807)))) else (num_Parse.j4 k x5 bt102.1 (!bt102.2))))
def num_Parse.j4 : Nat → Bool → Int → Bool → Option (Int × Int)
  | 0, _, _, _ => none
  | k + 1, x5, x7, x55 => if x55 = true then (some (0, 11)) else (if x5 = true then (some (wrap64 (IntKind.u64.wrap (-x7)), 0)) else (some (wrap64 (x7), 0)))
end
def num_Parse.f (k : Nat) (a0 : ByteArray) : Option (Int × Int) := if a0.toList = ([] : List UInt8) then (num_Parse.j0 k a0 false false) else (if 0 < (a0.size : Int) then (num_Parse.j0 k a0 false ((bt a0 0) == 45)) else (none))
set_option maxHeartbeats 8000000 in
set_option maxRecDepth 100000 in
theorem num_Parse.calls (k : Nat) (a0 : ByteArray) (r1 : Int) (r2 : Int) (w : World) (h : num_Parse.f k a0 = some (r1, r2)) :
    Calls Try.prog 122 #[.string a0] w fun e w' => e = .returned (.tuple #[.int .i64 r1, .int .i64 r2]) ∧ Drawn0 w w' := by
  have H : (if a0.toList = ([] : List UInt8) then (num_Parse.j0 k a0 false false) else (if 0 < (a0.size : Int) then (num_Parse.j0 k a0 false ((bt a0 0) == 45)) else (none))) = some (r1, r2) := h; clear h; have HC2 := A_0 H; clear H
  go_enter Try.func122, Try.ntmps122
  go_upto_region 2 with (fail)
  go_cut [16] (fun v16 wc => ∃ (kq : Nat) (x16_1 : Bool), v16 = .bool x16_1 ∧ Aside0 (num_Parse.j0 kq a0 false x16_1 = some (r1, r2)) ∧ Aside0 (kq ≤ k) ∧ Drawn0 w wc)
  case first =>
    have H := HC2.out; clear HC2; by_cases c3 : a0.toList = ([] : List UInt8)
    · rw [if_pos c3] at H
      have c3b0 : (a0.toList == ([] : List UInt8)) = true := beq_iff_eq.mpr c3; have c3b1 : (a0.toList != ([] : List UInt8)) = false := bne_eq_false_iff_eq.mpr c3; clear c3
      (first | rw [c3b0] | (simp only [i64_w, i32_w]; rw [c3b0]) | skip)
      have H' := A_0 H; clear H
      go_wp2
      go_meet
      case rel => exact ⟨_, (false), (z_8), H', ⟨by first | omega | exact Nat.le_refl _⟩, z_173⟩
    · rw [if_neg c3] at H
      have c3b0 : (a0.toList == ([] : List UInt8)) = false := beq_eq_false_iff_ne.mpr c3; have c3b1 : (a0.toList != ([] : List UInt8)) = true := bne_iff_ne.mpr c3
      (first | rw [c3b0] | (simp only [i64_w, i32_w]; rw [c3b0]) | skip)
      by_cases c4 : 0 < (a0.size : Int)
      · rw [if_pos c4] at H
        have c4b0 : decide (0 < (a0.size : Int)) = true := decide_eq_true c4; have c4b1 : decide (0 < a0.size) = true := decide_eq_true (by omega); clear c4; have H' := A_0 H; clear H; have p5 : 0 ≤ (0 : Int) := (by omega); have q5 : 0 < a0.size := (by have : (0 : Int) < (a0.size : Int) := of_decide_eq_true (z_11); omega); have hx5 : ∀ h : 0 < a0.size, ((a0[0]'h).toNat : Int) = bt a0 0 := bt_at a0 0; clear p5; have qi5 : (0 < (a0.size : Int)) = True := eq_true (of_decide_eq_true (z_11)); replace q5 := eq_true q5
        go_wp2
        go_meet
        case rel => exact ⟨_, (((bt a0 0) == 45)), (z_8), H', ⟨by first | omega | exact Nat.le_refl _⟩, z_173⟩
      · rw [if_neg c4] at H
        exact z_15
  case rest =>
    clear HC2
    try clear p2
    try clear c3
    try clear c3b0
    try clear c3b1
    try clear c4
    try clear c4b0
    try clear c4b1
    try clear p5
    try clear q5
    try clear hx5
    try clear qi5
    try clear p5
    try clear q5
    obtain ⟨kq, x16_1, rfl, HA, HJ1, ⟨mc1, rfl⟩⟩ := hcut; cases kq with
    | zero => exact absurd HA.out (by simp [num_Parse.j0])
    | succ kj1 =>
      have H := HA.out; clear HA; simp only [num_Parse.j0] at H; have HC6 := A_0 H; clear H
      go_upto_if 16 with (fail)
      go_cut [4, 5] (fun v4 v5 wc => ∃ (kq : Nat) (x4_5 : ByteArray) (x5_5 : Bool), v4 = .string x4_5 ∧ v5 = .bool x5_5 ∧ Aside0 (num_Parse.j1 kq x4_5 x5_5 = some (r1, r2)) ∧ Aside0 (kq ≤ kj1) ∧ Drawn0 w wc)
      case first =>
        have H := HC6.out; clear HC6; by_cases c7 : x16_1 = true
        · subst c7
          have H1 : (if 1 ≤ (a0.size : Int) then (num_Parse.j1 kj1 (a0.extract 1 a0.size) true) else (none)) = some (r1, r2) := z_171; clear H; have H := H1; clear H1; by_cases c8 : 1 ≤ (a0.size : Int)
          · rw [if_pos c8] at H
            have c8b0 := eq_true c8; have c8b1 : decide (1 ≤ (a0.size : Int)) = true := decide_eq_true c8; clear c8; have H' := A_0 H; clear H
            go_wp2
            go_meet
            case rel => exact ⟨_, (a0.extract 1 a0.size), (true), (z_8), (z_8), H', ⟨by have := HJ1.out; first | omega | exact Nat.le_refl _⟩, z_173⟩
          · rw [if_neg c8] at H
            exact z_15
        · replace c7 := Bool.eq_false_iff.mpr c7
          subst c7; have H1 : (num_Parse.j1 kj1 a0 false) = some (r1, r2) := z_172; clear H; have H := H1; clear H1; have H' := A_0 H; clear H
          go_wp2
          go_meet
          case rel => exact ⟨_, (a0), (false), (z_8), (z_8), H', ⟨by have := HJ1.out; first | omega | exact Nat.le_refl _⟩, z_173⟩
      case rest =>
        clear HC6
        try clear c1
        try clear p2
        try clear c3
        try clear c3b0
        try clear c3b1
        try clear c4
        try clear c4b0
        try clear c4b1
        try clear p5
        try clear q5
        try clear hx5
        try clear qi5
        try clear c7
        try clear c8
        try clear c8b0
        try clear c8b1
        try clear p2
        try clear p5
        try clear q5
        obtain ⟨kq, x4_5, x5_5, rfl, rfl, HA, HJ5, ⟨mc5, rfl⟩⟩ := hcut; cases kq with
        | zero => exact absurd HA.out (by simp [num_Parse.j1])
        | succ kj5 =>
          have H := HA.out; clear HA; simp only [num_Parse.j1] at H; have HC9 := A_0 H; clear H; go_upto_region 4 with (fail)
          go_cut [33] (fun v33 wc => ∃ (kq : Nat) (x33_8 : Bool), v33 = .bool x33_8 ∧ Aside0 (num_Parse.j2 kq x4_5 x5_5 x33_8 = some (r1, r2)) ∧ Aside0 (kq ≤ kj5) ∧ Drawn0 w wc)
          case first =>
            have H := HC9.out; clear HC9; by_cases c10 : x4_5.toList = ([] : List UInt8)
            · rw [if_pos c10] at H
              have c10b0 : (x4_5.toList == ([] : List UInt8)) = true := beq_iff_eq.mpr c10; have c10b1 : (x4_5.toList != ([] : List UInt8)) = false := bne_eq_false_iff_eq.mpr c10; clear c10
              (first | rw [c10b0] | (simp only [i64_w, i32_w]; rw [c10b0]) | skip)
              have H' := A_0 H; clear H
              go_wp2
              go_meet
              case rel => exact ⟨_, (true), (z_8), H', ⟨z_174⟩, z_173⟩
            · rw [if_neg c10] at H
              have c10b0 : (x4_5.toList == ([] : List UInt8)) = false := beq_eq_false_iff_ne.mpr c10; have c10b1 : (x4_5.toList != ([] : List UInt8)) = true := bne_iff_ne.mpr c10
              (first | rw [c10b0] | (simp only [i64_w, i32_w]; rw [c10b0]) | skip)
              by_cases c11 : 0 < (x4_5.size : Int)
              · rw [if_pos c11] at H
                have c11b0 : decide (0 < (x4_5.size : Int)) = true := decide_eq_true c11; have c11b1 : decide (0 < x4_5.size) = true := decide_eq_true (by omega); clear c11; by_cases c13 : (bt x4_5 0) = 48
                · rw [if_pos c13] at H
                  have c13b0 : ((bt x4_5 0) == 48) = true := beq_iff_eq.mpr c13; have c13b1 : ((bt x4_5 0) != 48) = false := bne_eq_false_iff_eq.mpr c13; clear c13; by_cases c14 : (x4_5.size : Int) > 1
                  · rw [if_pos c14] at H
                    have c14b0 : decide (1 < (x4_5.size : Int)) = true := decide_eq_true c14; have c14b1 : decide (1 < x4_5.size) = true := decide_eq_true (by omega); clear c14; have H' := A_0 H; clear H; have p12 : 0 ≤ (0 : Int) := (by omega); have q12 : 0 < x4_5.size := (z_175); have hx12 : ∀ h : 0 < x4_5.size, ((x4_5[0]'h).toNat : Int) = bt x4_5 0 := bt_at x4_5 0; clear p12; have qi12 : (0 < (x4_5.size : Int)) = True := eq_true (of_decide_eq_true (z_11)); replace q12 := eq_true q12
                    go_wp2
                    go_meet
                    case rel => exact ⟨_, (true), (z_8), H', ⟨z_174⟩, z_173⟩
                  · rw [if_neg c14] at H
                    have c14b0 : decide (1 < (x4_5.size : Int)) = false := decide_eq_false c14; have c14b1 : decide (1 < x4_5.size) = false := decide_eq_false (by omega); clear c14; have H' := A_0 H; clear H; have p12 : 0 ≤ (0 : Int) := (by omega); have q12 : 0 < x4_5.size := (z_175); have hx12 : ∀ h : 0 < x4_5.size, ((x4_5[0]'h).toNat : Int) = bt x4_5 0 := bt_at x4_5 0; clear p12; have qi12 : (0 < (x4_5.size : Int)) = True := eq_true (of_decide_eq_true (z_11)); replace q12 := eq_true q12
                    go_wp2
                    go_meet
                    case rel => exact ⟨_, (x5_5), (z_8), H', ⟨z_174⟩, z_173⟩
                · rw [if_neg c13] at H
                  have c13b0 : ((bt x4_5 0) == 48) = false := beq_eq_false_iff_ne.mpr c13; have c13b1 : ((bt x4_5 0) != 48) = true := bne_iff_ne.mpr c13; have H' := A_0 H; clear H; have p12 : 0 ≤ (0 : Int) := (by omega); have q12 : 0 < x4_5.size := (z_175); have hx12 : ∀ h : 0 < x4_5.size, ((x4_5[0]'h).toNat : Int) = bt x4_5 0 := bt_at x4_5 0; clear p12; have qi12 : (0 < (x4_5.size : Int)) = True := eq_true (of_decide_eq_true (z_11)); replace q12 := eq_true q12
                  go_wp2
                  go_meet
                  case rel => exact ⟨_, (false), (z_8), H', ⟨z_174⟩, z_173⟩
              · rw [if_neg c11] at H
                exact z_15
          case rest =>
            clear HC9
            try clear c1
            try clear p1
            try clear q1
            try clear hx1
            try clear qi1
            try clear p2
            try clear c3
            try clear c3b0
            try clear c3b1
            try clear c4
            try clear c4b0
            try clear c4b1
            try clear c5
            try clear p5
            try clear q5
            try clear hx5
            try clear qi5
            try clear c7
            try clear c8
            try clear c8b0
            try clear c8b1
            try clear c10
            try clear c10b0
            try clear c10b1
            try clear c11
            try clear c11b0
            try clear c11b1
            try clear p12
            try clear q12
            try clear hx12
            try clear qi12
            try clear c13
            try clear c13b0
            try clear c13b1
            try clear c14
            try clear c14b0
            try clear c14b1
            try clear p12
            try clear p2
            try clear p5
            try clear q12
            try clear q5
            obtain ⟨kq, x33_8, rfl, HA, HJ8, ⟨mc8, rfl⟩⟩ := hcut; cases kq with
            | zero => exact absurd HA.out (by simp [num_Parse.j2])
            | succ kj8 =>
              have H := HA.out; clear HA; simp only [num_Parse.j2] at H; by_cases c15 : x33_8 = true
              · subst c15
                have H1 : (some (0, 10)) = some (r1, r2) := z_171; clear H; have H := H1; clear H1; simp only [Option.some.injEq, Prod.mk.injEq] at H; obtain ⟨rfl, rfl⟩ := H
                go_wp2
                go_ret2
                exact z_4
              · replace c15 := Bool.eq_false_iff.mpr c15
                subst c15; have H1 : (num_Parse.l0 kj8 x4_5 x5_5 (x4_5.size : Int) 0) = some (r1, r2) := z_172; clear H; have H := H1; clear H1; have H' := A_0 H; clear H
                go_wp2
                go_loopg [36] kj8 (fun kq v36 w' => ∃ (x36_4 : Int), v36 = .int .i64 x36_4 ∧ Aside0 (num_Parse.l0 kq x4_5 x5_5 (x4_5.size : Int) x36_4 = some (r1, r2)) ∧ Aside0 (kq ≤ kj8) ∧ Drawn0 w w')
                case atStart => exact ⟨(0), (z_8), H', ⟨Nat.le_refl _⟩, z_173⟩
                case round =>
                  clear H'
                  try clear c1
                  try clear p1
                  try clear q1
                  try clear hx1
                  try clear qi1
                  try clear p2
                  try clear c3
                  try clear c3b0
                  try clear c3b1
                  try clear c4
                  try clear c4b0
                  try clear c4b1
                  try clear c5
                  try clear p5
                  try clear q5
                  try clear hx5
                  try clear qi5
                  try clear c7
                  try clear c8
                  try clear c8b0
                  try clear c8b1
                  try clear c10
                  try clear c10b0
                  try clear c10b1
                  try clear c11
                  try clear c11b0
                  try clear c11b1
                  try clear p12
                  try clear q12
                  try clear hx12
                  try clear qi12
                  try clear c13
                  try clear c13b0
                  try clear c13b1
                  try clear c14
                  try clear c14b0
                  try clear c14b1
                  try clear c15
                  try clear p1
                  try clear p12
                  try clear p2
                  try clear p5
                  try clear q1
                  try clear q12
                  try clear q5
                  obtain ⟨x36_4, rfl, HA, HK4, ⟨m4, rfl⟩⟩ := hrel; cases gk with
                  | zero => exact absurd HA.out (by simp [num_Parse.l0])
                  | succ k4 =>
                    have H := HA.out; clear HA; simp only [num_Parse.l0] at H; by_cases c16 : x36_4 < (x4_5.size : Int)
                    · rw [if_pos c16] at H
                      have c16b0 : decide (x36_4 < (x4_5.size : Int)) = true := decide_eq_true c16; clear c16; by_cases c17 : 0 ≤ x36_4
                      · rw [if_pos c17] at H
                        have c17b0 : decide (0 ≤ x36_4) = true := decide_eq_true c17; clear c17; by_cases c18 : x36_4 < (x4_5.size : Int)
                        · rw [if_pos c18] at H
                          have c18b0 : decide (x36_4 < (x4_5.size : Int)) = true := decide_eq_true c18; clear c18; by_cases c20 : (bt x4_5 x36_4) < 48
                          · rw [if_pos c20] at H
                            have c20b0 : decide ((bt x4_5 x36_4) < 48) = true := decide_eq_true c20; clear c20; simp only [Option.some.injEq, Prod.mk.injEq] at H; obtain ⟨rfl, rfl⟩ := H; have p19 : 0 ≤ (x36_4 : Int) := of_decide_eq_true (z_11); have q19 : x36_4 < (x4_5.size : Int) := of_decide_eq_true (z_11); have hx19 := bt_at x4_5 x36_4; replace p19 := eq_true p19; replace q19 := eq_true q19
                            go_wp2
                            go_ret2
                            exact z_4
                          · rw [if_neg c20] at H
                            have c20b0 : decide ((bt x4_5 x36_4) < 48) = false := decide_eq_false c20; clear c20; by_cases c22 : (bt x4_5 x36_4) > 57
                            · rw [if_pos c22] at H
                              have c22b0 : decide (57 < (bt x4_5 x36_4)) = true := decide_eq_true c22; clear c22; simp only [Option.some.injEq, Prod.mk.injEq] at H; obtain ⟨rfl, rfl⟩ := H; have p19 : 0 ≤ (x36_4 : Int) := of_decide_eq_true (z_11); have q19 : x36_4 < (x4_5.size : Int) := of_decide_eq_true (z_11); have hx19 := bt_at x4_5 x36_4; replace p19 := eq_true p19; replace q19 := eq_true q19; have p21 : 0 ≤ (x36_4 : Int) := of_decide_eq_true (z_11); have q21 : x36_4 < (x4_5.size : Int) := of_decide_eq_true (z_11); have hx21 := bt_at x4_5 x36_4; replace p21 := eq_true p21; replace q21 := eq_true q21
                              go_wp2
                              go_ret2
                              exact z_4
                            · rw [if_neg c22] at H
                              have c22b0 : decide (57 < (bt x4_5 x36_4)) = false := decide_eq_false c22; clear c22; have H' := A_0 H; clear H; have p19 : 0 ≤ (x36_4 : Int) := of_decide_eq_true (z_11); have q19 : x36_4 < (x4_5.size : Int) := of_decide_eq_true (z_11); have hx19 := bt_at x4_5 x36_4; replace p19 := eq_true p19; replace q19 := eq_true q19; have p21 : 0 ≤ (x36_4 : Int) := of_decide_eq_true (z_11); have q21 : x36_4 < (x4_5.size : Int) := of_decide_eq_true (z_11); have hx21 := bt_at x4_5 x36_4; replace p21 := eq_true p21; replace q21 := eq_true q21
                              go_wp2
                              go_roundg k4
                              case measure => have := HJ1.out; have := HJ5.out; have := HJ8.out; have := HK4.out; omega
                              case rel => exact ⟨(wrap64 (x36_4 + 1)), (z_8), H', ⟨by have := HJ1.out; have := HJ5.out; have := HJ8.out; have := HK4.out; omega⟩, z_173⟩
                        · rw [if_neg c18] at H
                          exact z_15
                      · rw [if_neg c17] at H
                        exact z_15
                    · rw [if_neg c16] at H
                      have c16b0 : decide (x36_4 < (x4_5.size : Int)) = false := decide_eq_false c16; clear c16; replace H := Option.bind_eq_some_iff.mp H; obtain ⟨⟨t102, t103⟩, A230, H⟩ := H; replace H : (if t103 = true then (if x5_5 = true then (if t102 > 9223372036854775808 then (num_Parse.j4 k4 x5_5 t102 (decide (t102 > 9223372036854775808))) else (num_Parse.j4 k4 x5_5 t102 false)) else (num_Parse.j4 k4 x5_5 t102 (decide (t102 > 9223372036854775807)))) else (num_Parse.j4 k4 x5_5 t102 (!t103))) = some (r1, r2) := H; have A23 := A_0 A230; clear A230; have HC24 := A_0 H; clear H
                      go_upto_if 55 with (first | ((with_reducible refine gate_callee (f := 137) rfl ?_); refine goesL_ (some 52) rfl rfl Try.func137 (by kernel_rfl) rfl #[.string x4_5] rfl (z_13) ?_; (with_reducible refine (num_sum.calls k4 x4_5 t102 t103 _ A23.out).mono ?_); rintro e w' ⟨rfl, ⟨nd, rfl⟩⟩; refine ⟨_, rfl, ?_⟩))
                      (try simp only [Act.put, List.setIfInBounds_toArray, List.set_cons_zero, List.set_cons_succ])
                      go_cut [55] (fun v55 wc => ∃ (kq : Nat) (x55_23 : Bool), v55 = .bool x55_23 ∧ Aside0 (num_Parse.j4 kq x5_5 t102 x55_23 = some (r1, r2)) ∧ Aside0 (kq ≤ k4) ∧ Drawn0 w wc)
                      case first =>
                        have H := HC24.out; clear HC24; by_cases c25 : t103 = true
                        · subst c25
                          have H1 : (if x5_5 = true then (if t102 > 9223372036854775808 then (num_Parse.j4 k4 x5_5 t102 (decide (t102 > 9223372036854775808))) else (num_Parse.j4 k4 x5_5 t102 false)) else (num_Parse.j4 k4 x5_5 t102 (decide (t102 > 9223372036854775807)))) = some (r1, r2) := z_171; clear H; have H := H1; clear H1; by_cases c26 : x5_5 = true
                          · subst c26
                            have H1 : (if t102 > 9223372036854775808 then (num_Parse.j4 k4 true t102 (decide (t102 > 9223372036854775808))) else (num_Parse.j4 k4 true t102 false)) = some (r1, r2) := z_171; clear H; have H := H1; clear H1; by_cases c27 : t102 > 9223372036854775808
                            · rw [if_pos c27] at H
                              have c27b0 : decide (9223372036854775808 < t102) = true := decide_eq_true c27; clear c27
                              (first | rw [c27b0] | (simp only [i64_w, i32_w]; rw [c27b0]) | skip)
                              have H' := A_0 H; clear H
                              go_wp2
                              go_meet
                              case rel => exact ⟨_, (decide (t102 > 9223372036854775808)), (z_8), H', ⟨z_176⟩, z_173⟩
                            · rw [if_neg c27] at H
                              have c27b0 : decide (9223372036854775808 < t102) = false := decide_eq_false c27; clear c27
                              (first | rw [c27b0] | (simp only [i64_w, i32_w]; rw [c27b0]) | skip)
                              have H' := A_0 H; clear H
                              go_wp2
                              go_meet
                              case rel => exact ⟨_, (false), (z_8), H', ⟨z_176⟩, z_173⟩
                          · replace c26 := Bool.eq_false_iff.mpr c26
                            subst c26; have H1 : (num_Parse.j4 k4 false t102 (decide (t102 > 9223372036854775807))) = some (r1, r2) := z_172; clear H; have H := H1; clear H1; have H' := A_0 H; clear H
                            go_wp2
                            go_meet
                            case rel => exact ⟨_, (decide (t102 > 9223372036854775807)), (z_8), H', ⟨z_176⟩, z_173⟩
                        · replace c25 := Bool.eq_false_iff.mpr c25
                          subst c25; have H1 : (num_Parse.j4 k4 x5_5 t102 (!false)) = some (r1, r2) := z_172; clear H; have H := H1; clear H1; have H' := A_0 H; clear H
                          go_wp2
                          go_meet
                          case rel => exact ⟨_, (!false), (z_8), H', ⟨z_176⟩, z_173⟩
                      case rest =>
                        clear HC24
                        try clear c1
                        try clear p1
                        try clear q1
                        try clear hx1
                        try clear qi1
                        try clear c2
                        try clear p2
                        try clear q2
                        try clear hx2
                        try clear c3
                        try clear c3b0
                        try clear c3b1
                        try clear c4
                        try clear c4b0
                        try clear c4b1
                        try clear c5
                        try clear p5
                        try clear q5
                        try clear hx5
                        try clear qi5
                        try clear p6
                        try clear c7
                        try clear c8
                        try clear c8b0
                        try clear c8b1
                        try clear c10
                        try clear c10b0
                        try clear c10b1
                        try clear c11
                        try clear c11b0
                        try clear c11b1
                        try clear p12
                        try clear q12
                        try clear hx12
                        try clear qi12
                        try clear c13
                        try clear c13b0
                        try clear c13b1
                        try clear c14
                        try clear c14b0
                        try clear c14b1
                        try clear c15
                        try clear c16
                        try clear c16b0
                        try clear c17
                        try clear c17b0
                        try clear c18
                        try clear c18b0
                        try clear p19
                        try clear q19
                        try clear hx19
                        try clear c20
                        try clear c20b0
                        try clear p21
                        try clear q21
                        try clear hx21
                        try clear c22
                        try clear c22b0
                        try clear c25
                        try clear c26
                        try clear c27
                        try clear c27b0
                        try clear p1
                        try clear p12
                        try clear p19
                        try clear p2
                        try clear p21
                        try clear p5
                        try clear q1
                        try clear q12
                        try clear q19
                        try clear q21
                        try clear q5
                        obtain ⟨kq, x55_23, rfl, HA, HJ23, ⟨mc23, rfl⟩⟩ := hcut; cases kq with
                        | zero => exact absurd HA.out (by simp [num_Parse.j4])
                        | succ kj23 =>
                          have H := HA.out; clear HA; simp only [num_Parse.j4] at H; by_cases c28 : x55_23 = true
                          · subst c28
                            have H1 : (some (0, 11)) = some (r1, r2) := z_171; clear H; have H := H1; clear H1; simp only [Option.some.injEq, Prod.mk.injEq] at H; obtain ⟨rfl, rfl⟩ := H
                            go_wp2
                            go_ret2
                            exact z_4
                          · replace c28 := Bool.eq_false_iff.mpr c28
                            subst c28; have H1 : (if x5_5 = true then (some (wrap64 (IntKind.u64.wrap (-t102)), 0)) else (some (wrap64 (t102), 0))) = some (r1, r2) := z_172; clear H; have H := H1; clear H1; by_cases c29 : x5_5 = true
                            · subst c29
                              have H1 : (some (wrap64 (IntKind.u64.wrap (-t102)), 0)) = some (r1, r2) := z_171; clear H; have H := H1; clear H1; simp only [Option.some.injEq, Prod.mk.injEq] at H; obtain ⟨rfl, rfl⟩ := H
                              go_wp2
                              go_ret2
                              exact z_4
                            · replace c29 := Bool.eq_false_iff.mpr c29
                              subst c29; have H1 : (some (wrap64 (t102), 0)) = some (r1, r2) := z_172; clear H; have H := H1; clear H1; simp only [Option.some.injEq, Prod.mk.injEq] at H; obtain ⟨rfl, rfl⟩ := H
                              go_wp2
                              go_ret2
                              exact z_4
def lex_Words.f (a0 : ByteArray) : Option (Bool) := if a0.toList = ([118, 97, 114] : List UInt8) then (some true) else (if a0.toList = ([105, 102] : List UInt8) then (some true) else (if a0.toList = ([101, 108, 115, 101] : List UInt8) then (some true) else (if a0.toList = ([119, 104, 105, 108, 101] : List UInt8) then (some true) else (if a0.toList = ([101, 109, 105, 116] : List UInt8) then (some true) else (if a0.toList = ([105, 110, 116, 111] : List UInt8) then (some true) else (if a0.toList = ([102, 97, 105, 108] : List UInt8) then (some true) else (if a0.toList = ([115, 116, 111, 112] : List UInt8) then (some true) else (if a0.toList = ([109] : List UInt8) then (some true) else (if a0.toList = ([109, 105, 110] : List UInt8) then (some true) else (if a0.toList = ([109, 97, 120] : List UInt8) then (some true) else (some false)))))))))))
set_option maxHeartbeats 8000000 in
set_option maxRecDepth 100000 in
theorem lex_Words.calls (a0 : ByteArray) (r : Bool) (w : World) (h : lex_Words.f a0 = some r) :
    Calls Try.prog 124 #[.string a0] w fun e w' => e = .returned (.bool r) ∧ Drawn0 w w' := by
  have H : (if a0.toList = ([118, 97, 114] : List UInt8) then (some true) else (if a0.toList = ([105, 102] : List UInt8) then (some true) else (if a0.toList = ([101, 108, 115, 101] : List UInt8) then (some true) else (if a0.toList = ([119, 104, 105, 108, 101] : List UInt8) then (some true) else (if a0.toList = ([101, 109, 105, 116] : List UInt8) then (some true) else (if a0.toList = ([105, 110, 116, 111] : List UInt8) then (some true) else (if a0.toList = ([102, 97, 105, 108] : List UInt8) then (some true) else (if a0.toList = ([115, 116, 111, 112] : List UInt8) then (some true) else (if a0.toList = ([109] : List UInt8) then (some true) else (if a0.toList = ([109, 105, 110] : List UInt8) then (some true) else (if a0.toList = ([109, 97, 120] : List UInt8) then (some true) else (some false)))))))))))) = some r := h; clear h; by_cases c2 : a0.toList = ([118, 97, 114] : List UInt8)
  · rw [if_pos c2] at H
    have c2b0 : (a0.toList == ([118, 97, 114] : List UInt8)) = true := beq_iff_eq.mpr c2; have c2b1 : (a0.toList != ([118, 97, 114] : List UInt8)) = false := bne_eq_false_iff_eq.mpr c2; clear c2; obtain rfl := Option.some.inj H
    go_enter Try.func124, Try.ntmps124
    go_wp2
    go_ret
    exact z_4
  · rw [if_neg c2] at H
    have c2b0 : (a0.toList == ([118, 97, 114] : List UInt8)) = false := beq_eq_false_iff_ne.mpr c2; have c2b1 : (a0.toList != ([118, 97, 114] : List UInt8)) = true := bne_iff_ne.mpr c2; by_cases c3 : a0.toList = ([105, 102] : List UInt8)
    · rw [if_pos c3] at H
      have c3b0 : (a0.toList == ([105, 102] : List UInt8)) = true := beq_iff_eq.mpr c3; have c3b1 : (a0.toList != ([105, 102] : List UInt8)) = false := bne_eq_false_iff_eq.mpr c3; clear c3; obtain rfl := Option.some.inj H
      go_enter Try.func124, Try.ntmps124
      go_wp2
      go_ret
      exact z_4
    · rw [if_neg c3] at H
      have c3b0 : (a0.toList == ([105, 102] : List UInt8)) = false := beq_eq_false_iff_ne.mpr c3; have c3b1 : (a0.toList != ([105, 102] : List UInt8)) = true := bne_iff_ne.mpr c3; by_cases c4 : a0.toList = ([101, 108, 115, 101] : List UInt8)
      · rw [if_pos c4] at H
        have c4b0 : (a0.toList == ([101, 108, 115, 101] : List UInt8)) = true := beq_iff_eq.mpr c4; have c4b1 : (a0.toList != ([101, 108, 115, 101] : List UInt8)) = false := bne_eq_false_iff_eq.mpr c4; clear c4; obtain rfl := Option.some.inj H
        go_enter Try.func124, Try.ntmps124
        go_wp2
        go_ret
        exact z_4
      · rw [if_neg c4] at H
        have c4b0 : (a0.toList == ([101, 108, 115, 101] : List UInt8)) = false := beq_eq_false_iff_ne.mpr c4; have c4b1 : (a0.toList != ([101, 108, 115, 101] : List UInt8)) = true := bne_iff_ne.mpr c4; by_cases c5 : a0.toList = ([119, 104, 105, 108, 101] : List UInt8)
        · rw [if_pos c5] at H
          have c5b0 : (a0.toList == ([119, 104, 105, 108, 101] : List UInt8)) = true := beq_iff_eq.mpr c5; have c5b1 : (a0.toList != ([119, 104, 105, 108, 101] : List UInt8)) = false := bne_eq_false_iff_eq.mpr c5; clear c5; obtain rfl := Option.some.inj H
          go_enter Try.func124, Try.ntmps124
          go_wp2
          go_ret
          exact z_4
        · rw [if_neg c5] at H
          have c5b0 : (a0.toList == ([119, 104, 105, 108, 101] : List UInt8)) = false := beq_eq_false_iff_ne.mpr c5; have c5b1 : (a0.toList != ([119, 104, 105, 108, 101] : List UInt8)) = true := bne_iff_ne.mpr c5; by_cases c6 : a0.toList = ([101, 109, 105, 116] : List UInt8)
          · rw [if_pos c6] at H
            have c6b0 : (a0.toList == ([101, 109, 105, 116] : List UInt8)) = true := beq_iff_eq.mpr c6; have c6b1 : (a0.toList != ([101, 109, 105, 116] : List UInt8)) = false := bne_eq_false_iff_eq.mpr c6; clear c6; obtain rfl := Option.some.inj H
            go_enter Try.func124, Try.ntmps124
            go_wp2
            go_ret
            exact z_4
          · rw [if_neg c6] at H
            have c6b0 : (a0.toList == ([101, 109, 105, 116] : List UInt8)) = false := beq_eq_false_iff_ne.mpr c6; have c6b1 : (a0.toList != ([101, 109, 105, 116] : List UInt8)) = true := bne_iff_ne.mpr c6; by_cases c7 : a0.toList = ([105, 110, 116, 111] : List UInt8)
            · rw [if_pos c7] at H
              have c7b0 : (a0.toList == ([105, 110, 116, 111] : List UInt8)) = true := beq_iff_eq.mpr c7; have c7b1 : (a0.toList != ([105, 110, 116, 111] : List UInt8)) = false := bne_eq_false_iff_eq.mpr c7; clear c7; obtain rfl := Option.some.inj H
              go_enter Try.func124, Try.ntmps124
              go_wp2
              go_ret
              exact z_4
            · rw [if_neg c7] at H
              have c7b0 : (a0.toList == ([105, 110, 116, 111] : List UInt8)) = false := beq_eq_false_iff_ne.mpr c7; have c7b1 : (a0.toList != ([105, 110, 116, 111] : List UInt8)) = true := bne_iff_ne.mpr c7; by_cases c8 : a0.toList = ([102, 97, 105, 108] : List UInt8)
              · rw [if_pos c8] at H
                have c8b0 : (a0.toList == ([102, 97, 105, 108] : List UInt8)) = true := beq_iff_eq.mpr c8; have c8b1 : (a0.toList != ([102, 97, 105, 108] : List UInt8)) = false := bne_eq_false_iff_eq.mpr c8; clear c8; obtain rfl := Option.some.inj H
                go_enter Try.func124, Try.ntmps124
                go_wp2
                go_ret
                exact z_4
              · rw [if_neg c8] at H
                have c8b0 : (a0.toList == ([102, 97, 105, 108] : List UInt8)) = false := beq_eq_false_iff_ne.mpr c8; have c8b1 : (a0.toList != ([102, 97, 105, 108] : List UInt8)) = true := bne_iff_ne.mpr c8; by_cases c9 : a0.toList = ([115, 116, 111, 112] : List UInt8)
                · rw [if_pos c9] at H
                  have c9b0 : (a0.toList == ([115, 116, 111, 112] : List UInt8)) = true := beq_iff_eq.mpr c9; have c9b1 : (a0.toList != ([115, 116, 111, 112] : List UInt8)) = false := bne_eq_false_iff_eq.mpr c9; clear c9; obtain rfl := Option.some.inj H
                  go_enter Try.func124, Try.ntmps124
                  go_wp2
                  go_ret
                  exact z_4
                · rw [if_neg c9] at H
                  have c9b0 : (a0.toList == ([115, 116, 111, 112] : List UInt8)) = false := beq_eq_false_iff_ne.mpr c9; have c9b1 : (a0.toList != ([115, 116, 111, 112] : List UInt8)) = true := bne_iff_ne.mpr c9; by_cases c10 : a0.toList = ([109] : List UInt8)
                  · rw [if_pos c10] at H
                    have c10b0 : (a0.toList == ([109] : List UInt8)) = true := beq_iff_eq.mpr c10; have c10b1 : (a0.toList != ([109] : List UInt8)) = false := bne_eq_false_iff_eq.mpr c10; clear c10; obtain rfl := Option.some.inj H
                    go_enter Try.func124, Try.ntmps124
                    go_wp2
                    go_ret
                    exact z_4
                  · rw [if_neg c10] at H
                    have c10b0 : (a0.toList == ([109] : List UInt8)) = false := beq_eq_false_iff_ne.mpr c10; have c10b1 : (a0.toList != ([109] : List UInt8)) = true := bne_iff_ne.mpr c10; by_cases c11 : a0.toList = ([109, 105, 110] : List UInt8)
                    · rw [if_pos c11] at H
                      have c11b0 : (a0.toList == ([109, 105, 110] : List UInt8)) = true := beq_iff_eq.mpr c11; have c11b1 : (a0.toList != ([109, 105, 110] : List UInt8)) = false := bne_eq_false_iff_eq.mpr c11; clear c11; obtain rfl := Option.some.inj H
                      go_enter Try.func124, Try.ntmps124
                      go_wp2
                      go_ret
                      exact z_4
                    · rw [if_neg c11] at H
                      have c11b0 : (a0.toList == ([109, 105, 110] : List UInt8)) = false := beq_eq_false_iff_ne.mpr c11; have c11b1 : (a0.toList != ([109, 105, 110] : List UInt8)) = true := bne_iff_ne.mpr c11; by_cases c12 : a0.toList = ([109, 97, 120] : List UInt8)
                      · rw [if_pos c12] at H
                        have c12b0 : (a0.toList == ([109, 97, 120] : List UInt8)) = true := beq_iff_eq.mpr c12; have c12b1 : (a0.toList != ([109, 97, 120] : List UInt8)) = false := bne_eq_false_iff_eq.mpr c12; clear c12; obtain rfl := Option.some.inj H
                        go_enter Try.func124, Try.ntmps124
                        go_wp2
                        go_ret
                        exact z_4
                      · rw [if_neg c12] at H
                        have c12b0 : (a0.toList == ([109, 97, 120] : List UInt8)) = false := beq_eq_false_iff_ne.mpr c12; have c12b1 : (a0.toList != ([109, 97, 120] : List UInt8)) = true := bne_iff_ne.mpr c12; obtain rfl := Option.some.inj H
                        go_enter Try.func124, Try.ntmps124
                        go_wp2
                        go_ret
                        exact z_4
end Go.Proofs.Ytobkdmmnbnpemaa.Lx
