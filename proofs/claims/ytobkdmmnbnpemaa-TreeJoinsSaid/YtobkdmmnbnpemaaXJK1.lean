/- Walks of the seat's own: outriderref04_Count, outriderref04_Nodes, outriderlaw04_Great, tree_counter_one, lex_digit, lex_letter; they began as parts of a print and were turned. -/
import Derived.Test.YtobkdmmnbnpemaaXJK0
namespace Go.Proofs.Ytobkdmmnbnpemaa.K
open Go.RowKit Go.Proofs.YtobkdmmnbnpemaaW.PrintWords Go.Proofs.YtobkdmmnbnpemaaW.PrintLast Go.Proofs.YtobkdmmnbnpemaaW.PrintMore
attribute [local go_sem] max2_int min2_int max_two min_two max_three min_three max_four min_four
set_option linter.unusedVariables false
set_option linter.unusedSimpArgs false
def IsS95 (w0 W : World) (g : Nat) (f0 : Int) : Prop := W.heap[g]? = some (.cells #[.int .i64 f0] 95 (0, 0)) ∧ w0.heap.size ≤ g
theorem IsS95.grown {w0 W : World} {g : Nat} {f0 : Int} {W1 : World} {row : Option Nat} (h : IsS95 w0 W g f0) (hw : W.grownBy W1 row) (hne : some g ≠ row) : IsS95 w0 W1 g f0 := by
  obtain ⟨hb, hg⟩ := h; exact ⟨blk_grown hb hw hne, hg⟩
theorem IsS95.kept {w0 W : World} {g : Nat} {f0 : Int} {W1 : World} {S : Nat → Prop} (h : IsS95 w0 W g f0) (hk : Kept W W1 S) (hne : ¬ S g) : IsS95 w0 W1 g f0 := by
  obtain ⟨hb, hg⟩ := h; exact ⟨blk_kept hb hk hne, hg⟩
theorem IsS95.below {w0 W : World} {g : Nat} {f0 : Int} {W1 : World} (h : IsS95 w0 W g f0) (hw : Below W.heap.size W W1) : IsS95 w0 W1 g f0 := h.grown (grown_of_below hw none) (by simp)
theorem IsS95.alloc {w0 W : World} {g : Nat} {f0 : Int} (h : IsS95 w0 W g f0) (o : Obj) : IsS95 w0 (W.alloc o) g f0 := h.below (below_alloc (Below.refl _ _) o)
theorem IsS95.drewN {w0 W : World} {g : Nat} {f0 : Int} (h : IsS95 w0 W g f0) (m : Nat) : IsS95 w0 (W.drewN m) g f0 := h
theorem IsS95.drew {w0 W : World} {g : Nat} {f0 : Int} (h : IsS95 w0 W g f0) : IsS95 w0 W.drew g f0 := h
theorem IsS95.at_ {w0 W : World} {g : Nat} {f0 : Int} {w' : World} {m : Nat} (hq : W.drewN m = w') (h : IsS95 w0 W g f0) : IsS95 w0 w' g f0 := by subst hq; exact IsS95.drewN h m
theorem IsS95.apart {w0 W : World} {g : Nat} {f0 : Int} {α : Type} {d : Kd α} {e : Nat} {base : Nat} {ok : Nat → Prop} {v : Value} {xs : List α} (h : IsS95 w0 W g f0) (ho : d.R e W base ok v xs) (ht : ∀ q, q ∈ e :: d.E → q ≠ 95) : d.R e W base (fun k => ok k ∧ k ≠ g) v xs := by
  obtain ⟨hb, hg⟩ := h; exact Kd.R_types ho hb ht
theorem IsS95.own_ne {w0 W : World} {g : Nat} {f0 : Int} {α : Type} {d : Kd α} {e : Nat} {base : Nat} {ok : Nat → Prop} {v : Value} {xs : List α} (h : IsS95 w0 W g f0) (ho : d.R e W base ok v xs) (ht : e ≠ 95) : some g ≠ v.ownBlock := by
  obtain ⟨hb, hg⟩ := h; exact Kd.R_ne ho hb ht
theorem IsS95.lt {w0 W : World} {g : Nat} {f0 : Int} (h : IsS95 w0 W g f0) : g < W.heap.size := by
  obtain ⟨hb, hg⟩ := h; exact blk_lt hb
theorem IsS95.ge {w0 W : World} {g : Nat} {f0 : Int} (h : IsS95 w0 W g f0) : w0.heap.size ≤ g := by
  obtain ⟨hb, hg⟩ := h; exact hg
theorem IsS95.ne_blk {w0 W : World} {g : Nat} {f0 : Int} {a : Nat} {cs : Array Value} {t : TypeId} {fr : Nat × Nat} (h : IsS95 w0 W g f0) (hb2 : W.heap[a]? = some (.cells cs t fr)) (ht : t ≠ 95) : g ≠ a := by
  obtain ⟨hb, hg⟩ := h; rintro rfl; rw [hb] at hb2; injection hb2 with hb2; injection hb2 with _ ht2; exact ht ht2.symm
theorem IsS95.far {w0 W : World} {g : Nat} {f0 : Int} {p : Addr} (h : IsS95 w0 W g f0) (hne : g ≠ p.block) (u : Value) : IsS95 w0 (W.setCell p u) g f0 := by
  obtain ⟨hb, hg⟩ := h; exact ⟨blk_far hb hne u, hg⟩
theorem IsS95.set_0 {w0 W : World} {g : Nat} {f0 : Int} (h : IsS95 w0 W g f0) (x : Int) : IsS95 w0 (W.setCell ⟨g, 0, none⟩ (.int .i64 x)) g x := by
  obtain ⟨hb, hg⟩ := h; exact ⟨by simpa using blk_set hb 0 (.int .i64 x), hg⟩
def lex_digit.f (a0 : Int) : Option (Bool) := if a0 ≥ 48 then (some (decide (a0 ≤ 57))) else (some false)
set_option maxHeartbeats 8000000 in
set_option maxRecDepth 100000 in
theorem lex_digit.calls (a0 : Int) (r : Bool) (w : World) (h : lex_digit.f a0 = some r) :
    Calls Try.prog 96 #[.int .u8 a0] w fun e w' => e = .returned (.bool r) ∧ Drawn0 w w' := by
  have H : (if a0 ≥ 48 then (some (decide (a0 ≤ 57))) else (some false)) = some r := h; clear h; by_cases c2 : a0 ≥ 48
  · rw [if_pos c2] at H
    have c2b0 : decide (48 ≤ a0) = true := decide_eq_true c2; clear c2; obtain rfl := Option.some.inj H
    go_enter Try.func96, Try.ntmps96
    go_wp2
    go_ret
    exact z_4
  · rw [if_neg c2] at H
    have c2b0 : decide (48 ≤ a0) = false := decide_eq_false c2; clear c2; obtain rfl := Option.some.inj H
    go_enter Try.func96, Try.ntmps96
    go_wp2
    go_ret
    exact z_4
def lex_letter.f (a0 : Int) : Option (Bool) := if a0 ≥ 97 then (if a0 ≤ 122 then (some true) else (if a0 ≥ 65 then (if a0 ≤ 90 then (some true) else (some (a0 == 95))) else (some (a0 == 95)))) else (if a0 ≥ 65 then (if a0 ≤ 90 then (some true) else (some (a0 == 95))) else (some (a0 == 95)))
set_option maxHeartbeats 8000000 in
set_option maxRecDepth 100000 in
theorem lex_letter.calls (a0 : Int) (r : Bool) (w : World) (h : lex_letter.f a0 = some r) :
    Calls Try.prog 98 #[.int .u8 a0] w fun e w' => e = .returned (.bool r) ∧ Drawn0 w w' := by
  have H : (if a0 ≥ 97 then (if a0 ≤ 122 then (some true) else (if a0 ≥ 65 then (if a0 ≤ 90 then (some true) else (some (a0 == 95))) else (some (a0 == 95)))) else (if a0 ≥ 65 then (if a0 ≤ 90 then (some true) else (some (a0 == 95))) else (some (a0 == 95)))) = some r := h; clear h; by_cases c2 : a0 ≥ 97
  · rw [if_pos c2] at H
    have c2b0 : decide (97 ≤ a0) = true := decide_eq_true c2; clear c2; by_cases c3 : a0 ≤ 122
    · rw [if_pos c3] at H
      have c3b0 : decide (a0 ≤ 122) = true := decide_eq_true c3; clear c3; obtain rfl := Option.some.inj H
      go_enter Try.func98, Try.ntmps98
      go_wp2
      go_ret
      exact z_4
    · rw [if_neg c3] at H
      have c3b0 : decide (a0 ≤ 122) = false := decide_eq_false c3; clear c3; by_cases c4 : a0 ≥ 65
      · rw [if_pos c4] at H
        have c4b0 : decide (65 ≤ a0) = true := decide_eq_true c4; clear c4; by_cases c5 : a0 ≤ 90
        · rw [if_pos c5] at H
          have c5b0 : decide (a0 ≤ 90) = true := decide_eq_true c5; clear c5; obtain rfl := Option.some.inj H
          go_enter Try.func98, Try.ntmps98
          go_wp2
          go_ret
          exact z_4
        · rw [if_neg c5] at H
          have c5b0 : decide (a0 ≤ 90) = false := decide_eq_false c5; clear c5; obtain rfl := Option.some.inj H
          go_enter Try.func98, Try.ntmps98
          go_wp2
          go_ret
          exact z_4
      · rw [if_neg c4] at H
        have c4b0 : decide (65 ≤ a0) = false := decide_eq_false c4; clear c4; obtain rfl := Option.some.inj H
        go_enter Try.func98, Try.ntmps98
        go_wp2
        go_ret
        exact z_4
  · rw [if_neg c2] at H
    have c2b0 : decide (97 ≤ a0) = false := decide_eq_false c2; clear c2; by_cases c6 : a0 ≥ 65
    · rw [if_pos c6] at H
      have c6b0 : decide (65 ≤ a0) = true := decide_eq_true c6; clear c6; by_cases c7 : a0 ≤ 90
      · rw [if_pos c7] at H
        have c7b0 : decide (a0 ≤ 90) = true := decide_eq_true c7; clear c7; obtain rfl := Option.some.inj H
        go_enter Try.func98, Try.ntmps98
        go_wp2
        go_ret
        exact z_4
      · rw [if_neg c7] at H
        have c7b0 : decide (a0 ≤ 90) = false := decide_eq_false c7; clear c7; obtain rfl := Option.some.inj H
        go_enter Try.func98, Try.ntmps98
        go_wp2
        go_ret
        exact z_4
    · rw [if_neg c6] at H
      have c6b0 : decide (65 ≤ a0) = false := decide_eq_false c6; clear c6; obtain rfl := Option.some.inj H
      go_enter Try.func98, Try.ntmps98
      go_wp2
      go_ret
      exact z_4
end Go.Proofs.Ytobkdmmnbnpemaa.K
