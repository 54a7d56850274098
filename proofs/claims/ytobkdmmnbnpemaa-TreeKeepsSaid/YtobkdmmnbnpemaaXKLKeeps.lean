/- TreeKeeps' function, walked by hand. -/
import Derived.Test.YtobkdmmnbnpemaaXKPD
import Derived.Test.YtobkdmmnbnpemaaXKM2
import Derived.Test.YtobkdmmnbnpemaaXKPR6
namespace Go.Proofs.Ytobkdmmnbnpemaa.K
open Go.RowKit Go.Proofs.YtobkdmmnbnpemaaW.PrintWords Go.Proofs.YtobkdmmnbnpemaaW.PrintLast Go.Proofs.YtobkdmmnbnpemaaW.PrintMore
attribute [local go_sem] max2_int min2_int max_two min_two max_three min_three max_four min_four
set_option linter.unusedVariables false
set_option linter.unusedSimpArgs false
theorem right_read {l : List S41} (h : l.all (fitSt (fitB 12)) = true) (hc : cntB l ≤ 600) : rightB l = true := by
  rw [rightB_eq, decide_eq_true hc]; simp only [Bool.and_true]; exact h
theorem keeps_err (s : ByteArray) (er at_ : Int) (hr : parV s = .error (er, at_)) (he : er ≠ 0) (h0 : 0 ≤ at_) (h1 : at_ ≤ s.size) (w : World) : Calls Try.prog 10 #[.string s] w fun r w' => r = .returned (.bool true) ∧ Below w.heap.size w w' := by
  have d0 : (er != 0) = true := bne_iff_ne.2 he; have d1 := eq_true h0; have d2 := eq_true h1; clear he h0 h1; have HP := A_0 (parse_V s w); rw [hr] at HP; have HP' := A_0 HP.out
  go_enter Try.func10, Try.ntmps10
  go_wp2_with fail
  (with_reducible refine (parse_V s _).mono ?_)
  rw [hr]; rintro r w1 hp; obtain ⟨rfl, hb⟩ := hp.err; have HB := A_0 hb; clear hp hb
  go_wp2_with fail
  (with_reducible refine (alive_LV _).mono ?_)
  rintro r w2 ⟨rfl, hb⟩; have n0_ := A_0 (below_step HB.out hb); clear HB hb
  go_wp2
  exact ⟨rfl, _, by simp [results, Try.results10, go_sem], rfl, n0_.out⟩
theorem keeps_ok (s : ByteArray) (l : List S41) (hr : parV s = .ok l) (ha : l.all (fitSt (fitB 12)) = true) (hn : cntB l ≤ 600) (w : World) : Calls Try.prog 10 #[.string s] w fun r w' => r = .returned (.bool true) ∧ Below w.heap.size w w' := by
  have d1 := eq_true (show ((cntB l : Nat) : Int) ≤ 600 by omega)
  have HR := A_0 (right_read ha hn); have HL := A_0 (show cntB l ≤ 1000000 by omega)
  clear ha hn
  go_enter Try.func10, Try.ntmps10
  go_wp2_with fail
  (with_reducible refine (parse_V s _).mono ?_)
  rw [hr]; rintro r w1 hp; obtain ⟨A, c, rfl, hF, hc, hb⟩ := hp.ok; have HF := A_0 (Kd.F_now hF); have HC := A_0 hc; have HB := A_0 hb; have HD := A_0 (Below.refl w1.heap.size w1); clear hp hb hF hc
  go_wp2_with fail
  (with_reducible refine (right_calls A c l _ HF.out HC.out true HR.out).mono ?_)
  rintro r w2 ⟨rfl, hb⟩; have n0_ := A_0 (below_step HB.out hb); have n1_ := A_0 hb; clear HB hb HD; have HB := n0_; have HD := n1_; clear n0_ n1_
  go_wp2_with fail
  (with_reducible refine (tnodes_L l A c _ (Kd.C_below HF.out HD.out) HC.out HL.out).mono ?_)
  rintro r w3 ⟨rfl, hb⟩; have n0_ := A_0 (below_step HB.out hb); clear HB hb; have HB := n0_; clear n0_
  go_wp2_with fail
  (with_reducible refine (alive_LV _).mono ?_)
  rintro r w4 ⟨rfl, hb⟩; have n0_ := A_0 (below_step HB.out hb); clear HB hb
  go_wp2
  exact ⟨rfl, _, by simp [results, Try.results10, go_sem], rfl, n0_.out⟩
theorem keeps_walk (s : ByteArray) (w : World) : Calls Try.prog 10 #[.string s] w fun r w' => r = .returned (.bool true) ∧ Below w.heap.size w w' := by
  rcases parV_cases s with ⟨a, e, h, h1, h2, h3, h4⟩ | ⟨T, r, h, H, h1, h2, h3⟩
  · exact keeps_err s e a h4 h1 h2 h3 w
  · rcases r with ⟨er, at_⟩ | l
    · obtain ⟨⟨q1, q2⟩, q3⟩ := h3
      dsimp only at q1 q2 q3; exact keeps_err s er at_ h2 (by omega) q1 q2 w
    · exact keeps_ok s l h2 h3.1 h3.2 w
end Go.Proofs.Ytobkdmmnbnpemaa.K
