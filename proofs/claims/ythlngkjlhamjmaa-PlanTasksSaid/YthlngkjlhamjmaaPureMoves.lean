/- The plain laws behind PlanMoves and PlanBack. -/
import Derived.Test.YthlngkjlhamjmaaPurePlan
import Derived.Test.YthlngkjlhamjmaaKMoves
import Derived.Test.YthlngkjlhamjmaaKBack
namespace Go.Proofs.Ythlngkjlhamjmaa.PurePlan
open Go.RowKit Go.Proofs.YthlngkjlhamjmaaW.PrintWords Go.Proofs.Ythlngkjlhamjmaa.K

theorem cnt_move (lo hi st b : Int) : cnt (lo + b) (hi + b) st = cnt lo hi st := by
  unfold cnt
  have e1 : lo + b - (hi + b) - 1 = lo - hi - 1 := by omega
  have e2 : hi + b - (lo + b) - 1 = hi - lo - 1 := by omega
  rw [e1, e2]
  simp

theorem count_move (lo hi st it sg b : Int) : countR 1 (lo + b) (hi + b) st it sg = countR 1 lo hi st it sg := by
  unfold countR loopR
  rw [cnt_move]
  rfl

theorem wrap_wrap (a b c : Int) : wrap64 (wrap64 (a + c) + b) = wrap64 (a + b + c) := by unfold wrap64; omega

theorem moves (kd lo hi st it sg b age : Int) (h1 : In lo) (h2 : In hi) (h3 : In st) : ∃ k, outriderlaw15_PlanMoves.f k kd lo hi st it sg b age = some true := by
  refine ⟨204, ?_⟩
  have ha := alive_val 0
  have hj : outriderlaw15_PlanMoves.j0 204 b age true kd lo hi st it sg = some true := by
    rw [outriderlaw15_PlanMoves.j0, if_pos rfl, ha]
    rfl
  unfold outriderlaw15_PlanMoves.f
  by_cases c0 : kd = 1
  · rw [if_pos c0]
    subst c0
    by_cases c1 : lo < -1099511627776
    · rw [if_pos c1, hj]
    · rw [if_neg c1]
      by_cases c2 : lo > 1099511627776
      · rw [if_pos c2, hj]
      · rw [if_neg c2]
        by_cases c3 : hi < -1099511627776
        · rw [if_pos c3, hj]
        · rw [if_neg c3]
          by_cases c4 : hi > 1099511627776
          · rw [if_pos c4, hj]
          · rw [if_neg c4]
            by_cases c5 : b < -1099511627776
            · rw [if_pos c5, hj]
            · rw [if_neg c5]
              by_cases c6 : b > 1099511627776
              · rw [decide_eq_true c6, hj]
              · rw [decide_eq_false c6]
                have e1 : wrap64 (lo + b) = lo + b := IntWalk.wrap64_in _ (by omega)
                have e2 : wrap64 (hi + b) = hi + b := IntWalk.wrap64_in _ (by omega)
                have h4 : In (lo + b) := by unfold In; omega
                have h5 : In (hi + b) := by unfold In; omega
                rw [outriderlaw15_PlanMoves.j0, if_neg (by decide), e1, e2, count_val 201 1 lo hi st it sg h1 h2 h3, count_val 201 1 _ _ st it sg h4 h5 h3, at_val 201 1 lo hi st it sg age h1 h2 h3, at_val 201 1 _ _ st it sg age h4 h5 h3, ha]
                simp only [Option.bind_some]
                have hc := count_move lo hi st it sg b
                unfold atR
                rw [hc]
                generalize countR 1 lo hi st it sg = c
                rw [if_pos rfl, if_pos rfl]
                by_cases d1 : c.2 = 0
                · rw [if_pos d1, if_pos d1]
                  by_cases d2 : age < 0 ∨ age ≥ c.1
                  · rw [if_pos d2, if_pos d2]
                    simp
                  · rw [if_neg d2, if_neg d2]
                    simp only [if_neg (show ¬ ((1 : Int) = 2) by decide), if_true, wrap_wrap]
                · rw [if_neg d1, if_neg d1]
                  rw [if_pos rfl, if_neg d1]
  · rw [if_neg c0, hj]

/-- Where Count tells an error it tells no number. -/
theorem count_err (kd lo hi st it sg : Int) (h : (countR kd lo hi st it sg).2 ≠ 0) : (countR kd lo hi st it sg).1 = 0 := by
  revert h
  unfold countR loopR
  repeat' split
  all_goals simp

/-- Of a loop: an age within the count takes it to a number from Lo on, ahead of Hi. -/
theorem for_in (lo hi st it sg a : Int) (h1 : In lo) (h2 : In hi) (he : (countR 1 lo hi st it sg).2 = 0) (h0 : 0 ≤ a) (ha : a < (countR 1 lo hi st it sg).1) :
    st ≠ 0 ∧ In (lo + a * st) := by
  revert he ha
  unfold In at *
  unfold countR
  rw [if_pos rfl]
  by_cases c1 : it = 0 ∧ sg = 0
  · rw [if_pos c1]
    unfold loopR
    by_cases c2 : st = 0
    · rw [if_pos c2]; intro h; simp at h
    · rw [if_neg c2]
      by_cases c3 : cnt lo hi st > 200
      · rw [if_pos c3]; intro h; simp at h
      · rw [if_neg c3]
        intro _ ha
        refine ⟨c2, ?_⟩
        simp only at ha
        unfold cnt at ha
        by_cases c4 : st < 0
        · rw [if_pos c4] at ha
          by_cases c5 : lo ≤ hi
          · rw [if_pos c5] at ha; omega
          · rw [if_neg c5] at ha
            have m1 : a * (-st) ≤ (lo - hi - 1) / (-st) * (-st) := Int.mul_le_mul_of_nonneg_right (by omega) (by omega)
            have m2 := Int.ediv_mul_le (lo - hi - 1) (b := -st) (by omega)
            have m3 : 0 ≤ a * (-st) := Int.mul_nonneg h0 (by omega)
            have m4 : a * (-st) = -(a * st) := Int.mul_neg a st
            omega
        · rw [if_neg c4] at ha
          by_cases c5 : lo ≥ hi
          · rw [if_pos c5] at ha; omega
          · rw [if_neg c5] at ha
            have m1 : a * st ≤ (hi - lo - 1) / st * st := Int.mul_le_mul_of_nonneg_right (by omega) (by omega)
            have m2 := Int.ediv_mul_le (hi - lo - 1) (b := st) (by omega)
            have m3 : 0 ≤ a * st := Int.mul_nonneg h0 (by omega)
            omega
  · rw [if_neg c1]; intro h; simp at h

/-- Of a pipeline: from one to six stages. -/
theorem pipe_in (lo hi st it sg : Int) (he : (countR 2 lo hi st it sg).2 = 0) : 1 ≤ sg ∧ sg ≤ 6 := by
  revert he
  unfold countR
  rw [if_neg (by decide), if_pos rfl]
  by_cases c : lo = 0 ∧ hi = 0 ∧ st = 0 ∧ 0 ≤ it ∧ 1 ≤ sg ∧ sg ≤ 6
  · intro _; exact c.2.2.2.2
  · rw [if_neg c]; intro h; simp at h

theorem kind_of (kd lo hi st it sg : Int) (he : (countR kd lo hi st it sg).2 = 0) : kd = 1 ∨ kd = 2 := by
  by_cases c1 : kd = 1
  · exact .inl c1
  · by_cases c2 : kd = 2
    · exact .inr c2
    · revert he
      unfold countR
      rw [if_neg c1, if_neg c2]
      intro h; simp at h

theorem at_in (kd lo hi st it sg a : Int) (he : (countR kd lo hi st it sg).2 = 0) (h0 : 0 ≤ a) (ha : a < (countR kd lo hi st it sg).1) :
    atR kd lo hi st it sg a = if kd = 2 then (a / sg, a % sg, 0) else (wrap64 (lo + a * st), 0, 0) := by
  unfold atR
  rw [if_pos he, if_neg (by omega)]

/-- Two ages of one shape have not both one index and one stage. -/
theorem at_apart (kd lo hi st it sg a b : Int) (h1 : In lo) (h2 : In hi) (he : (countR kd lo hi st it sg).2 = 0) (h0 : 0 ≤ a) (ha : a < (countR kd lo hi st it sg).1) (h0' : 0 ≤ b) (hb : b < (countR kd lo hi st it sg).1)
    (h : (atR kd lo hi st it sg a).1 = (atR kd lo hi st it sg b).1) (h' : (atR kd lo hi st it sg a).2.1 = (atR kd lo hi st it sg b).2.1) : a = b := by
  rw [at_in kd lo hi st it sg a he h0 ha, at_in kd lo hi st it sg b he h0' hb] at h h'
  rcases kind_of kd lo hi st it sg he with rfl | rfl
  · rw [if_neg (by decide), if_neg (by decide)] at h h'
    obtain ⟨z, i1⟩ := for_in lo hi st it sg a h1 h2 he h0 ha
    obtain ⟨_, i2⟩ := for_in lo hi st it sg b h1 h2 he h0' hb
    simp only at h
    rw [IntWalk.wrap64_in _ i1, IntWalk.wrap64_in _ i2] at h
    exact Int.eq_of_mul_eq_mul_right z (by omega)
  · rw [if_pos rfl, if_pos rfl] at h h'
    obtain ⟨s1, s2⟩ := pipe_in lo hi st it sg he
    simp only at h h'
    rw [← Int.mul_ediv_add_emod a sg, ← Int.mul_ediv_add_emod b sg, h, h']

theorem find_at (kd lo hi st it sg a : Int) (h1 : In lo) (h2 : In hi) (he : (countR kd lo hi st it sg).2 = 0) (ha : a < (countR kd lo hi st it sg).1) (d : Nat) :
    ∀ b, 0 ≤ b → b ≤ a → b + d = (countR kd lo hi st it sg).1 → findR kd lo hi st it sg (atR kd lo hi st it sg a).1 (atR kd lo hi st it sg a).2.1 d b = a := by
  induction d with
  | zero => intro b h0 hb hd; omega
  | succ d ih =>
    intro b h0 hb hd
    unfold findR
    by_cases c : (atR kd lo hi st it sg b).1 = (atR kd lo hi st it sg a).1 ∧ (atR kd lo hi st it sg b).2.1 = (atR kd lo hi st it sg a).2.1
    · rw [if_pos c]
      exact at_apart kd lo hi st it sg b a h1 h2 he h0 (by omega) (by omega) ha c.1 c.2
    · rw [if_neg c]
      have : b ≠ a := by intro e; subst e; exact c ⟨rfl, rfl⟩
      exact ih (b + 1) (by omega) (by omega) (by omega)

theorem div_next (a sg : Int) (s1 : 1 ≤ sg) (s2 : sg ≤ 6) :
    ((a + 1) / sg = a / sg ∧ (a + 1) % sg = a % sg + 1) ∨ ((a + 1) / sg = a / sg + 1 ∧ (a + 1) % sg = 0 ∧ a % sg = sg - 1 ∧ (a + 1) / sg ≠ a / sg) := by
  obtain rfl | rfl | rfl | rfl | rfl | rfl : sg = 1 ∨ sg = 2 ∨ sg = 3 ∨ sg = 4 ∨ sg = 5 ∨ sg = 6 := by omega
  all_goals omega

theorem back (kd lo hi st it sg x : Int) (h1 : In lo) (h2 : In hi) (h3 : In st) : ∃ k, outriderlaw15_PlanBack.f k kd lo hi st it sg x = some true := by
  refine ⟨206, ?_⟩
  have ha := alive_val 1
  have ha2 := alive_val 2
  have cr := count_range kd lo hi st it sg
  have ce := count_err kd lo hi st it sg
  have ki := kind_of kd lo hi st it sg
  have cv := count_val 204 kd lo hi st it sg h1 h2 h3
  unfold outriderlaw15_PlanBack.f
  rw [cv]
  simp only [Option.bind_some]
  by_cases c0 : (countR kd lo hi st it sg).2 = 0
  · rw [if_pos c0]
    by_cases c1 : (countR kd lo hi st it sg).1 = 0
    · rw [beq_iff_eq.2 c1, outriderlaw15_PlanBack.j0, if_pos rfl, if_pos c0, ha2]
      rfl
    · rw [beq_eq_false_iff_ne.2 c1, outriderlaw15_PlanBack.j0, if_neg (by decide), if_neg c1]
      have t1 := Int.tmod_lt_of_pos x (b := (countR kd lo hi st it sg).1) (by omega)
      have t2 := Int.lt_tmod_of_pos x (b := (countR kd lo hi st it sg).1) (by omega)
      rw [IntWalk.wrap64_in _ (by omega), Int.tmod_eq_emod_of_nonneg (by omega)]
      have a0 := Int.emod_nonneg (Int.tmod x (countR kd lo hi st it sg).1 + (countR kd lo hi st it sg).1) (b := (countR kd lo hi st it sg).1) (by omega)
      have a1 := Int.emod_lt_of_pos (Int.tmod x (countR kd lo hi st it sg).1 + (countR kd lo hi st it sg).1) (b := (countR kd lo hi st it sg).1) (by omega)
      generalize (Int.tmod x (countR kd lo hi st it sg).1 + (countR kd lo hi st it sg).1) % (countR kd lo hi st it sg).1 = a at *
      clear t1 t2
      have fv := find_val 2 kd lo hi st it sg (atR kd lo hi st it sg a).1 (atR kd lo hi st it sg a).2.1 h1 h2 h3
      rw [find_at kd lo hi st it sg a h1 h2 c0 a1 _ 0 (by omega) (by omega) (by omega)] at fv
      have av := at_val 203 kd lo hi st it sg a h1 h2 h3
      have av1 := at_val 202 kd lo hi st it sg (a + 1) h1 h2 h3
      have ai := at_in kd lo hi st it sg a c0 a0 a1
      have hz : (atR kd lo hi st it sg a).2.2 = 0 := by
        rw [ai]
        by_cases c : kd = 2
        · rw [if_pos c]
        · rw [if_neg c]
      rw [av]
      simp only [Option.bind_some]
      rw [if_pos hz, fv]
      simp only [Option.bind_some]
      rw [bne_eq_false_iff_eq.2 rfl, outriderlaw15_PlanBack.j1, if_neg (by decide), IntWalk.wrap64_in (a + 1) (by omega)]
      by_cases c2 : a + 1 = (countR kd lo hi st it sg).1
      · rw [if_pos c2, ha]; rfl
      · rw [if_neg c2, av1, ha]
        simp only [Option.bind_some]
        have bi := at_in kd lo hi st it sg (a + 1) c0 (by omega) (by omega)
        rcases ki c0 with rfl | rfl
        · obtain ⟨z, i1⟩ := for_in lo hi st it sg a h1 h2 c0 a0 a1
          obtain ⟨_, i2⟩ := for_in lo hi st it sg (a + 1) h1 h2 c0 (by omega) (by omega)
          rw [ai, bi]
          simp only [if_neg (show ¬ ((1 : Int) = 2) by decide)]
          simp only [if_true]
          rw [IntWalk.wrap64_in _ i1, IntWalk.wrap64_in _ i2]
          have e : lo + (a + 1) * st - (lo + a * st) = st := by
            rw [Int.add_mul]; omega
          rw [e, IntWalk.wrap64_in st h3, if_pos rfl]
        · obtain ⟨s1, s2⟩ := pipe_in lo hi st it sg c0
          rw [ai, bi]
          simp only [if_true]
          rw [if_neg (by decide)]
          have q0 : 0 ≤ a / sg := Int.ediv_nonneg (by omega) (by omega)
          have q1 : a / sg ≤ a := Int.ediv_le_self _ (by omega)
          have q2 := Int.emod_nonneg a (b := sg) (by omega)
          have q3 := Int.emod_lt_of_pos a (b := sg) (by omega)
          rw [IntWalk.wrap64_in (a % sg + 1) (by omega), IntWalk.wrap64_in (a / sg + 1) (by omega), IntWalk.wrap64_in (sg - 1) (by omega)]
          rcases div_next a sg s1 s2 with ⟨d1, d2⟩ | ⟨d1, d2, d3, d4⟩
          · rw [if_pos d1, if_pos d2]
          · rw [if_neg d4, if_pos d1, if_pos d2, if_pos d3]
  · rw [if_neg c0, outriderlaw15_PlanBack.j0, if_pos rfl, if_neg c0, if_pos (ce c0), ha2]
    rfl

end Go.Proofs.Ythlngkjlhamjmaa.PurePlan
