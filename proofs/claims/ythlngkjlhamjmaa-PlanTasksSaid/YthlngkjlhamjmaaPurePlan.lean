/- What the functions of package plan answer, in plain numbers: Count, At, Find. -/
import Derived.Test.YthlngkjlhamjmaaK2
import Derived.IntWalk
namespace Go.Proofs.Ythlngkjlhamjmaa.PurePlan
open Go.RowKit Go.Proofs.YthlngkjlhamjmaaW.PrintWords Go.Proofs.Ythlngkjlhamjmaa.K

def In (x : Int) : Prop := -9223372036854775808 ≤ x ∧ x ≤ 9223372036854775807

def cnt (lo hi st : Int) : Int :=
  if st < 0 then (if lo ≤ hi then 0 else (lo - hi - 1) / (-st) + 1) else (if lo ≥ hi then 0 else (hi - lo - 1) / st + 1)

def loopR (lo hi st : Int) : Int × Int :=
  if st = 0 then (0, 150) else if cnt lo hi st > 200 then (0, 151) else (cnt lo hi st, 0)

theorem u64w (n : Int) : IntKind.u64.wrap n = n % 18446744073709551616 := IntKind.wrap_u64 n

/-- The numbers of the loop: what the last lines of it make of the width and the step. -/
theorem tail_val (k : Nat) (w s : Int) (hw : 0 < w) (hw2 : w ≤ 18446744073709551615) (hs : 0 < s) :
    plan_loop.j0 (k + 1) w s false = some (if (w - 1) / s + 1 > 200 then (0, 151) else ((w - 1) / s + 1, 0)) := by
  simp only [plan_loop.j0]
  rw [if_neg (by decide), if_neg (by omega)]
  have q0 : 0 ≤ (w - 1) / s := Int.ediv_nonneg (by omega) (by omega)
  have q1 : (w - 1) / s ≤ w - 1 := Int.ediv_le_self _ (by omega)
  have e1 : IntKind.u64.wrap (w - 1) = w - 1 := IntWalk.u64_in _ (by omega)
  have e2 : IntKind.u64.wrap ((w - 1).tdiv s) = (w - 1) / s := IntWalk.u64_quo _ _ (by omega)
  rw [e1, e2]
  generalize (w - 1) / s = q at *
  have e3 : IntKind.u64.wrap (q + 1) = q + 1 := IntWalk.u64_in _ (by omega)
  rw [e3]
  by_cases c : q + 1 > 200
  · rw [if_pos c, if_pos c]
  · rw [if_neg c, if_neg c, IntWalk.wrap64_in _ (by omega)]

theorem loop_val (k : Nat) (kd lo hi st it sg : Int) (h1 : In lo) (h2 : In hi) (h3 : In st) :
    plan_loop.f (k + 1) kd lo hi st it sg = some (loopR lo hi st) := by
  unfold In at h1 h2 h3
  unfold plan_loop.f loopR cnt
  by_cases c0 : st = 0
  · rw [if_pos c0, if_pos c0]
  · rw [if_neg c0, if_neg c0]
    by_cases c1 : st < 0
    · rw [if_pos c1]
      simp only [if_pos c1]
      by_cases c2 : lo ≤ hi
      · rw [decide_eq_true c2]
        simp [plan_loop.j0, c2]
      · rw [decide_eq_false c2, if_neg c2]
        have ew : IntKind.u64.wrap (-(IntKind.u64.wrap (IntKind.u64.wrap hi - IntKind.u64.wrap lo))) = lo - hi := by
          simp only [u64w]; omega
        have es : IntKind.u64.wrap (-(IntKind.u64.wrap st)) = -st := by
          simp only [u64w]; omega
        rw [ew, es, tail_val k (lo - hi) (-st) (by omega) (by omega) (by omega)]
    · rw [if_neg c1]
      simp only [if_neg c1]
      by_cases c2 : lo ≥ hi
      · rw [decide_eq_true c2]
        simp [plan_loop.j0, c2]
      · rw [decide_eq_false c2, if_neg c2]
        have ew : IntKind.u64.wrap (IntKind.u64.wrap hi - IntKind.u64.wrap lo) = hi - lo := by
          simp only [u64w]; omega
        have es : IntKind.u64.wrap st = st := by
          simp only [u64w]; omega
        rw [ew, es, tail_val k (hi - lo) st (by omega) (by omega) (by omega)]

/-- Count, in plain numbers. -/
def countR (kd lo hi st it sg : Int) : Int × Int :=
  if kd = 1 then (if it = 0 ∧ sg = 0 then loopR lo hi st else (0, 152))
  else if kd = 2 then
    (if lo = 0 ∧ hi = 0 ∧ st = 0 ∧ 0 ≤ it ∧ 1 ≤ sg ∧ sg ≤ 6 then (if it > 200 / sg then (0, 151) else (it * sg, 0)) else (0, 152))
  else (0, 152)

theorem count_j1 (k : Nat) (kd lo hi st it sg : Int) (h : 0 ≤ it) (h1 : 1 ≤ sg) (h2 : sg ≤ 6) :
    plan_Count.j1 (k + 1) false kd lo hi st it sg = some (if it > 200 / sg then (0, 151) else (it * sg, 0)) := by
  simp only [plan_Count.j1]
  rw [if_neg (by decide), if_neg (by omega)]
  have e : Int.tdiv 200 sg = 200 / sg := Int.tdiv_eq_ediv_of_nonneg (by omega)
  have q0 : 0 ≤ 200 / sg := Int.ediv_nonneg (by omega) (by omega)
  have q1 : 200 / sg ≤ 200 := Int.ediv_le_self _ (by omega)
  rw [e, IntWalk.wrap64_in (200 / sg) (by omega)]
  by_cases c : it > 200 / sg
  · rw [if_pos c, if_pos c]
  · have m0 : 0 ≤ it * sg := Int.mul_nonneg h (by omega)
    have m1 : it * sg ≤ 200 * 6 := Int.mul_le_mul (by omega) h2 (by omega) (by omega)
    rw [if_neg c, if_neg c, IntWalk.wrap64_in _ (by omega)]

theorem count_val (k : Nat) (kd lo hi st it sg : Int) (h1 : In lo) (h2 : In hi) (h3 : In st) :
    plan_Count.f (k + 2) kd lo hi st it sg = some (countR kd lo hi st it sg) := by
  unfold plan_Count.f countR
  by_cases c1 : kd = 1
  · rw [if_pos c1, if_pos c1]
    by_cases c2 : it = 0
    · rw [if_pos c2]
      by_cases c3 : sg = 0
      · rw [if_pos c3, if_pos ⟨c2, c3⟩, loop_val _ _ _ _ _ _ _ h1 h2 h3]
        rfl
      · rw [if_neg c3, if_neg (fun h => c3 h.2)]
    · rw [if_neg c2, if_neg (fun h => c2 h.1)]
  · rw [if_neg c1, if_neg c1]
    by_cases c2 : kd = 2
    · rw [if_pos c2, if_pos c2]
      by_cases c3 : lo = 0
      · rw [if_pos c3]
        by_cases c4 : hi = 0
        · rw [if_pos c4]
          by_cases c5 : st = 0
          · have hb : (st != 0) = false := bne_eq_false_iff_eq.mpr c5
            rw [hb]
            simp only [plan_Count.j0]
            rw [if_neg (by decide)]
            by_cases c6 : it < 0
            · rw [if_pos c6, if_neg (by omega)]
              simp [plan_Count.j1]
            · rw [if_neg c6]
              by_cases c7 : sg < 1
              · rw [if_pos c7, if_neg (by omega)]
                simp [plan_Count.j1]
              · rw [if_neg c7]
                by_cases c8 : sg > 6
                · rw [decide_eq_true c8, if_neg (by omega)]
                  simp [plan_Count.j1]
                · rw [decide_eq_false c8, if_pos (by omega), count_j1 _ _ _ _ _ _ _ (by omega) (by omega) (by omega)]
          · have hb : (st != 0) = true := bne_iff_ne.mpr c5
            rw [hb, if_neg (fun h => c5 h.2.2.1)]
            simp [plan_Count.j0]
        · rw [if_neg c4, if_neg (fun h => c4 h.2.1)]
          simp [plan_Count.j0]
      · rw [if_neg c3, if_neg (fun h => c3 h.1)]
        simp [plan_Count.j0]
    · rw [if_neg c2, if_neg c2]

/-- What Count tells is from 0 to 200. -/
theorem count_range (kd lo hi st it sg : Int) : 0 ≤ (countR kd lo hi st it sg).1 ∧ (countR kd lo hi st it sg).1 ≤ 200 := by
  unfold countR
  by_cases c1 : kd = 1
  · rw [if_pos c1]
    by_cases c2 : it = 0 ∧ sg = 0
    · rw [if_pos c2]
      unfold loopR
      by_cases c3 : st = 0
      · rw [if_pos c3]; simp
      · rw [if_neg c3]
        by_cases c4 : cnt lo hi st > 200
        · rw [if_pos c4]; simp
        · rw [if_neg c4]
          have : 0 ≤ cnt lo hi st := by
            unfold cnt
            by_cases c5 : st < 0
            · rw [if_pos c5]
              by_cases c6 : lo ≤ hi
              · rw [if_pos c6]; omega
              · rw [if_neg c6]
                have := Int.ediv_nonneg (a := lo - hi - 1) (b := -st) (by omega) (by omega)
                omega
            · rw [if_neg c5]
              by_cases c6 : lo ≥ hi
              · rw [if_pos c6]; omega
              · rw [if_neg c6]
                have := Int.ediv_nonneg (a := hi - lo - 1) (b := st) (by omega) (by omega)
                omega
          exact ⟨this, by simpa using c4⟩
    · rw [if_neg c2]; simp
  · rw [if_neg c1]
    by_cases c2 : kd = 2
    · rw [if_pos c2]
      by_cases c3 : lo = 0 ∧ hi = 0 ∧ st = 0 ∧ 0 ≤ it ∧ 1 ≤ sg ∧ sg ≤ 6
      · rw [if_pos c3]
        by_cases c4 : it > 200 / sg
        · rw [if_pos c4]; simp
        · rw [if_neg c4]
          obtain ⟨_, _, _, h4, h5, h6⟩ := c3
          have : it * sg ≤ 200 := by
            have := Int.mul_le_mul_of_nonneg_right (Int.not_lt.mp c4) (show 0 ≤ sg by omega)
            have := Int.ediv_mul_le 200 (b := sg) (by omega)
            omega
          exact ⟨Int.mul_nonneg h4 (by omega), this⟩
      · rw [if_neg c3]; simp
    · rw [if_neg c2]; simp

/-- At, in plain numbers. -/
def atR (kd lo hi st it sg age : Int) : Int × Int × Int :=
  if (countR kd lo hi st it sg).2 = 0 then
    (if age < 0 ∨ age ≥ (countR kd lo hi st it sg).1 then (0, 0, 210) else if kd = 2 then (age / sg, age % sg, 0) else (wrap64 (lo + age * st), 0, 0))
  else (0, 0, (countR kd lo hi st it sg).2)

theorem wrap_add (a b : Int) : wrap64 (a + wrap64 b) = wrap64 (a + b) := by unfold wrap64; omega

theorem at_val (k : Nat) (kd lo hi st it sg age : Int) (h1 : In lo) (h2 : In hi) (h3 : In st) :
    plan_At.f (k + 2) kd lo hi st it sg age = some (atR kd lo hi st it sg age) := by
  unfold plan_At.f atR
  rw [count_val _ _ _ _ _ _ _ h1 h2 h3]
  simp only [Option.bind_some]
  have hr := count_range kd lo hi st it sg
  have hs : kd = 2 → (countR kd lo hi st it sg).2 = 0 → 1 ≤ sg := by
    intro e
    unfold countR
    rw [if_neg (by omega), if_pos e]
    by_cases c : lo = 0 ∧ hi = 0 ∧ st = 0 ∧ 0 ≤ it ∧ 1 ≤ sg ∧ sg ≤ 6
    · intro _; exact c.2.2.2.2.1
    · rw [if_neg c]; simp
  generalize countR kd lo hi st it sg = c at *
  by_cases c1 : c.2 = 0
  · rw [if_pos c1, if_pos c1]
    by_cases c2 : age < 0
    · rw [if_pos c2, if_pos (.inl c2)]
      simp [plan_At.j0]
    · rw [if_neg c2]
      by_cases c3 : age ≥ c.1
      · rw [decide_eq_true c3, if_pos (.inr c3)]
        simp [plan_At.j0]
      · rw [decide_eq_false c3, if_neg (by omega)]
        simp only [plan_At.j0]
        rw [if_neg (by decide)]
        by_cases c4 : kd = 2
        · have := hs c4 c1
          rw [if_pos c4, if_pos c4, if_neg (by omega)]
          have e1 : age.tdiv sg = age / sg := Int.tdiv_eq_ediv_of_nonneg (by omega)
          have e2 : age.tmod sg = age % sg := Int.tmod_eq_emod_of_nonneg (by omega)
          have q0 : 0 ≤ age / sg := Int.ediv_nonneg (by omega) (by omega)
          have q1 : age / sg ≤ age := Int.ediv_le_self _ (by omega)
          rw [e1, e2, IntWalk.wrap64_in (age / sg) (by omega)]
        · rw [if_neg c4, if_neg c4, wrap_add]
  · rw [if_neg c1, if_neg c1]

/-- The first age from i on, below n, whose index and stage are these; else -1. -/
def findR (kd lo hi st it sg i k : Int) : Nat → Int → Int
  | 0, _ => -1
  | d + 1, a => if (atR kd lo hi st it sg a).1 = i ∧ (atR kd lo hi st it sg a).2.1 = k then a else findR kd lo hi st it sg i k d (a + 1)

theorem find_l0 (kd lo hi st it sg i k : Int) (h1 : In lo) (h2 : In hi) (h3 : In st) (n : Int) (hn : n ≤ 200) (d : Nat) :
    ∀ (q : Nat) (a : Int), 0 ≤ a → a + d = n → plan_Find.l0 (d + q + 3) i k n a kd lo hi st it sg = some (findR kd lo hi st it sg i k d a) := by
  induction d with
  | zero =>
    intro q a h0 hd
    simp only [plan_Find.l0, Nat.zero_add]
    rw [if_neg (by omega)]
    rfl
  | succ d ih =>
    intro q a h0 hd
    have hat := at_val (d + q + 1) kd lo hi st it sg a h1 h2 h3
    rw [show d + q + 1 + 2 = d + q + 3 from by omega] at hat
    rw [show d + 1 + q + 3 = (d + q + 3) + 1 from by omega, plan_Find.l0, if_pos (by omega), hat]
    simp only [Option.bind_some]
    have e : wrap64 (a + 1) = a + 1 := IntWalk.wrap64_in _ (by omega)
    have ih' := ih q (a + 1) (by omega) (by omega)
    unfold findR
    by_cases c1 : (atR kd lo hi st it sg a).1 = i
    · rw [if_pos c1]
      by_cases c2 : (atR kd lo hi st it sg a).2.1 = k
      · rw [if_pos c2, if_pos ⟨c1, c2⟩]
      · rw [if_neg c2, if_neg (fun h => c2 h.2), e, ih']
    · rw [if_neg c1, if_neg (fun h => c1 h.1), e, ih']

theorem find_val (q : Nat) (kd lo hi st it sg i k : Int) (h1 : In lo) (h2 : In hi) (h3 : In st) :
    plan_Find.f (q + 203) kd lo hi st it sg i k = some (findR kd lo hi st it sg i k (countR kd lo hi st it sg).1.toNat 0) := by
  unfold plan_Find.f
  rw [show q + 203 = (q + 201) + 2 from by omega, count_val _ _ _ _ _ _ _ h1 h2 h3]
  simp only [Option.bind_some]
  obtain ⟨r0, r1⟩ := count_range kd lo hi st it sg
  have := find_l0 kd lo hi st it sg i k h1 h2 h3 (countR kd lo hi st it sg).1 r1 (countR kd lo hi st it sg).1.toNat (q + 200 - (countR kd lo hi st it sg).1.toNat) 0 (by omega) (by omega)
  rw [show (countR kd lo hi st it sg).1.toNat + (q + 200 - (countR kd lo hi st it sg).1.toNat) + 3 = q + 201 + 2 from by omega] at this
  exact this

theorem alive_val (q : Nat) : outriderlaw15_alive.f (q + 203) = some true := by
  unfold outriderlaw15_alive.f
  rw [find_val q 1 5 0 (-2) 0 0 1 0 (by unfold In; omega) (by unfold In; omega) (by unfold In; omega), show q + 203 = (q + 201) + 2 from by omega, count_val _ 1 3 10 3 0 0 (by unfold In; omega) (by unfold In; omega) (by unfold In; omega),
    at_val _ 2 0 0 0 2 3 4 (by unfold In; omega) (by unfold In; omega) (by unfold In; omega)]
  decide +kernel

end Go.Proofs.Ythlngkjlhamjmaa.PurePlan
