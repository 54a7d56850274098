/- The document's Tasks in plain numbers, and the plain laws behind PlanCounts, PlanTasks and PlanFinds. -/
import Derived.Test.YthlngkjlhamjmaaPureMoves
import Derived.Test.YthlngkjlhamjmaaKCounts
import Derived.Test.YthlngkjlhamjmaaKTasks
import Derived.Test.YthlngkjlhamjmaaKFinds
namespace Go.Proofs.Ythlngkjlhamjmaa.PurePlan
open Go.RowKit Go.Proofs.YthlngkjlhamjmaaW.PrintWords Go.Proofs.Ythlngkjlhamjmaa.K

/-- The rows of the first m tasks, told one by one. -/
def tl (f : Nat → S32) (m : Nat) : List S32 := (List.range m).map f
theorem tl_len (f : Nat → S32) (m : Nat) : (tl f m).length = m := by simp [tl]
theorem tl_snoc (f : Nat → S32) (m : Nat) : tl f m ++ [f m] = tl f (m + 1) := by simp [tl, List.range_succ]
theorem tl_rd (f : Nat → S32) (m : Nat) (a : Int) (h0 : 0 ≤ a) (h : a < m) : rd_T32 (tl f m) a = f a.toNat := by
  unfold rd_T32 tl
  have : a.toNat < m := by omega
  simp [List.getD_eq_getElem?_getD, this]

def fo (lo st : Int) (j : Nat) : S32 := ⟨lo + j * st, 0⟩
def pi (sg : Int) (j : Nat) : S32 := ⟨(j : Int) / sg, (j : Int) % sg⟩

theorem cnt_nonneg (lo hi st : Int) : 0 ≤ cnt lo hi st := by
  unfold cnt
  by_cases c5 : st < 0
  · rw [if_pos c5]
    by_cases c6 : lo ≤ hi
    · rw [if_pos c6]; omega
    · rw [if_neg c6]
      have := Int.ediv_nonneg (a := lo - hi - 1) (b := -st) (by omega) (by omega)
      omega
  · rw [if_neg c5]
    by_cases c6 : lo ≥ hi
    · rw [if_pos c6]; omega
    · rw [if_neg c6]
      have := Int.ediv_nonneg (a := hi - lo - 1) (b := st) (by omega) (by omega)
      omega

theorem lt_cnt_up (lo hi st : Int) (j : Nat) (hs : 0 < st) : (j : Int) < cnt lo hi st ↔ lo + j * st < hi := by
  have m0 : 0 ≤ (j : Int) * st := Int.mul_nonneg (by omega) (by omega)
  unfold cnt
  rw [if_neg (by omega)]
  by_cases c : lo ≥ hi
  · rw [if_pos c]; omega
  · rw [if_neg c]
    have := Int.le_ediv_iff_mul_le (a := (j : Int)) (b := hi - lo - 1) hs
    omega

theorem lt_cnt_down (lo hi st : Int) (j : Nat) (hs : st < 0) : (j : Int) < cnt lo hi st ↔ hi < lo + j * st := by
  have m0 : 0 ≤ (j : Int) * (-st) := Int.mul_nonneg (by omega) (by omega)
  have m1 : (j : Int) * (-st) = -((j : Int) * st) := Int.mul_neg _ _
  unfold cnt
  rw [if_pos hs]
  by_cases c : lo ≤ hi
  · rw [if_pos c]; omega
  · rw [if_neg c]
    have := Int.le_ediv_iff_mul_le (a := (j : Int)) (b := lo - hi - 1) (c := -st) (by omega)
    omega

def forT (lo hi st : Int) : List S32 × Int := if cnt lo hi st > 200 then ([], 151) else (tl (fo lo st) (cnt lo hi st).toNat, 0)

theorem step_mul (j : Nat) (st : Int) : ((j + 1 : Nat) : Int) * st = j * st + st := by
  rw [show ((j + 1 : Nat) : Int) = (j : Int) + 1 from by omega, Int.add_mul, Int.one_mul]

/-- The loop over numbers. -/
theorem for_l0 (kd lo hi st it sg : Int) (h2 : In hi) (h3 : In st) (hs : st ≠ 0) (d : Nat) :
    ∀ j : Nat, j + d = 201 → j ≤ 200 → (j : Int) ≤ cnt lo hi st → In (lo + j * st) →
      Ev (fun k => outriderref15_Tasks.l0 k (tl (fo lo st) j) (lo + j * st) kd lo hi st it sg) (forT lo hi st) := by
  unfold In at *
  induction d with
  | zero => intro j hj hj2; omega
  | succ d ih =>
    intro j hj hj2 hc hin
    have hsm := step_mul j st
    have hl : (tl (fo lo st) j ++ [(⟨lo + j * st, 0⟩ : S32)]) = tl (fo lo st) (j + 1) := tl_snoc (fo lo st) j
    by_cases hup : 0 < st
    · have hlt := lt_cnt_up lo hi st j hup
      have hlt1 := lt_cnt_up lo hi st (j + 1) hup
      rw [hsm] at hlt1
      refine Ev.step (f := fun k => outriderref15_Tasks.j2 k (tl (fo lo st) j) (lo + j * st) (decide (lo + j * st < hi)) kd lo hi st it sg) (fun k => ?_) ?_
      · rw [outriderref15_Tasks.l0, if_pos hup]
        by_cases c : lo + j * st < hi
        · rw [if_pos c, decide_eq_true c]
        · rw [if_neg c, if_neg (by omega), decide_eq_false c]
      · by_cases c : lo + j * st < hi
        · rw [decide_eq_true c]
          by_cases cl : (j : Int) + 1 > 200
          · refine ⟨1, fun k hk => ?_⟩
            obtain ⟨k, rfl⟩ : ∃ m, k = m + 1 := ⟨k - 1, by omega⟩
            show outriderref15_Tasks.j2 (k + 1) _ _ _ _ _ _ _ _ _ = _
            rw [outriderref15_Tasks.j2, if_pos rfl, tl_len, if_pos (by omega), hl]
            simp only [Option.bind_some]
            rw [tl_len]
            rw [if_pos (by omega)]
            unfold forT
            rw [if_pos (by omega)]
          · by_cases co : lo + j * st + st > 9223372036854775807
            · refine ⟨1, fun k hk => ?_⟩
              obtain ⟨k, rfl⟩ : ∃ m, k = m + 1 := ⟨k - 1, by omega⟩
              show outriderref15_Tasks.j2 (k + 1) _ _ _ _ _ _ _ _ _ = _
              rw [outriderref15_Tasks.j2, if_pos rfl, tl_len, if_pos (by omega), hl]
              simp only [Option.bind_some]
              rw [tl_len]
              have hw : wrap64 (lo + j * st + st) < lo + j * st := by unfold wrap64; omega
              rw [if_neg (by omega), if_pos hup, if_pos hw]
              unfold forT
              have he : cnt lo hi st = (j : Int) + 1 := by omega
              rw [he, if_neg (by omega)]
              simp
            · refine Ev.step (f := fun k => outriderref15_Tasks.l0 k (tl (fo lo st) (j + 1)) (lo + ((j + 1 : Nat) : Int) * st) kd lo hi st it sg) (fun k => ?_) (ih (j + 1) (by omega) (by omega) (by omega) (by rw [hsm]; omega))
              show outriderref15_Tasks.j2 (k + 1) _ _ _ _ _ _ _ _ _ = _
              rw [outriderref15_Tasks.j2, if_pos rfl, tl_len, if_pos (by omega), hl]
              simp only [Option.bind_some]
              rw [tl_len]
              have hw : wrap64 (lo + j * st + st) = lo + j * st + st := IntWalk.wrap64_in _ (by omega)
              rw [if_neg (by omega), if_pos hup, hw, if_neg (by omega), if_neg (by omega), hsm, Int.add_assoc]
        · rw [decide_eq_false c]
          refine ⟨1, fun k hk => ?_⟩
          obtain ⟨k, rfl⟩ : ∃ m, k = m + 1 := ⟨k - 1, by omega⟩
          simp only [outriderref15_Tasks.j2]
          rw [if_neg (by decide)]
          unfold forT
          have he : cnt lo hi st = (j : Int) := by omega
          rw [he, if_neg (by omega)]
          simp
    · have hdn : st < 0 := by omega
      have hlt := lt_cnt_down lo hi st j hdn
      have hlt1 := lt_cnt_down lo hi st (j + 1) hdn
      rw [hsm] at hlt1
      refine Ev.step (f := fun k => outriderref15_Tasks.j2 k (tl (fo lo st) j) (lo + j * st) (decide (lo + j * st > hi)) kd lo hi st it sg) (fun k => ?_) ?_
      · rw [outriderref15_Tasks.l0, if_neg hup, if_pos hdn]
      · by_cases c : lo + j * st > hi
        · rw [decide_eq_true c]
          by_cases cl : (j : Int) + 1 > 200
          · refine ⟨1, fun k hk => ?_⟩
            obtain ⟨k, rfl⟩ : ∃ m, k = m + 1 := ⟨k - 1, by omega⟩
            show outriderref15_Tasks.j2 (k + 1) _ _ _ _ _ _ _ _ _ = _
            rw [outriderref15_Tasks.j2, if_pos rfl, tl_len, if_pos (by omega), hl]
            simp only [Option.bind_some]
            rw [tl_len]
            rw [if_pos (by omega)]
            unfold forT
            rw [if_pos (by omega)]
          · by_cases co : lo + j * st + st < -9223372036854775808
            · refine ⟨1, fun k hk => ?_⟩
              obtain ⟨k, rfl⟩ : ∃ m, k = m + 1 := ⟨k - 1, by omega⟩
              show outriderref15_Tasks.j2 (k + 1) _ _ _ _ _ _ _ _ _ = _
              rw [outriderref15_Tasks.j2, if_pos rfl, tl_len, if_pos (by omega), hl]
              simp only [Option.bind_some]
              rw [tl_len]
              have hw : wrap64 (lo + j * st + st) > lo + j * st := by unfold wrap64; omega
              rw [if_neg (by omega), if_neg hup, if_pos hdn, if_pos hw]
              unfold forT
              have he : cnt lo hi st = (j : Int) + 1 := by omega
              rw [he, if_neg (by omega)]
              simp
            · refine Ev.step (f := fun k => outriderref15_Tasks.l0 k (tl (fo lo st) (j + 1)) (lo + ((j + 1 : Nat) : Int) * st) kd lo hi st it sg) (fun k => ?_) (ih (j + 1) (by omega) (by omega) (by omega) (by rw [hsm]; omega))
              show outriderref15_Tasks.j2 (k + 1) _ _ _ _ _ _ _ _ _ = _
              rw [outriderref15_Tasks.j2, if_pos rfl, tl_len, if_pos (by omega), hl]
              simp only [Option.bind_some]
              rw [tl_len]
              have hw : wrap64 (lo + j * st + st) = lo + j * st + st := IntWalk.wrap64_in _ (by omega)
              rw [if_neg (by omega), if_neg hup, if_pos hdn, hw, if_neg (by omega), hsm, Int.add_assoc]
        · rw [decide_eq_false c]
          refine ⟨1, fun k hk => ?_⟩
          obtain ⟨k, rfl⟩ : ∃ m, k = m + 1 := ⟨k - 1, by omega⟩
          simp only [outriderref15_Tasks.j2]
          rw [if_neg (by decide)]
          unfold forT
          have he : cnt lo hi st = (j : Int) := by omega
          rw [he, if_neg (by omega)]
          simp

def pipeT (it sg : Int) : List S32 × Int := if it > 200 / sg then ([], 151) else (tl (pi sg) (it * sg).toNat, 0)

theorem pi_at (i sg k : Nat) (hk : k < sg) : pi sg (i * sg + k) = ⟨i, k⟩ := by
  unfold pi
  have hs : 0 < sg := by omega
  have e1 : (i * sg + k) / sg = i := by rw [Nat.add_comm, Nat.add_mul_div_right _ _ hs, Nat.div_eq_of_lt hk, Nat.zero_add]
  have e2 : (i * sg + k) % sg = k := by rw [Nat.add_comm, Nat.add_mul_mod_self_right, Nat.mod_eq_of_lt hk]
  have e3 : ((i * sg + k : Nat) : Int) / (sg : Int) = i := by rw [← Int.natCast_ediv, e1]
  have e4 : ((i * sg + k : Nat) : Int) % (sg : Int) = k := by rw [← Int.natCast_emod, e2]
  rw [e3, e4]

/-- An item's stages; what follows is given. -/
theorem pipe_l2 (kd lo hi st it : Int) (sg i : Nat) (hsg : sg ≤ 6) (hi' : i * sg ≤ 200) (r : List S32 × Int) (d : Nat)
    (hr : Ev (fun k => outriderref15_Tasks.l2 k (tl (pi sg) (i * sg + sg)) i sg kd lo hi st it sg) r) :
    ∀ c : Nat, c + d = sg → Ev (fun k => outriderref15_Tasks.l2 k (tl (pi sg) (i * sg + c)) i c kd lo hi st it sg) r := by
  induction d with
  | zero => intro c hc; obtain rfl : c = sg := by omega
            exact hr
  | succ d ih =>
    intro c hc
    refine Ev.step (fun k => ?_) (ih (c + 1) (by omega))
    rw [outriderref15_Tasks.l2, if_pos (by omega), tl_len, if_pos (by omega), IntWalk.wrap64_in _ (by omega)]
    rw [show i * sg + (c + 1) = (i * sg + c) + 1 from by omega, ← tl_snoc, pi_at i sg c (by omega)]
    rfl

theorem pipe_l1 (kd lo hi st : Int) (it : Nat) (sg : Nat) (h1 : 1 ≤ sg) (hsg : sg ≤ 6) (d : Nat) :
    ∀ i : Nat, i + d = 201 → i * sg ≤ 200 → i ≤ it → Ev (fun k => outriderref15_Tasks.l1 k (tl (pi sg) (i * sg)) i kd lo hi st it sg) (pipeT it sg) := by
  induction d with
  | zero =>
    intro i hd hi' _
    have : i * 1 ≤ i * sg := Nat.mul_le_mul_left _ h1
    omega
  | succ d ih =>
    intro i hd hi' hit
    have hq : ∀ x : Int, x ≤ 200 / (sg : Int) ↔ x * sg ≤ 200 := fun x => Int.le_ediv_iff_mul_le (by omega)
    by_cases c : i < it
    · refine Ev.step (f := fun k => outriderref15_Tasks.l2 k (tl (pi sg) (i * sg)) i 0 kd lo hi st it sg) (fun k => ?_) ?_
      · rw [outriderref15_Tasks.l1, if_pos (by omega)]
      · refine pipe_l2 kd lo hi st it sg i hsg hi' _ sg ?_ 0 (by omega)
        have hm : (i + 1) * sg = i * sg + sg := Nat.succ_mul i sg
        have hz : ((i * sg + sg : Nat) : Int) = (i + 1 : Int) * sg := by rw [← hm]; simp
        by_cases c2 : i * sg + sg > 200
        · refine ⟨1, fun k hk => ?_⟩
          obtain ⟨k, rfl⟩ : ∃ m, k = m + 1 := ⟨k - 1, by omega⟩
          simp only [outriderref15_Tasks.l2, tl_len]
          rw [if_neg (by omega), if_pos (by omega)]
          unfold pipeT
          rw [if_pos]
          have := hq (i + 1)
          omega
        · refine Ev.step (fun k => ?_) (ih (i + 1) (by omega) (by omega) (by omega))
          have h7 : i * 1 ≤ i * sg := Nat.mul_le_mul_left _ h1
          rw [outriderref15_Tasks.l2, tl_len, if_neg (by omega), if_neg (by omega), IntWalk.wrap64_in _ (by omega), hm]
          rfl
    · obtain rfl : i = it := by omega
      refine ⟨1, fun k hk => ?_⟩
      obtain ⟨k, rfl⟩ : ∃ m, k = m + 1 := ⟨k - 1, by omega⟩
      simp only [outriderref15_Tasks.l1]
      rw [if_neg (by omega)]
      unfold pipeT
      have hz : ((i * sg : Nat) : Int) = (i : Int) * sg := by simp
      have := hq i
      rw [if_neg (by omega), ← hz]
      rfl

/-- What the document's Tasks tells. -/
def tasksR (kd lo hi st it sg : Int) : List S32 × Int :=
  if kd = 1 ∧ it = 0 ∧ sg = 0 then (if st = 0 then ([], 150) else forT lo hi st)
  else if kd = 2 ∧ lo = 0 ∧ hi = 0 ∧ st = 0 ∧ 0 ≤ it ∧ 1 ≤ sg ∧ sg ≤ 6 then pipeT it sg else ([], 152)

theorem j3_val (kd lo hi st it sg : Int) (b : Bool) (hb : b = true → 0 ≤ it ∧ 1 ≤ sg ∧ sg ≤ 6) :
    Ev (fun k => outriderref15_Tasks.j3 k ([] : List S32) b kd lo hi st it sg) (if b = true then pipeT it sg else ([], 152)) := by
  cases b with
  | false =>
    refine ⟨1, fun k hk => ?_⟩
    obtain ⟨k, rfl⟩ : ∃ m, k = m + 1 := ⟨k - 1, by omega⟩
    simp [outriderref15_Tasks.j3]
  | true =>
    obtain ⟨a, b, c⟩ := hb rfl
    obtain ⟨n, rfl⟩ := Int.eq_ofNat_of_zero_le a
    obtain ⟨m, rfl⟩ := Int.eq_ofNat_of_zero_le (show 0 ≤ sg by omega)
    have h := pipe_l1 kd lo hi st n m (by omega) (by omega) 201 0 (by omega) (by omega) (by omega)
    refine Ev.step (fun k => ?_) h
    simp only [outriderref15_Tasks.j3, if_true, Nat.zero_mul]
    rfl

theorem j0_val (kd lo hi st it sg : Int) (b : Bool) (h1 : In lo) (h2 : In hi) (h3 : In st) (hb : b = true ↔ (kd = 1 ∧ it = 0 ∧ sg = 0)) :
    Ev (fun k => outriderref15_Tasks.j0 k ([] : List S32) b kd lo hi st it sg) (tasksR kd lo hi st it sg) := by
  unfold tasksR
  cases b with
  | true =>
    rw [if_pos (hb.1 rfl)]
    by_cases c : st = 0
    · rw [if_pos c]
      refine ⟨1, fun k hk => ?_⟩
      obtain ⟨k, rfl⟩ : ∃ m, k = m + 1 := ⟨k - 1, by omega⟩
      simp [outriderref15_Tasks.j0, c]
    · rw [if_neg c]
      have h := for_l0 kd lo hi st it sg h2 h3 c 201 0 (by omega) (by omega) (by have := cnt_nonneg lo hi st; omega) (by simpa using h1)
      refine Ev.step (fun k => ?_) h
      simp [outriderref15_Tasks.j0, c, tl]
  | false =>
    have hn : ¬ (kd = 1 ∧ it = 0 ∧ sg = 0) := fun h => by simpa using hb.2 h
    rw [if_neg hn]
    by_cases c : kd = 2 ∧ lo = 0 ∧ hi = 0 ∧ st = 0 ∧ 0 ≤ it ∧ 1 ≤ sg ∧ sg ≤ 6
    · rw [if_pos c]
      obtain ⟨c1, c2, c3, c4, c5, c6, c7⟩ := c
      have h := j3_val kd lo hi st it sg true (fun _ => ⟨c5, c6, c7⟩)
      rw [if_pos rfl] at h
      refine Ev.step (fun k => ?_) h
      rw [outriderref15_Tasks.j0, if_neg (by decide), if_pos c1, if_pos c2, if_pos c3, if_pos c4, if_pos (by omega), if_pos (by omega), decide_eq_true c7]
    · rw [if_neg c]
      have h := j3_val kd lo hi st it sg false (fun h => by cases h)
      rw [if_neg (by decide)] at h
      refine Ev.step (fun k => ?_) h
      rw [outriderref15_Tasks.j0, if_neg (by decide)]
      by_cases c1 : kd = 2
      · rw [if_pos c1]
        by_cases c2 : lo = 0
        · rw [if_pos c2]
          by_cases c3 : hi = 0
          · rw [if_pos c3]
            by_cases c4 : st = 0
            · rw [if_pos c4]
              by_cases c5 : it ≥ 0
              · rw [if_pos c5]
                by_cases c6 : sg ≥ 1
                · rw [if_pos c6, decide_eq_false (by omega)]
                · rw [if_neg c6]
              · rw [if_neg c5]
            · rw [if_neg c4]
          · rw [if_neg c3]
        · rw [if_neg c2]
      · rw [if_neg c1]

theorem tasks_val (kd lo hi st it sg : Int) (h1 : In lo) (h2 : In hi) (h3 : In st) : Ev (fun k => outriderref15_Tasks.f k kd lo hi st it sg) (tasksR kd lo hi st it sg) := by
  by_cases c1 : kd = 1
  · by_cases c2 : it = 0
    · refine Ev.congr (fun k => ?_) (j0_val kd lo hi st it sg (sg == 0) h1 h2 h3 (by rw [beq_iff_eq]; simp [c1, c2]))
      unfold outriderref15_Tasks.f
      rw [if_pos c1, if_pos c2]
    · refine Ev.congr (fun k => ?_) (j0_val kd lo hi st it sg false h1 h2 h3 (by simp [c2]))
      unfold outriderref15_Tasks.f
      rw [if_pos c1, if_neg c2]
  · refine Ev.congr (fun k => ?_) (j0_val kd lo hi st it sg false h1 h2 h3 (by simp [c1]))
    unfold outriderref15_Tasks.f
    rw [if_neg c1]

def atS (kd lo hi st it sg : Int) (j : Nat) : S32 := ⟨(atR kd lo hi st it sg j).1, (atR kd lo hi st it sg j).2.1⟩

theorem tl_congr {f g : Nat → S32} {m : Nat} (h : ∀ j, j < m → f j = g j) : tl f m = tl g m := by
  unfold tl
  exact List.map_congr_left (fun j hj => h j (by simpa using hj))

theorem tasks_shape (kd lo hi st it sg : Int) : tasksR kd lo hi st it sg =
    (if (countR kd lo hi st it sg).2 = 0 then (if kd = 1 then tl (fo lo st) (countR kd lo hi st it sg).1.toNat else tl (pi sg) (countR kd lo hi st it sg).1.toNat) else [], (countR kd lo hi st it sg).2) := by
  unfold tasksR countR loopR forT pipeT
  by_cases k1 : kd = 1
  · subst k1
    by_cases c : it = 0 ∧ sg = 0
    · obtain ⟨rfl, rfl⟩ := c
      by_cases c2 : st = 0
      · simp [c2]
      · by_cases c3 : cnt lo hi st > 200
        · simp [c2, c3]
        · simp [c2, c3]
    · simp [c]
  · by_cases k2 : kd = 2
    · subst k2
      by_cases c : lo = 0 ∧ hi = 0 ∧ st = 0 ∧ 0 ≤ it ∧ 1 ≤ sg ∧ sg ≤ 6
      · by_cases c3 : it > 200 / sg
        · simp [c, c3]
        · simp [c, c3]
      · simp [c]
    · simp [k1, k2]

/-- The document's tasks are those of Count and At. -/
theorem tasks_count (kd lo hi st it sg : Int) (h1 : In lo) (h2 : In hi) :
    tasksR kd lo hi st it sg = (tl (atS kd lo hi st it sg) (countR kd lo hi st it sg).1.toNat, (countR kd lo hi st it sg).2) := by
  have ce := count_err kd lo hi st it sg
  rw [tasks_shape]
  by_cases he : (countR kd lo hi st it sg).2 = 0
  · rw [if_pos he]
    rcases kind_of kd lo hi st it sg he with rfl | rfl
    · have hcong : ∀ j, j < (countR 1 lo hi st it sg).1.toNat → fo lo st j = atS 1 lo hi st it sg j := by
        intro j hj
        have ha := at_in 1 lo hi st it sg j he (by omega) (by omega)
        obtain ⟨_, hi2⟩ := for_in lo hi st it sg j h1 h2 he (by omega) (by omega)
        unfold atS
        rw [ha, if_neg (by decide)]
        simp only
        rw [IntWalk.wrap64_in _ hi2]
        rfl
      rw [← tl_congr hcong, if_pos rfl]
    · have hcong : ∀ j, j < (countR 2 lo hi st it sg).1.toNat → pi sg j = atS 2 lo hi st it sg j := by
        intro j hj
        have ha := at_in 2 lo hi st it sg j he (by omega) (by omega)
        unfold atS
        rw [ha, if_pos rfl]
        rfl
      rw [← tl_congr hcong, if_neg (by decide)]
  · rw [if_neg he, ce he]
    rfl

theorem ev_count (kd lo hi st it sg : Int) (h1 : In lo) (h2 : In hi) (h3 : In st) : Ev (fun k => plan_Count.f k kd lo hi st it sg) (countR kd lo hi st it sg) :=
  ⟨2, fun k hk => by obtain ⟨q, rfl⟩ : ∃ q, k = q + 2 := ⟨k - 2, by omega⟩; exact count_val q kd lo hi st it sg h1 h2 h3⟩
theorem ev_at (kd lo hi st it sg a : Int) (h1 : In lo) (h2 : In hi) (h3 : In st) : Ev (fun k => plan_At.f k kd lo hi st it sg a) (atR kd lo hi st it sg a) :=
  ⟨2, fun k hk => by obtain ⟨q, rfl⟩ : ∃ q, k = q + 2 := ⟨k - 2, by omega⟩; exact at_val q kd lo hi st it sg a h1 h2 h3⟩
theorem ev_find (kd lo hi st it sg i k : Int) (h1 : In lo) (h2 : In hi) (h3 : In st) : Ev (fun q => plan_Find.f q kd lo hi st it sg i k) (findR kd lo hi st it sg i k (countR kd lo hi st it sg).1.toNat 0) :=
  ⟨203, fun k hk => by obtain ⟨q, rfl⟩ : ∃ q, k = q + 203 := ⟨k - 203, by omega⟩; exact find_val q kd lo hi st it sg _ _ h1 h2 h3⟩
theorem ev_alive : Ev (fun k => outriderlaw15_alive.f k) true :=
  ⟨203, fun k hk => by obtain ⟨q, rfl⟩ : ∃ q, k = q + 203 := ⟨k - 203, by omega⟩; exact alive_val q⟩
theorem ev_alive' : Ev (fun k => (outriderlaw15_alive.f k).bind fun t => some t) true := Ev.bind ev_alive (Ev.now true)

theorem counts (kd lo hi st it sg : Int) (h1 : In lo) (h2 : In hi) (h3 : In st) : ∃ k, outriderlaw15_PlanCounts.f k kd lo hi st it sg = some true := by
  refine Ev.rounds ?_
  unfold outriderlaw15_PlanCounts.f
  refine Ev.bind (ev_count kd lo hi st it sg h1 h2 h3) (Ev.bind (tasks_val kd lo hi st it sg h1 h2 h3) ?_)
  rw [tasks_count kd lo hi st it sg h1 h2]
  simp only [tl_len]
  obtain ⟨r0, r1⟩ := count_range kd lo hi st it sg
  have e : (countR kd lo hi st it sg).1 = ((countR kd lo hi st it sg).1.toNat : Int) := by omega
  by_cases c : kd = 2
  · simp only [if_pos c, if_pos e, plan_Stages.f, Option.bind_some, if_true]
    exact ev_alive'
  · simp only [if_neg c, if_pos e, plan_Stages.f, Option.bind_some, if_true]
    exact ev_alive'

theorem tasks (kd lo hi st it sg a : Int) (h1 : In lo) (h2 : In hi) (h3 : In st) : ∃ k, outriderlaw15_PlanTasks.f k kd lo hi st it sg a = some true := by
  refine Ev.rounds ?_
  unfold outriderlaw15_PlanTasks.f
  refine Ev.bind (ev_at kd lo hi st it sg a h1 h2 h3) (Ev.bind (tasks_val kd lo hi st it sg h1 h2 h3) ?_)
  rw [tasks_count kd lo hi st it sg h1 h2]
  simp only [tl_len]
  obtain ⟨r0, r1⟩ := count_range kd lo hi st it sg
  have e : ((countR kd lo hi st it sg).1.toNat : Int) = (countR kd lo hi st it sg).1 := by omega
  by_cases c : (countR kd lo hi st it sg).2 = 0
  · simp only [if_pos c]
    by_cases c1 : a < 0
    · simp only [if_pos c1]
      have hat : atR kd lo hi st it sg a = (0, 0, 210) := by unfold atR; rw [if_pos c, if_pos (.inl c1)]
      rw [hat]
      refine Ev.step (fun k => ?_) ev_alive'
      simp [outriderlaw15_PlanTasks.j0]
    · simp only [if_neg c1, e]
      by_cases c2 : a ≥ (countR kd lo hi st it sg).1
      · rw [decide_eq_true c2]
        have hat : atR kd lo hi st it sg a = (0, 0, 210) := by unfold atR; rw [if_pos c, if_pos (.inr c2)]
        rw [hat]
        refine Ev.step (fun k => ?_) ev_alive'
        simp [outriderlaw15_PlanTasks.j0]
      · rw [decide_eq_false c2]
        have hat := at_in kd lo hi st it sg a c (by omega) (by omega)
        have hz : (atR kd lo hi st it sg a).2.2 = 0 := by
          rw [hat]
          by_cases c : kd = 2
          · rw [if_pos c]
          · rw [if_neg c]
        refine Ev.step (fun k => ?_) ev_alive'
        simp only [outriderlaw15_PlanTasks.j0, tl_len, e]
        rw [if_neg (by decide), if_pos hz, if_pos (by omega), if_pos (by omega), tl_rd _ _ _ (by omega) (by omega)]
        have ea : ((a.toNat : Nat) : Int) = a := by omega
        simp [atS, ea]
  · simp only [if_neg c]
    have hat : atR kd lo hi st it sg a = (0, 0, (countR kd lo hi st it sg).2) := by unfold atR; rw [if_neg c]
    rw [hat]
    simp only [if_true]
    exact ev_alive'

theorem finds_l0 (kd lo hi st it sg i k : Int) (h1 : In lo) (h2 : In hi) (h3 : In st) (j : Nat) :
    ∀ d : Nat, (j : Int) + d = (countR kd lo hi st it sg).1 →
      Ev (fun q => outriderlaw15_PlanFinds.l0 q i k (tl (atS kd lo hi st it sg) (countR kd lo hi st it sg).1.toNat) (findR kd lo hi st it sg i k d j) ((j : Int) - 1) kd lo hi st it sg) true := by
  induction j with
  | zero =>
    intro d hd
    have e : (countR kd lo hi st it sg).1.toNat = d := by omega
    refine Ev.step (fun q => ?_) (Ev.bind (f := fun q t => if t = findR kd lo hi st it sg i k d 0 then (outriderlaw15_alive.f q).bind fun t => some t else some false) (ev_find kd lo hi st it sg i k h1 h2 h3) ?_)
    · rw [outriderlaw15_PlanFinds.l0, if_neg (by omega)]
      rfl
    · rw [e]
      simp only [if_true]
      exact ev_alive'
  | succ j ih =>
    intro d hd
    obtain ⟨_, r1⟩ := count_range kd lo hi st it sg
    refine Ev.step (fun q => ?_) (ih (d + 1) (by omega))
    rw [outriderlaw15_PlanFinds.l0, tl_len, if_pos (by omega), if_pos (by omega), if_pos (by omega), tl_rd _ _ _ (by omega) (by omega), IntWalk.wrap64_in _ (by omega)]
    rw [show ((j + 1 : Nat) : Int) - 1 = j from by omega]
    have hf : findR kd lo hi st it sg i k (d + 1) j = if (atR kd lo hi st it sg j).1 = i ∧ (atR kd lo hi st it sg j).2.1 = k then (j : Int) else findR kd lo hi st it sg i k d ((j : Int) + 1) := rfl
    rw [hf]
    have ej : ((((j : Int).toNat : Nat)) : Int) = j := by omega
    by_cases c : (atR kd lo hi st it sg j).1 = i ∧ (atR kd lo hi st it sg j).2.1 = k
    · rw [if_pos c, if_pos (by simp [atS, c.1, c.2])]
    · rw [if_neg c, if_neg (by simpa [atS] using c)]
      rfl

theorem finds (kd lo hi st it sg i k : Int) (h1 : In lo) (h2 : In hi) (h3 : In st) : ∃ q, outriderlaw15_PlanFinds.f q kd lo hi st it sg i k = some true := by
  refine Ev.rounds ?_
  unfold outriderlaw15_PlanFinds.f
  refine Ev.bind (tasks_val kd lo hi st it sg h1 h2 h3) ?_
  rw [tasks_count kd lo hi st it sg h1 h2]
  simp only [tl_len]
  obtain ⟨r0, r1⟩ := count_range kd lo hi st it sg
  have h := finds_l0 kd lo hi st it sg i k h1 h2 h3 (countR kd lo hi st it sg).1.toNat 0 (by omega)
  rw [IntWalk.wrap64_in _ (by omega)]
  exact h

end Go.Proofs.Ythlngkjlhamjmaa.PurePlan
