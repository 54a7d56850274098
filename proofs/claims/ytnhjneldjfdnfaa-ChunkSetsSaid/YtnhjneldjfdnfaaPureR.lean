/- The document's dealer answers as Next: plain numbers. -/
import Derived.Test.YtnhjneldjfdnfaaR2
import Derived.Test.YtnhjneldjfdnfaaR3
import Derived.Test.YtnhjneldjfdnfaaPureO
namespace Go.Proofs.Ytnhjneldjfdnfaa.K
open Go.RowKit Go.Proofs.YtnhjneldjfdnfaaW.PrintWords Go.Proofs.YtnhjneldjfdnfaaW.PrintLast Go.Proofs.YtnhjneldjfdnfaaW.PrintMore

theorem wrap64_small (x : Int) (h0 : -100000000 ≤ x) (h1 : x ≤ 100000000) : wrap64 x = x := by unfold wrap64; omega
/-- The ages from f on below t. -/
def ages (f t : Nat) : List Int := (List.range (t - f)).map (fun i => ((f + i : Nat) : Int))
theorem ages_len (f t : Nat) : (ages f t).length = t - f := by simp [ages]
theorem ages_snoc (f t : Nat) (h : f ≤ t) : ages f t ++ [(t : Int)] = ages f (t + 1) := by
  unfold ages
  rw [Nat.succ_sub h, List.range_succ, List.map_append]
  simp
  omega
theorem ages_none (f t : Nat) (h : t ≤ f) : ages f t = [] := by
  unfold ages
  rw [Nat.sub_eq_zero_of_le h]
  rfl
theorem ages_at (f t i : Nat) (h : i < t - f) : (ages f t).getD i 0 = ((f + i : Nat) : Int) := by
  unfold ages
  simp [List.getD_eq_getElem?_getD, List.getElem?_range h]

theorem owner_nat (p sz wk n nx : Int) (tn : List Int) (a : Nat) (h1 : 1 ≤ sz) (h2 : 1 ≤ wk) (ha : a ≤ 1000) :
    outriderref16_owner.f p sz wk n nx tn (a : Int) = some ((a / sz.toNat % wk.toNat : Nat) : Int) := by
  unfold outriderref16_owner.f
  rw [if_neg (by omega), if_neg (by omega), tdiv_nat a sz h1]
  have hd := Nat.div_le_self a sz.toNat
  generalize a / sz.toNat = z at *
  rw [wrap64_small (z : Int) (by omega) (by omega), tmod_nat _ wk h2]

/-- How many chunks begin below an age. -/
def begun (s a : Nat) : Nat := (a + s - 1) / s
theorem begun_zero (s : Nat) (h : 0 < s) : begun s 0 = 0 := by unfold begun; exact Nat.div_eq_of_lt (by omega)
theorem begun_head (s a : Nat) (h : 0 < s) (hm : a % s = 0) : begun s a = a / s ∧ begun s (a + 1) = a / s + 1 := by
  have h1 := Nat.div_add_mod a s
  unfold begun
  constructor
  · have e : a + s - 1 = (s - 1) + s * (a / s) := by omega
    rw [e, Nat.add_mul_div_left _ _ h, Nat.div_eq_of_lt (by omega), Nat.zero_add]
  · have e : a + 1 + s - 1 = 0 + s * (a / s + 1) := by rw [Nat.mul_add, Nat.mul_one]; omega
    rw [e, Nat.add_mul_div_left _ _ h, Nat.zero_div, Nat.zero_add]
theorem begun_rest (s a : Nat) (h : 0 < s) (hm : a % s ≠ 0) : begun s a = a / s + 1 ∧ begun s (a + 1) = a / s + 1 := by
  have h1 := Nat.div_add_mod a s
  have h2 := Nat.mod_lt a h
  unfold begun
  constructor
  · have e : a + s - 1 = (a % s - 1) + s * (a / s + 1) := by rw [Nat.mul_add, Nat.mul_one]; omega
    rw [e, Nat.add_mul_div_left _ _ h, Nat.div_eq_of_lt (by omega), Nat.zero_add]
  · have e : a + 1 + s - 1 = a % s + s * (a / s + 1) := by rw [Nat.mul_add, Nat.mul_one]; omega
    rw [e, Nat.add_mul_div_left _ _ h, Nat.div_eq_of_lt h2, Nat.zero_add]

/-- One round of the document's loop over the ages (Static). -/
theorem l0_step (r : Nat) (x : Nat) (sz wk n nx : Int) (tn out : List Int) (turn o m t : Int) (a : Nat) (ha : (a : Int) < n) (hn : n ≤ 200) (hsz : sz ≠ 0) (ho : outriderref16_owner.f 1 sz wk n nx tn (a : Int) = some o) (hm : Int.tmod (a : Int) sz = m) (ht : rd tn (x : Int) = t) (hx : x < tn.length) (h1 : -1 ≤ turn) (h2 : turn ≤ 1000) (hl : out.length ≤ 1000) :
    outriderref16_Next.l0 (r + 1) x out turn a 1 sz wk n nx tn =
      if o = x then (if m = 0 then (if turn + 1 = t then outriderref16_Next.l0 r x (out ++ [(a : Int)]) (turn + 1) ((a + 1 : Nat) : Int) 1 sz wk n nx tn else outriderref16_Next.l0 r x out (turn + 1) ((a + 1 : Nat) : Int) 1 sz wk n nx tn)
        else (if turn = t then outriderref16_Next.l0 r x (out ++ [(a : Int)]) turn ((a + 1 : Nat) : Int) 1 sz wk n nx tn else outriderref16_Next.l0 r x out turn ((a + 1 : Nat) : Int) 1 sz wk n nx tn))
      else outriderref16_Next.l0 r x out turn ((a + 1 : Nat) : Int) 1 sz wk n nx tn := by
  have hna : wrap64 ((a : Int) + 1) = ((a + 1 : Nat) : Int) := by rw [wrap64_small _ (by omega) (by omega)]; omega
  have hw : wrap64 (turn + 1) = turn + 1 := wrap64_small _ (by omega) (by omega)
  have g1 : (0 : Int) ≤ (x : Int) := by omega
  have g2 : (x : Int) < (tn.length : Int) := by omega
  have g3 : out.length < 17592186044416 := by omega
  rw [outriderref16_Next.l0]
  simp only [ho, hm, ht, hna, hw, Option.bind_some, if_pos ha, if_neg hsz, if_pos g1, if_pos g2, if_pos g3]

/-- The document's loop over the ages (Static), behind the last one. -/
theorem l0_end (r : Nat) (x : Nat) (sz wk n nx : Int) (tn out : List Int) (turn t : Int) (a : Nat) (ha : ¬ (a : Int) < n) (hl : tn.length ≤ 100) (ht : rd tn (x : Int) = t) (hx : x < tn.length) (h1 : 0 < out.length → 0 ≤ t ∧ t ≤ 1000) :
    outriderref16_Next.l0 (r + 1) x out turn a 1 sz wk n nx tn = if 0 < out.length then some (1, sz, wk, n, nx, tn.set x (t + 1), out) else some (1, sz, wk, n, nx, tn, out) := by
  rw [outriderref16_Next.l0, if_neg ha]
  by_cases c : 0 < out.length
  · obtain ⟨t0, t1⟩ := h1 c
    have hw : wrap64 (t + 1) = t + 1 := wrap64_small _ (by omega) (by omega)
    have g1 : (0 : Int) ≤ (x : Int) := by omega
    have g2 : (x : Int) < (tn.length : Int) := by omega
    have g3 : 0 + tn.length < 17592186044416 := by omega
    rw [if_pos c, if_pos (by omega)]
    simp only [Option.bind_some, List.nil_append, List.length_nil]
    rw [if_pos g3, if_pos g1, if_pos g2, ht, hw, Int.toNat_natCast]
  · rw [if_neg c, if_neg (by omega)]

/-- The row of ages behind one age more. -/
theorem ages_more (F s a : Nat) (hs : 0 < s) : ages F (min (a + 1) (F + s)) = if F ≤ a ∧ a < F + s then ages F (min a (F + s)) ++ [(a : Int)] else ages F (min a (F + s)) := by
  by_cases q : F ≤ a ∧ a < F + s
  · rw [if_pos q, Nat.min_eq_left (by omega), Nat.min_eq_left (by omega), ages_snoc F a q.1]
  · rw [if_neg q]
    by_cases c : F ≤ a
    · rw [Nat.min_eq_right (by omega), Nat.min_eq_right (by omega)]
    · rw [ages_none _ _ (by omega), ages_none _ _ (by omega)]

theorem cnt_at (k j x : Nat) (h : j % k = x) : cnt k j x = j / k := by
  unfold cnt
  rw [h, if_neg (Nat.lt_irrefl _), Nat.add_zero]
theorem cnt_le (k j x : Nat) : cnt k j x ≤ j + 1 := by
  unfold cnt
  have := Nat.div_le_self j k
  split <;> omega

/-- How the turn goes on over one age. -/
theorem turn_step (s k a x : Nat) (hs : 0 < s) (hk : 0 < k) (hx : x < k) :
    (a / s % k = x → a % s = 0 → cnt k (begun s a) x = a / s / k ∧ cnt k (begun s (a + 1)) x = a / s / k + 1) ∧
    (a / s % k = x → a % s ≠ 0 → cnt k (begun s a) x = a / s / k + 1 ∧ cnt k (begun s (a + 1)) x = a / s / k + 1) ∧
    (a / s % k ≠ x → cnt k (begun s (a + 1)) x = cnt k (begun s a) x) := by
  have hcs := cnt_succ k (a / s) x hk hx
  refine ⟨fun h1 h2 => ?_, fun h1 h2 => ?_, fun h1 => ?_⟩
  · obtain ⟨b1, b2⟩ := begun_head s a hs h2
    rw [b1, b2, hcs, if_pos h1, cnt_at k _ x h1]
    exact ⟨rfl, rfl⟩
  · obtain ⟨b1, b2⟩ := begun_rest s a hs h2
    rw [b1, b2, hcs, if_pos h1, cnt_at k _ x h1]
    exact ⟨rfl, rfl⟩
  · by_cases h2 : a % s = 0
    · obtain ⟨b1, b2⟩ := begun_head s a hs h2
      rw [b1, b2, hcs, if_neg h1, Nat.add_zero]
    · obtain ⟨b1, b2⟩ := begun_rest s a hs h2
      rw [b1, b2]
theorem begun_le (s a : Nat) (hs : 0 < s) : begun s a ≤ a := by
  by_cases h : a % s = 0
  · rw [(begun_head s a hs h).1]; exact Nat.div_le_self a s
  · rw [(begun_rest s a hs h).1]
    have h1 := Nat.div_add_mod a s
    have h2 : 1 * (a / s) ≤ s * (a / s) := Nat.mul_le_mul_right _ hs
    generalize a / s = z at *
    generalize s * z = sz at *
    omega

/-- The document's loop over the ages (Static). -/
theorem ref_l0 (sz wk n nx : Int) (tn : List Int) (x t F : Nat) (h1 : 1 ≤ sz ∧ sz ≤ 200) (h2 : 1 ≤ wk ∧ wk ≤ 8) (h3 : 0 ≤ n ∧ n ≤ 200) (hx : x < wk.toNat) (hl : (tn.length : Int) = wk) (ht : tn.getD x 0 = t) (hF : (t * wk.toNat + x) * sz.toNat = F) :
    ∀ r a : Nat, a + r = n.toNat → outriderref16_Next.l0 (r + 1) x (ages F (min a (F + sz.toNat))) ((cnt wk.toNat (begun sz.toNat a) x : Int) - 1) a 1 sz wk n nx tn =
      (if F < n.toNat then some (1, sz, wk, n, nx, tn.set x (t + 1), ages F (min n.toNat (F + sz.toNat))) else some (1, sz, wk, n, nx, tn, [])) := by
  have hs : 0 < sz.toNat := by omega
  have hk : 0 < wk.toNat := by omega
  have hxl : x < tn.length := by omega
  have hrd : rd tn (x : Int) = (t : Int) := by rw [← ht]; simp [rd]
  have htF : t ≤ F := by
    have e1 : t * 1 ≤ t * wk.toNat := Nat.mul_le_mul_left _ (by omega)
    have e2 : (t * wk.toNat + x) * 1 ≤ (t * wk.toNat + x) * sz.toNat := Nat.mul_le_mul_left _ (by omega)
    omega
  intro r
  induction r with
  | zero =>
    intro a ha
    have e : a = n.toNat := by omega
    subst e
    rw [l0_end 0 x sz wk n nx tn _ _ t _ (by omega) (by omega) hrd hxl (by rw [ages_len]; intro h; omega)]
    by_cases c : F < n.toNat
    · rw [if_pos c, ages_len, if_pos (by omega)]
    · rw [if_neg c, ages_len, if_neg (by omega), ages_none _ _ (by omega)]
  | succ r ih =>
    intro a ha
    have hih := ih (a + 1) (by omega)
    have hci := chunk_iff a sz.toNat (t * wk.toNat + x) hs
    rw [hF] at hci
    have hwi := worker_iff (a / sz.toNat) wk.toNat t x hx
    have hal : (ages F (min a (F + sz.toNat))).length ≤ 1000 := by rw [ages_len]; omega
    have hrow := ages_more F sz.toNat a hs
    obtain ⟨ts1, ts2, ts3⟩ := turn_step sz.toNat wk.toNat a x hs hk hx
    have hcl := cnt_le wk.toNat (begun sz.toNat a) x
    have hbl := begun_le sz.toNat a hs
    have hstep := l0_step (r + 1) x sz wk n nx tn (ages F (min a (F + sz.toNat))) ((cnt wk.toNat (begun sz.toNat a) x : Int) - 1) _ _ t a (by omega) h3.2 (by omega) (owner_nat 1 sz wk n nx tn a h1.1 h2.1 (by omega)) (tmod_nat a sz h1.1) hrd hxl (by omega) (by omega) hal
    rw [hstep]
    rw [hrow] at hih
    have hiff : a / sz.toNat % wk.toNat = x → (a / sz.toNat / wk.toNat = t ↔ (F ≤ a ∧ a < F + sz.toNat)) := fun ho => ⟨fun h => hci.1 (hwi.1 ⟨h, ho⟩), fun h => (hwi.2 (hci.2 h)).1⟩
    have hnot : ¬ a / sz.toNat % wk.toNat = x → ¬ (F ≤ a ∧ a < F + sz.toNat) := fun ho h => ho (hwi.2 (hci.2 h)).2
    clear hci hwi hstep hrow ih hF
    generalize ages F (min a (F + sz.toNat)) = out at *
    generalize a / sz.toNat % wk.toNat = o at *
    generalize a / sz.toNat / wk.toNat = j at *
    generalize a % sz.toNat = m at *
    generalize cnt wk.toNat (begun sz.toNat a) x = c0 at *
    generalize cnt wk.toNat (begun sz.toNat (a + 1)) x = c1 at *
    by_cases ho : o = x
    · rw [if_pos (by omega)]
      have hi := hiff ho
      by_cases hm : m = 0
      · obtain ⟨b1, b2⟩ := ts1 ho hm
        rw [if_pos (by omega)]
        have e : (c0 : Int) - 1 + 1 = (c1 : Int) - 1 := by omega
        rw [e]
        by_cases q : F ≤ a ∧ a < F + sz.toNat
        · rw [if_pos q] at hih
          have := hi.2 q
          rw [if_pos (by omega)]
          exact hih
        · rw [if_neg q] at hih
          have hj : ¬ j = t := fun h => q (hi.1 h)
          rw [if_neg (by omega)]
          exact hih
      · obtain ⟨b1, b2⟩ := ts2 ho hm
        rw [if_neg (by omega)]
        have e : (c0 : Int) - 1 = (c1 : Int) - 1 := by omega
        rw [e]
        by_cases q : F ≤ a ∧ a < F + sz.toNat
        · rw [if_pos q] at hih
          have := hi.2 q
          rw [if_pos (by omega)]
          exact hih
        · rw [if_neg q] at hih
          have hj : ¬ j = t := fun h => q (hi.1 h)
          rw [if_neg (by omega)]
          exact hih
    · rw [if_neg (by omega)]
      rw [if_neg (hnot ho), ts3 ho] at hih
      exact hih

/-- The document's loop for the next so many. -/
theorem ref_l2 (p many sz wk n : Int) (tn : List Int) (f : Nat) (hn : n ≤ 200) (hm : 0 ≤ many) (hm2 : many ≤ 1000) :
    ∀ r a : Nat, f ≤ a → (a : Int) ≤ n → (a : Int) ≤ f + many → a + r = (min n (f + many)).toNat →
      outriderref16_Next.l2 (r + 1) (ages f a) many p sz wk n a tn = some (p, sz, wk, n, min n (f + many), tn, ages f (min n (f + many)).toNat) := by
  intro r
  induction r with
  | zero =>
    intro a h1 h2 h3 h4
    simp only [outriderref16_Next.l2]
    rw [ages_len]
    have e1 : ((a : Nat) : Int) = min n (f + many) := by omega
    have e2 : (min n (f + many)).toNat = a := by omega
    by_cases c : ((a - f : Nat) : Int) < many
    · rw [if_pos c, if_neg (by omega), e2, e1]
    · rw [if_neg c, e2, e1]
  | succ r ih =>
    intro a h1 h2 h3 h4
    have hih := ih (a + 1) (by omega) (by omega) (by omega) (by omega)
    rw [outriderref16_Next.l2, ages_len, if_pos (by omega), if_pos (by omega), if_pos (by omega), wrap64_small _ (by omega) (by omega), ages_snoc f a h1]
    exact hih

/-- The document's loop for the part (Guided). -/
theorem ref_l1 (sz wk n nx : Int) (tn : List Int) (many : Int) (h2 : 1 ≤ wk ∧ wk ≤ 8) (h3 : 0 ≤ n ∧ n ≤ 200) (h4 : 0 ≤ nx) (h5 : nx ≤ n) (K : Nat) :
    ∀ r q : Nat, (q : Int) + r = (n - nx + 2 * wk - 1) / (2 * wk) →
      outriderref16_Next.l1 (r + 1 + K) [] many q 3 sz wk n nx tn = (if (n - nx + 2 * wk - 1) / (2 * wk) > many then outriderref16_Next.j3 K [] ((n - nx + 2 * wk - 1) / (2 * wk)) 3 sz wk n nx tn else outriderref16_Next.j3 K [] many 3 sz wk n nx tn) := by
  have hpos : 0 < 2 * wk := by omega
  have hd1 := Int.mul_ediv_add_emod (n - nx + 2 * wk - 1) (2 * wk)
  have hd2 := Int.emod_nonneg (n - nx + 2 * wk - 1) (show 2 * wk ≠ 0 by omega)
  have hd3 := Int.emod_lt_of_pos (n - nx + 2 * wk - 1) hpos
  generalize hP : (n - nx + 2 * wk - 1) / (2 * wk) = P at *
  generalize (n - nx + 2 * wk - 1) % (2 * wk) = R at *
  have hP1 : P ≤ 300 := by
    by_cases c : P ≤ 300
    · exact c
    · have := Int.mul_le_mul_of_nonneg_left (show 301 ≤ P by omega) (show 0 ≤ 2 * wk by omega)
      omega
  intro r
  induction r with
  | zero =>
    intro q hq
    have e : (q : Int) = P := by omega
    have hm : ((q : Int) * 2) * wk = 2 * wk * P := by rw [e, Int.mul_comm P 2, Int.mul_right_comm]
    have hb : 2 * wk * P ≤ 1000000 ∧ 0 ≤ 2 * wk * P := ⟨by
      have := Int.mul_le_mul (show 2 * wk ≤ 16 by omega) hP1 (by omega) (by omega)
      omega, Int.mul_nonneg (by omega) (by omega)⟩
    rw [Nat.zero_add, Nat.add_comm 1 K]
    rw [outriderref16_Next.l1]
    rw [wrap64_small ((q : Int) * 2) (by omega) (by omega), wrap64_small ((q : Int) * 2 * wk) (by omega) (by omega), wrap64_small (n - nx) (by omega) (by omega), hm, if_neg (by omega), e]
  | succ r ih =>
    intro q hq
    have hih := ih (q + 1) (by omega)
    have hm : ((q : Int) * 2) * wk = 2 * wk * q := by rw [Int.mul_comm (q : Int) 2, Int.mul_right_comm]
    have hlt : 2 * wk * (q : Int) + 2 * wk ≤ 2 * wk * P := by
      have := Int.mul_le_mul_of_nonneg_left (show (q : Int) + 1 ≤ P by omega) (show 0 ≤ 2 * wk by omega)
      rw [Int.mul_add, Int.mul_one] at this
      exact this
    have hb : 0 ≤ 2 * wk * (q : Int) := Int.mul_nonneg (by omega) (by omega)
    have hk : r + 1 + 1 + K = (r + 1 + K) + 1 := by omega
    rw [hk, outriderref16_Next.l1]
    rw [wrap64_small ((q : Int) * 2) (by omega) (by omega), wrap64_small ((q : Int) * 2 * wk) (by omega) (by omega), wrap64_small (n - nx) (by omega) (by omega), hm, if_pos (by omega), wrap64_small ((q : Int) + 1) (by omega) (by omega)]
    have e : ((q : Int) + 1) = ((q + 1 : Nat) : Int) := by omega
    rw [e]
    exact hih

/-- What Next gives, as a row of ages. -/
def agesOf (r : D × Int × Int × Bool) : List Int := if r.2.2.2 = true then ages r.2.1.toNat r.2.2.1.toNat else []

theorem mn2_min (a b : Int) : mn2 a b = min a b := by unfold mn2; split <;> omega

theorem ref_next (d : D) (h : d.ok) (x : Int) :
    ∃ k, outriderref16_Next.f k d.pol d.sz d.wk d.n d.nx d.tn x = some (d.pol, d.sz, d.wk, d.n, (d.next x).1.nx, (d.next x).1.tn, agesOf (d.next x)) := by
  have o := h
  obtain ⟨o1, o2, o3, o4, o5, o6, o7, o8, o9, o10, o11, o12⟩ := o
  by_cases c : x < 0 ∨ d.wk ≤ x
  · have hn : d.next x = (d, 0, 0, false) := by unfold D.next; rw [if_pos c]
    refine ⟨1, ?_⟩
    unfold outriderref16_Next.f
    rw [hn]
    by_cases c0 : x < 0
    · rw [if_pos c0]; simp [outriderref16_Next.j0, agesOf]
    · rw [if_neg c0]
      have c1 : decide (x ≥ d.wk) = true := decide_eq_true (by omega)
      rw [c1]; simp [outriderref16_Next.j0, agesOf]
  · have c0 : ¬ x < 0 := by omega
    have c1 : decide (x ≥ d.wk) = false := decide_eq_false (by omega)
    have hf0 : ∀ k, outriderref16_Next.f k d.pol d.sz d.wk d.n d.nx d.tn x = outriderref16_Next.j0 k x [] false d.pol d.sz d.wk d.n d.nx d.tn := by
      intro k
      unfold outriderref16_Next.f
      rw [if_neg c0, c1]
    simp only [hf0]
    clear hf0
    obtain ⟨y, rfl⟩ := Int.eq_ofNat_of_zero_le (show 0 ≤ x by omega)
    have hy : y < d.wk.toNat := by omega
    have hn : d.next (y : Int) = if (d.take y).2.1 ≥ (d.take y).2.2 then ((d.take y).1, 0, 0, false) else ((d.take y).1, (d.take y).2.1, (d.take y).2.2, true) := by
      unfold D.next; rw [if_neg c]; rfl
    by_cases hp : d.pol = 1
    · obtain ⟨t, ht⟩ := turn_nat d h y hy
      have hf := from_nat d h y t ht
      have hl0 := ref_l0 d.sz d.wk d.n d.nx d.tn y t _ ⟨o7, o8⟩ ⟨o5, o6⟩ ⟨o3, o4⟩ hy o11 ht rfl d.n.toNat 0 (by omega)
      have hc0 : cnt d.wk.toNat (begun d.sz.toNat 0) y = 0 := by rw [begun_zero _ (by omega)]; unfold cnt; simp
      rw [ages_none _ _ (by omega), hc0] at hl0
      have htake : d.take y = if d.from y < d.n then (d.turn y, d.from y, mn2 d.n (d.from y + d.sz)) else (d, 0, 0) := by unfold D.take; rw [if_pos hp]
      refine ⟨d.n.toNat + 1 + 1, ?_⟩
      rw [outriderref16_Next.j0, if_neg (by simp), hp, if_pos rfl]
      refine (show _ = _ from hl0).trans ?_
      rw [hf] at htake
      generalize hF : (t * d.wk.toNat + y) * d.sz.toNat = F at *
      by_cases c2 : F < d.n.toNat
      · rw [if_pos c2]
        rw [if_pos (by omega)] at htake
        rw [htake] at hn
        simp only at hn
        rw [mn2_min] at hn
        rw [if_neg (by omega)] at hn
        rw [hn]
        unfold agesOf D.turn
        simp only [if_true]
        rw [ht]
        have e1 : (min d.n ((F : Int) + d.sz)).toNat = min d.n.toNat (F + d.sz.toNat) := by omega
        rw [e1, Int.toNat_natCast]
      · rw [if_neg c2]
        rw [if_neg (by omega)] at htake
        rw [htake] at hn
        simp only [ge_iff_le, Int.le_refl, if_true] at hn
        rw [hn]
        rfl
    · have hm := many_pos d h
      have hmb : d.many ≤ 1000 := by
        unfold D.many D.gsz
        have hpd : d.part ≤ 300 := by
          have h0_ : 0 ≤ d.n - d.nx + 2 * d.wk - 1 := by omega
          have := Int.ediv_le_self (2 * d.wk) h0_
          have e : d.part = (d.n - d.nx + 2 * d.wk - 1) / (2 * d.wk) := rfl
          omega
        split
        · omega
        · split <;> omega
      rw [take_other d hp y] at hn
      obtain ⟨nx, hnx⟩ := Int.eq_ofNat_of_zero_le o9
      have hsn : (d.some d.many).nx = min d.n (d.nx + d.many) := by rw [← mn2_min]; rfl
      have hst : (d.some d.many).tn = d.tn := rfl
      have hl2 := ref_l2 d.pol d.many d.sz d.wk d.n d.tn nx o4 (by omega) hmb ((min d.n (nx + d.many)).toNat - nx) nx (Nat.le_refl _) (by omega) (by omega) (by omega)
      rw [ages_none nx nx (Nat.le_refl _), ← hnx] at hl2
      simp only at hn
      have hres : ∀ k, outriderref16_Next.l2 k [] d.many d.pol d.sz d.wk d.n d.nx d.tn = some (d.pol, d.sz, d.wk, d.n, min d.n (d.nx + d.many), d.tn, ages nx (min d.n (d.nx + d.many)).toNat) →
          outriderref16_Next.l2 k [] d.many d.pol d.sz d.wk d.n d.nx d.tn = some (d.pol, d.sz, d.wk, d.n, (d.next (y : Int)).1.nx, (d.next (y : Int)).1.tn, agesOf (d.next (y : Int))) := by
        intro k hk
        rw [hk, hn]
        by_cases c2 : d.nx ≥ (d.some d.many).nx
        · rw [if_pos c2]
          rw [hsn] at c2
          simp only [hsn, hst, agesOf]
          rw [ages_none _ _ (by omega)]
          simp
        · rw [if_neg c2]
          simp only [hsn, hst, agesOf, if_true]
          rw [hnx]
          simp
      by_cases hp2 : d.pol = 2
      · refine ⟨(min d.n (d.nx + d.many)).toNat - nx + 1 + 1 + 1, ?_⟩
        rw [outriderref16_Next.j0, if_neg (by simp), if_neg hp, if_neg (by omega), outriderref16_Next.j3]
        have hmany : d.many = d.sz := by unfold D.many; rw [if_pos hp2]
        rw [← hmany]
        have := hres _ hl2
        rw [hmany] at this ⊢
        exact this
      · have hp3 : d.pol = 3 := by omega
        have hmany : d.many = d.gsz := by unfold D.many; rw [if_neg hp2]
        have hpart : d.part = (d.n - d.nx + 2 * d.wk - 1) / (2 * d.wk) := rfl
        have hp0 : 0 ≤ d.part := Int.ediv_nonneg (by omega) (by omega)
        obtain ⟨P, hP⟩ := Int.eq_ofNat_of_zero_le hp0
        have hl1 := ref_l1 d.sz d.wk d.n d.nx d.tn d.sz ⟨o5, o6⟩ ⟨o3, o4⟩ o9 o10 ((min d.n (d.nx + d.many)).toNat - nx + 1 + 1) P 0 (by rw [← hpart, hP]; simp)
        refine ⟨P + 1 + ((min d.n (d.nx + d.many)).toNat - nx + 1 + 1) + 1, ?_⟩
        rw [outriderref16_Next.j0, if_neg (by simp), if_neg hp, if_pos hp3]
        rw [hp3]
        refine (show _ = _ from hl1).trans ?_
        rw [← hpart]
        have hg : d.gsz = if d.sz < d.part then d.part else d.sz := rfl
        by_cases c3 : d.part > d.sz
        · rw [if_pos c3]
          rw [if_pos (by omega)] at hg
          rw [outriderref16_Next.j3, ← hg, ← hmany, ← hp3]
          exact hres _ hl2
        · rw [if_neg c3]
          rw [if_neg (by omega)] at hg
          rw [outriderref16_Next.j3, ← hp3]
          have h9 : ∀ m, m = d.many → outriderref16_Next.l2 ((min d.n (d.nx + d.many)).toNat - nx + 1) [] m d.pol d.sz d.wk d.n d.nx d.tn = some (d.pol, d.sz, d.wk, d.n, (d.next (y : Int)).1.nx, (d.next (y : Int)).1.tn, agesOf (d.next (y : Int))) := by
            intro m hm
            rw [hm]
            exact hres _ hl2
          exact h9 _ (by rw [hmany, hg])

theorem same_true (d : D) (h : d.ok) (x : Int) : outriderlaw16_same.f (d.next x).2.1 (d.next x).2.2.1 (d.next x).2.2.2 (agesOf (d.next x)) = some true := by
  have hb := next_bounds d h x
  have hz : (d.next x).2.2.2 = false → (d.next x).2.1 = 0 ∧ (d.next x).2.2.1 = 0 := by
    unfold D.next
    split
    · intro _; exact ⟨rfl, rfl⟩
    · split
      · intro _; exact ⟨rfl, rfl⟩
      · intro e; simp at e
  obtain ⟨o1, o2, o3, o4, _⟩ := h
  generalize d.next x = r at *
  obtain ⟨d', f, t, ok⟩ := r
  simp only at hb hz ⊢
  unfold outriderlaw16_same.f agesOf
  cases ok with
  | false =>
    obtain ⟨rfl, rfl⟩ := hz rfl
    simp
  | true =>
    obtain ⟨b1, b2, b3⟩ := hb rfl
    simp only [if_true]
    rw [ages_len]
    have e0 : rd (ages f.toNat t.toNat) 0 = f := by
      have := ages_at f.toNat t.toNat 0 (by omega)
      have e : rd (ages f.toNat t.toNat) 0 = (ages f.toNat t.toNat).getD 0 0 := by simp [rd]
      rw [e, this]; omega
    have hw : wrap64 (((t.toNat - f.toNat : Nat) : Int) - 1) = ((t.toNat - f.toNat - 1 : Nat) : Int) := by rw [wrap64_small _ (by omega) (by omega)]; omega
    have e1 : rd (ages f.toNat t.toNat) ((t.toNat - f.toNat - 1 : Nat) : Int) = t - 1 := by
      have := ages_at f.toNat t.toNat (t.toNat - f.toNat - 1) (by omega)
      have e : rd (ages f.toNat t.toNat) ((t.toNat - f.toNat - 1 : Nat) : Int) = (ages f.toNat t.toNat).getD (t.toNat - f.toNat - 1) 0 := by simp [rd]
      rw [e, this]; omega
    rw [if_neg (by omega), if_pos (by omega), e0, if_pos rfl, hw, if_pos (by omega), if_pos (by omega), e1, wrap64_small (t - 1 + 1) (by omega) (by omega), if_pos (by omega), wrap64_small (t - f) (by omega) (by omega)]
    congr 1
    rw [beq_iff_eq]
    omega
theorem row_l0 (l : List Int) (hl : l.length ≤ 1000) : ∀ r a : Nat, a + r = l.length → outriderlaw16_row.l0 (r + 1) l l a = some true := by
  intro r
  induction r with
  | zero =>
    intro a ha
    rw [outriderlaw16_row.l0, if_neg (by omega)]
  | succ r ih =>
    intro a ha
    have := ih (a + 1) (by omega)
    rw [outriderlaw16_row.l0, if_pos (by omega), if_pos (by omega), if_pos (by omega), if_pos rfl, wrap64_small _ (by omega) (by omega)]
    exact this
theorem row_true (l : List Int) (hl : l.length ≤ 1000) : ∃ k, outriderlaw16_row.f k l l = some true :=
  ⟨l.length + 1, by unfold outriderlaw16_row.f; rw [if_pos rfl]; exact row_l0 l hl l.length 0 (by omega)⟩
theorem ref_new (p sz wk n : Int) : ∃ k, outriderref16_New.f k p sz wk n = some (if newErr p sz wk n = 0 then (p, sz, wk, n, 0, List.replicate wk.toNat 0, 0) else (0, 0, 0, 0, 0, [], newErr p sz wk n)) := by
  refine ⟨3, ?_⟩
  unfold outriderref16_New.f
  by_cases c1 : p < 1 ∨ 3 < p
  · have e : newErr p sz wk n = 160 := by unfold newErr; rw [if_pos c1]
    rw [e, if_neg (by omega), if_neg (by omega), if_neg (by omega)]
    have e2 : (p != 3) = true := by rw [bne_iff_ne]; omega
    rw [e2]
    simp [outriderref16_New.j0]
  · have hj : (if p = 1 then outriderref16_New.j0 3 p sz wk n false else if p = 2 then outriderref16_New.j0 3 p sz wk n false else outriderref16_New.j0 3 p sz wk n (p != 3)) = outriderref16_New.j0 3 p sz wk n false := by
      obtain rfl | rfl | rfl : p = 1 ∨ p = 2 ∨ p = 3 := by omega
      · rfl
      · rfl
      · rfl
    rw [hj]
    rw [outriderref16_New.j0, if_neg (by simp)]
    by_cases c2 : sz < 1 ∨ 200 < sz
    · have e : newErr p sz wk n = 161 := by unfold newErr; rw [if_neg c1, if_pos c2]
      rw [e]
      by_cases c21 : sz < 1
      · rw [if_pos c21, outriderref16_New.j1, if_pos rfl, if_neg (by omega)]
      · rw [if_neg c21, decide_eq_true (by omega), outriderref16_New.j1, if_pos rfl, if_neg (by omega)]
    · rw [if_neg (by omega), decide_eq_false (by omega), outriderref16_New.j1, if_neg (by simp)]
      by_cases c3 : wk < 1 ∨ 8 < wk
      · have e : newErr p sz wk n = 162 := by unfold newErr; rw [if_neg c1, if_neg c2, if_pos c3]
        rw [e]
        by_cases c31 : wk < 1
        · rw [if_pos c31, outriderref16_New.j2, if_pos rfl, if_neg (by omega)]
        · rw [if_neg c31, decide_eq_true (by omega), outriderref16_New.j2, if_pos rfl, if_neg (by omega)]
      · rw [if_neg (by omega), decide_eq_false (by omega), outriderref16_New.j2, if_neg (by simp)]
        by_cases c4 : n < 0 ∨ 200 < n
        · have e : newErr p sz wk n = 151 := by unfold newErr; rw [if_neg c1, if_neg c2, if_neg c3, if_pos c4]
          rw [e]
          by_cases c41 : n < 0
          · rw [if_pos c41, if_neg (by omega)]
          · rw [if_neg c41, if_pos (by omega), if_neg (by omega)]
        · have e : newErr p sz wk n = 0 := by unfold newErr; rw [if_neg c1, if_neg c2, if_neg c3, if_neg c4]
          rw [e, if_pos rfl, if_neg (by omega), if_neg (by omega), if_pos (by omega), if_pos (by omega)]
end Go.Proofs.Ytnhjneldjfdnfaa.K
