/- Which ages a dealer has dealt out, and what Next does to them: plain numbers. -/
import Derived.Test.YtnhjneldjfdnfaaD3
namespace Go.Proofs.Ytnhjneldjfdnfaa.K
open Go.RowKit

/-- Was an age dealt out? -/
def D.got (d : D) (a : Nat) : Bool :=
  if d.pol = 1 then decide (((a / d.sz.toNat / d.wk.toNat : Nat) : Int) < d.tn.getD (a / d.sz.toNat % d.wk.toNat) 0) else decide ((a : Int) < d.nx)

/-- The first age from a on that was not dealt out, as far as n. -/
def D.least (d : D) : Nat → Nat → Nat
  | 0, a => a
  | k + 1, a => if d.got a = true then d.least k (a + 1) else a
theorem least_le (d : D) : ∀ k a, a ≤ d.least k a ∧ d.least k a ≤ a + k
  | 0, a => by simp [D.least]
  | k + 1, a => by
    have := least_le d k (a + 1)
    unfold D.least
    split <;> omega
theorem least_below (d : D) : ∀ k a x, a ≤ x → x < d.least k a → d.got x = true
  | 0, a, x => by intro h1 h2; simp only [D.least] at h2; omega
  | k + 1, a, x => by
    intro h1 h2
    unfold D.least at h2
    by_cases c : d.got a = true
    · rw [if_pos c] at h2
      by_cases e : x = a
      · rw [e]; exact c
      · exact least_below d k (a + 1) x (by omega) h2
    · rw [if_neg c] at h2; omega
theorem least_at (d : D) : ∀ k a, d.least k a < a + k → d.got (d.least k a) = false
  | 0, a => by intro h; simp only [D.least] at h; omega
  | k + 1, a => by
    unfold D.least
    intro h
    by_cases c : d.got a = true
    · rw [if_pos c] at h ⊢
      exact least_at d k (a + 1) (by omega)
    · rw [if_neg c]
      simpa using c

theorem turn_nat (d : D) (h : d.ok) (x : Nat) (hx : x < d.wk.toNat) : ∃ t : Nat, d.tn.getD x 0 = t := by
  obtain ⟨o1, o2, o3, o4, o5, o6, o7, o8, o9, o10, o11, o12⟩ := h
  have hl : x < d.tn.length := by omega
  have e : d.tn.getD x 0 = d.tn[x] := by simp [List.getD_eq_getElem?_getD, hl]
  have := (o12 _ (List.getElem_mem hl)).1
  exact ⟨d.tn[x].toNat, by rw [e]; omega⟩

/-- An age lies in the j-th chunk. -/
theorem chunk_iff (a s j : Nat) (hs : 0 < s) : a / s = j ↔ j * s ≤ a ∧ a < j * s + s := by
  constructor
  · intro h
    subst h
    have h1 := Nat.div_mul_le_self a s
    have h2 := Nat.div_add_mod a s
    have h3 := Nat.mod_lt a hs
    have h4 : s * (a / s) = a / s * s := Nat.mul_comm _ _
    omega
  · rintro ⟨h1, h2⟩
    have e : a = (a - j * s) + j * s := by omega
    rw [e, Nat.add_mul_div_right _ _ hs, Nat.div_eq_of_lt (by omega), Nat.zero_add]
theorem worker_iff (j k t x : Nat) (hx : x < k) : (j / k = t ∧ j % k = x) ↔ j = t * k + x := by
  constructor
  · rintro ⟨h1, h2⟩
    have h3 := Nat.div_add_mod j k
    rw [h1, h2, Nat.mul_comm] at h3
    exact h3.symm
  · intro h
    subst h
    constructor
    · rw [Nat.add_comm, Nat.add_mul_div_right _ _ (by omega), Nat.div_eq_of_lt hx, Nat.zero_add]
    · rw [Nat.add_comm, Nat.add_mul_mod_self_right, Nat.mod_eq_of_lt hx]

/-- The ages of a chunk are those that are dealt out by it (Static). -/
theorem got_turn (d : D) (h : d.ok) (hp : d.pol = 1) (x t : Nat) (hx : x < d.wk.toNat) (ht : d.tn.getD x 0 = t) (a : Nat) :
    (d.turn x).got a = (d.got a || decide ((t * d.wk.toNat + x) * d.sz.toNat ≤ a ∧ a < (t * d.wk.toNat + x) * d.sz.toNat + d.sz.toNat)) := by
  obtain ⟨o1, o2, o3, o4, o5, o6, o7, o8, o9, o10, o11, o12⟩ := h
  have hl : x < d.tn.length := by omega
  have hs : 0 < d.sz.toNat := by omega
  have hci := chunk_iff a d.sz.toNat (t * d.wk.toNat + x) hs
  rw [← worker_iff (a / d.sz.toNat) d.wk.toNat t x hx |>.symm.symm] at hci
  unfold D.got D.turn
  simp only [if_pos hp]
  rw [Bool.eq_iff_iff]
  simp only [Bool.or_eq_true, decide_eq_true_eq]
  by_cases e : a / d.sz.toNat % d.wk.toNat = x
  · have e1 : (d.tn.set x (d.tn.getD x 0 + 1)).getD (a / d.sz.toNat % d.wk.toNat) 0 = t + 1 := by
      rw [e, ht]
      simp [List.getD_eq_getElem?_getD, hl]
    rw [e1, e, ht, ← hci]
    constructor
    · intro h
      by_cases q : a / d.sz.toNat / d.wk.toNat = t
      · exact .inr ⟨q, e⟩
      · exact .inl (by omega)
    · rintro (h | h)
      · omega
      · omega
  · have e1 : (d.tn.set x (d.tn.getD x 0 + 1)).getD (a / d.sz.toNat % d.wk.toNat) 0 = d.tn.getD (a / d.sz.toNat % d.wk.toNat) 0 := by
      simp only [List.getD_eq_getElem?_getD]
      rw [List.getElem?_set_ne (fun q => e q.symm)]
    rw [e1, ← hci]
    constructor
    · intro h; exact .inl h
    · rintro (h | h)
      · exact h
      · exact absurd h.2 e

theorem from_nat (d : D) (h : d.ok) (x t : Nat) (ht : d.tn.getD x 0 = t) : d.from x = (((t * d.wk.toNat + x) * d.sz.toNat : Nat) : Int) := by
  obtain ⟨o1, o2, o3, o4, o5, o6, o7, o8, o9, o10, o11, o12⟩ := h
  unfold D.from
  rw [ht]
  have e1 : ((d.wk.toNat : Nat) : Int) = d.wk := by omega
  have e2 : ((d.sz.toNat : Nat) : Int) = d.sz := by omega
  rw [Int.natCast_mul, Int.natCast_add, Int.natCast_mul, e1, e2]

/-- How many a dealer that is not static deals out. -/
def D.many (d : D) : Int := if d.pol = 2 then d.sz else d.gsz
theorem many_pos (d : D) (h : d.ok) : 1 ≤ d.many := by
  obtain ⟨o1, o2, o3, o4, o5, o6, o7, o8, o9, o10, o11, o12⟩ := h
  unfold D.many D.gsz
  split
  · omega
  · split <;> omega
theorem take_other (d : D) (hp : d.pol ≠ 1) (x : Nat) : d.take x = (d.some d.many, d.nx, (d.some d.many).nx) := by
  unfold D.take D.many
  rw [if_neg hp]
  by_cases c : d.pol = 2
  · rw [if_pos c, if_pos c]
  · rw [if_neg c, if_neg c]

/-- What Next does: the ages that were dealt out behind it, and the bounds of what it answers. -/
theorem next_got (d : D) (h : d.ok) (x : Int) (a : Nat) (ha : (a : Int) < d.n) :
    (d.next x).1.got a = (d.got a || ((d.next x).2.2.2 && (decide ((d.next x).2.1 ≤ a) && decide ((a : Int) < (d.next x).2.2.1)))) := by
  unfold D.next
  by_cases c : x < 0 ∨ d.wk ≤ x
  · rw [if_pos c]; simp
  · rw [if_neg c]
    have o := h
    obtain ⟨o1, o2, o3, o4, o5, o6, o7, o8, o9, o10, o11, o12⟩ := o
    have hx : x.toNat < d.wk.toNat := by omega
    by_cases hp : d.pol = 1
    · obtain ⟨t, ht⟩ := turn_nat d h x.toNat hx
      have hf := from_nat d h x.toNat t ht
      have hg := got_turn d h hp x.toNat t hx ht a
      have htake : d.take x.toNat = if d.from x.toNat < d.n then (d.turn x.toNat, d.from x.toNat, mn2 d.n (d.from x.toNat + d.sz)) else (d, 0, 0) := by unfold D.take; rw [if_pos hp]
      by_cases c2 : d.from x.toNat < d.n
      · rw [if_pos c2] at htake
        have hlt : ¬ d.from x.toNat ≥ mn2 d.n (d.from x.toNat + d.sz) := by unfold mn2; split <;> omega
        rw [htake]
        simp only
        rw [if_neg hlt]
        simp only [Bool.true_and]
        rw [hg, hf]
        have hM : mn2 d.n ((((t * d.wk.toNat + x.toNat) * d.sz.toNat : Nat) : Int) + d.sz) = if (((t * d.wk.toNat + x.toNat) * d.sz.toNat : Nat) : Int) + d.sz < d.n then (((t * d.wk.toNat + x.toNat) * d.sz.toNat : Nat) : Int) + d.sz else d.n := rfl
        generalize (t * d.wk.toNat + x.toNat) * d.sz.toNat = F at *
        generalize mn2 d.n ((F : Int) + d.sz) = M at *
        congr 1
        rw [Bool.eq_iff_iff]
        simp only [Bool.and_eq_true, decide_eq_true_eq]
        split at hM <;> omega
      · rw [if_neg c2] at htake
        rw [htake]
        simp
    · rw [take_other d hp x.toNat]
      have hm := many_pos d h
      have hnx : (d.some d.many).nx = mn2 d.n (d.nx + d.many) := rfl
      have hM : mn2 d.n (d.nx + d.many) = if d.nx + d.many < d.n then d.nx + d.many else d.n := rfl
      have hgot : (d.some d.many).got a = decide ((a : Int) < (d.some d.many).nx) := by unfold D.got; rw [if_neg (show ¬ (d.some d.many).pol = 1 from hp)]
      have hgot0 : d.got a = decide ((a : Int) < d.nx) := by unfold D.got; rw [if_neg hp]
      simp only
      rw [hnx] at hgot ⊢
      generalize mn2 d.n (d.nx + d.many) = M at *
      by_cases c2 : d.nx ≥ M
      · rw [if_pos c2]
        simp only [Bool.false_and, Bool.or_false]
        rw [hgot, hgot0, Bool.eq_iff_iff]
        simp only [decide_eq_true_eq]
        split at hM <;> omega
      · rw [if_neg c2]
        simp only [Bool.true_and]
        rw [hgot, hgot0, Bool.eq_iff_iff]
        simp only [Bool.or_eq_true, Bool.and_eq_true, decide_eq_true_eq]
        split at hM <;> omega
theorem next_bounds (d : D) (h : d.ok) (x : Int) (hok : (d.next x).2.2.2 = true) : 0 ≤ (d.next x).2.1 ∧ (d.next x).2.1 < (d.next x).2.2.1 ∧ (d.next x).2.2.1 ≤ d.n := by
  revert hok
  unfold D.next
  by_cases c : x < 0 ∨ d.wk ≤ x
  · rw [if_pos c]; intro h; simp at h
  · rw [if_neg c]
    have o := h
    obtain ⟨o1, o2, o3, o4, o5, o6, o7, o8, o9, o10, o11, o12⟩ := o
    have hx : x.toNat < d.wk.toNat := by omega
    by_cases c2 : (d.take x.toNat).2.1 ≥ (d.take x.toNat).2.2
    · rw [if_pos c2]; intro h; simp at h
    · rw [if_neg c2]
      intro _
      simp only
      by_cases hp : d.pol = 1
      · obtain ⟨t, ht⟩ := turn_nat d h x.toNat hx
        have hf := from_nat d h x.toNat t ht
        have htake : d.take x.toNat = if d.from x.toNat < d.n then (d.turn x.toNat, d.from x.toNat, mn2 d.n (d.from x.toNat + d.sz)) else (d, 0, 0) := by unfold D.take; rw [if_pos hp]
        rw [htake] at c2 ⊢
        by_cases c3 : d.from x.toNat < d.n
        · rw [if_pos c3] at c2 ⊢
          refine ⟨by simp only; omega, by simp only at c2 ⊢; omega, ?_⟩
          simp only
          unfold mn2
          split <;> omega
        · rw [if_neg c3] at c2
          simp at c2
      · rw [take_other d hp x.toNat] at c2 ⊢
        have hnx : (d.some d.many).nx = mn2 d.n (d.nx + d.many) := rfl
        simp only at c2 ⊢
        rw [hnx] at c2 ⊢
        refine ⟨o9, by omega, ?_⟩
        unfold mn2
        split <;> omega
/-- The least age that nobody got stands first in what its worker gets. -/
theorem next_least (d : D) (h : d.ok) (x : Int) (h0 : 0 ≤ x) (hx : x < d.wk) (hl : ((d.least d.n.toNat 0 : Nat) : Int) < d.n) (hw : d.pol = 1 → ((d.least d.n.toNat 0 / d.sz.toNat % d.wk.toNat : Nat) : Int) = x) :
    (d.next x).2.2.2 = true ∧ (d.next x).2.1 = ((d.least d.n.toNat 0 : Nat) : Int) := by
  have o := h
  obtain ⟨o1, o2, o3, o4, o5, o6, o7, o8, o9, o10, o11, o12⟩ := o
  have hat := least_at d d.n.toNat 0 (by omega)
  have hbe := least_below d d.n.toNat 0
  generalize d.least d.n.toNat 0 = L at *
  have hxn : x.toNat < d.wk.toNat := by omega
  unfold D.next
  rw [if_neg (by omega)]
  by_cases hp : d.pol = 1
  · obtain ⟨t, ht⟩ := turn_nat d h x.toNat hxn
    have hf := from_nat d h x.toNat t ht
    have hs : 0 < d.sz.toNat := by omega
    have hwx : L / d.sz.toNat % d.wk.toNat = x.toNat := by have := hw hp; omega
    have hge : t ≤ L / d.sz.toNat / d.wk.toNat := by
      unfold D.got at hat
      rw [if_pos hp, hwx, ht] at hat
      have := of_decide_eq_false hat
      omega
    have hL1 : (t * d.wk.toNat + x.toNat) * d.sz.toNat ≤ L := by
      have e1 := Nat.div_add_mod (L / d.sz.toNat) d.wk.toNat
      rw [hwx, Nat.mul_comm] at e1
      have e2 : t * d.wk.toNat ≤ L / d.sz.toNat / d.wk.toNat * d.wk.toNat := Nat.mul_le_mul_right _ hge
      have e3 : t * d.wk.toNat + x.toNat ≤ L / d.sz.toNat := by omega
      exact Nat.le_trans (Nat.mul_le_mul_right _ e3) (Nat.div_mul_le_self L d.sz.toNat)
    have hL2 : ¬ (t * d.wk.toNat + x.toNat) * d.sz.toNat < L := by
      intro hlt
      have hg := hbe _ (Nat.zero_le _) hlt
      unfold D.got at hg
      rw [if_pos hp, Nat.mul_div_cancel _ hs] at hg
      obtain ⟨q1, q2⟩ := (worker_iff (t * d.wk.toNat + x.toNat) d.wk.toNat t x.toNat hxn).2 rfl
      rw [q1, q2, ht] at hg
      simp at hg
    have hLe : (t * d.wk.toNat + x.toNat) * d.sz.toNat = L := by omega
    have htake : d.take x.toNat = if d.from x.toNat < d.n then (d.turn x.toNat, d.from x.toNat, mn2 d.n (d.from x.toNat + d.sz)) else (d, 0, 0) := by unfold D.take; rw [if_pos hp]
    rw [hf, hLe, if_pos hl] at htake
    have hlt : ¬ ((L : Int) ≥ mn2 d.n ((L : Int) + d.sz)) := by unfold mn2; split <;> omega
    rw [htake]
    simp only
    rw [if_neg hlt]
    exact ⟨rfl, rfl⟩
  · have hm := many_pos d h
    have hL : (L : Int) = d.nx := by
      have g0 : ∀ a : Nat, d.got a = decide ((a : Int) < d.nx) := by intro a; unfold D.got; rw [if_neg hp]
      rw [g0] at hat
      have h1 := of_decide_eq_false hat
      by_cases e : (L : Int) = d.nx
      · exact e
      · have h2 := hbe d.nx.toNat (Nat.zero_le _) (by omega)
        rw [g0] at h2
        have := of_decide_eq_true h2
        omega
    rw [take_other d hp x.toNat]
    have hnx : (d.some d.many).nx = mn2 d.n (d.nx + d.many) := rfl
    simp only
    rw [hnx]
    have hlt : ¬ (d.nx ≥ mn2 d.n (d.nx + d.many)) := by unfold mn2; split <;> omega
    rw [if_neg hlt]
    exact ⟨rfl, hL.symm⟩
end Go.Proofs.Ytnhjneldjfdnfaa.K
