/- The reference's gap, digits, sign on rows of bytes. -/
import Derived.Test.YtclhpdnldnifcaaPureN
import Derived.Test.YtclhpdnldnifcaaK6
namespace Go.Proofs.Ytclhpdnldnifcaa.K
open Go.RowKit Go.Proofs.YtclhpdnldnifcaaW.PrintWords Go.Proofs.YtclhpdnldnifcaaW.PrintLast Go.Proofs.YtclhpdnldnifcaaW.PrintMore
set_option linter.unusedVariables false

theorem gap_l0 (s : ByteArray) (hs : s.size ≤ 8192) : ∀ (l : List UInt8) (i : Nat) (r : Bool), (lst s).drop i = l → i ≤ s.size → ∀ k, outriderref03_gap.l0 (k + 2 * l.length + 1) s (i : Int) r = some ((s.size - (skipL r l).length : Nat) : Int)
  | [], i, r, h, hi, k => by
    have e := drop_nil h hi
    subst e
    rw [outriderref03_gap.l0, if_neg (by omega)]
    cases r <;> rfl
  | c :: l, i, r, h, hi, k => by
    obtain ⟨h1, h2, h3⟩ := bt_drop h
    have hw := wrap64_nat i (by omega)
    have ih := fun r => gap_l0 s hs l (i + 1) r h3 (by omega) k
    have e : k + 2 * (c :: l).length + 1 = (k + 2 * l.length + 1) + 1 + 1 := by simp only [List.length_cons]; omega
    have hlen : s.size - (c :: l).length = i := by
      have := congrArg List.length h
      rw [List.length_drop, lst_len] at this
      omega
    rw [e, outriderref03_gap.l0, if_pos (by omega), if_pos (by omega), h2]
    by_cases q : c8 c = 10
    · rw [if_pos q, outriderref03_gap.j1, if_neg (by omega), if_neg (by simp), if_neg (by omega), if_pos q, hw, ih]
      have hb : blankB c = true := by unfold blankB; rw [q]; rfl
      cases r
      · rw [skipL, if_pos hb]
      · rw [skipL, if_pos q]
    · rw [if_neg q, outriderref03_gap.j1]
      by_cases q2 : c8 c = 35
      · rw [if_pos q2, hw, ih]
        have hb : ¬ blankB c = true := by unfold blankB; rw [q2]; decide
        cases r
        · rw [skipL, if_neg hb, if_pos q2]
        · rw [skipL, if_neg q]
      · rw [if_neg q2]
        cases r
        · rw [if_neg (by simp)]
          by_cases b1 : c8 c = 32
          · have hb : blankB c = true := by unfold blankB; rw [b1]; rfl
            rw [if_pos b1, hw, ih, skipL, if_pos hb]
          · rw [if_neg b1, if_neg q]
            by_cases b2 : c8 c = 9
            · have hb : blankB c = true := by unfold blankB; rw [b2]; rfl
              rw [if_pos b2, hw, ih, skipL, if_pos hb]
            · rw [if_neg b2]
              by_cases b3 : c8 c = 13
              · have hb : blankB c = true := by unfold blankB; rw [b3]; rfl
                rw [if_pos b3, hw, ih, skipL, if_pos hb]
              · have hb : ¬ blankB c = true := by unfold blankB; simp [b1, q, b2, b3]
                rw [if_neg b3, skipL, if_neg hb, if_neg q2, hlen]
        · rw [if_pos rfl, hw, ih, skipL, if_neg q]
def digitsB (t : List UInt8) : Bool := t.all digB && !t.isEmpty
theorem digits_l0 (s : ByteArray) (hs : s.size ≤ 140737488351232) : ∀ (l : List UInt8) (i : Nat), (lst s).drop i = l → i ≤ s.size → ∀ k, outriderref03_digits.l0 (k + l.length + 1) s (i : Int) = some (l.all digB && decide ((s.size : Int) > 0))
  | [], i, h, hi, k => by
    have e := drop_nil h hi
    subst e
    rw [outriderref03_digits.l0, if_neg (by omega)]
    rfl
  | c :: l, i, h, hi, k => by
    obtain ⟨h1, h2, h3⟩ := bt_drop h
    have hw := wrap64_nat i (by omega)
    have ih := digits_l0 s hs l (i + 1) h3 (by omega) k
    have e : k + (c :: l).length + 1 = (k + l.length + 1) + 1 := by simp only [List.length_cons]; omega
    rw [e, outriderref03_digits.l0, if_pos (by omega), if_pos (by omega), h2, rdigit_f]
    simp only [Option.bind_some]
    cases q : isDig (c8 c) with
    | true =>
      have q' : digB c = true := q
      rw [if_pos rfl, hw, ih, List.all_cons, q', Bool.true_and]
    | false =>
      have q' : digB c = false := q
      rw [if_neg (by simp), List.all_cons, q', Bool.false_and, Bool.false_and]
/-! ### A sign -/
def ones : ByteArray := ⟨#[61, 60, 62, 43, 45, 42, 47, 37, 38, 124, 94, 126, 33, 40, 41, 91, 93, 123, 125, 59, 44]⟩
def twos : List (List UInt8) := [[61, 61], [33, 61], [60, 61], [62, 61], [60, 60], [62, 62]]
def signB (t : List UInt8) : Bool := signsL.contains t
theorem sign_loop (s : ByteArray) (c : UInt8) (hc : lst s = [c]) : ∀ (l : List UInt8) (i : Nat), (lst ones).drop i = l → i ≤ 21 → ∀ k, outriderref03_sign.l0 (k + 2 * l.length + 2) s ones (i : Int) = some (l.contains c)
  | [], i, h, hi, k => by
    have e := drop_nil h hi
    subst e
    have e2 : k + 2 * ([] : List UInt8).length + 2 = k + 1 + 1 := rfl
    rw [e2, outriderref03_sign.l0, if_neg (by omega), outriderref03_sign.j1, if_neg (by simp)]
    rfl
  | d :: l, i, h, hi, k => by
    obtain ⟨h1, h2, h3⟩ := bt_drop h
    have h21 : ones.size = 21 := rfl
    have hw := wrap64_nat i (by omega)
    have ih := sign_loop s c hc l (i + 1) h3 (by omega) k
    have hsz : s.size = 1 := by rw [← lst_len, hc]; rfl
    have hb : bt s 0 = c8 c := (bt_drop (s := s) (i := 0) (c := c) (l := []) (by rw [hc]; rfl)).2.1
    have e2 : k + 2 * (d :: l).length + 2 = (k + 2 * l.length + 2) + 1 + 1 := by simp only [List.length_cons]; omega
    have e3 : ((s.size : Int) == 1) = true := by rw [hsz]; rfl
    rw [e2, outriderref03_sign.l0, if_pos (by omega), e3, outriderref03_sign.j1, if_pos rfl, if_pos (by omega), if_pos (by omega), if_pos (by omega), h2, hb, hw, ih]
    by_cases q : c8 d = c8 c
    · have : d = c := UInt8.toNat_inj.mp (by unfold c8 at q; omega)
      rw [if_pos q, this]
      simp
    · have : ¬ c = d := fun x => q (by rw [x])
      rw [if_neg q]
      simp [this]
theorem sign_one (c : UInt8) : (lst ones).contains c = signB [c] := by
  unfold signB signsL
  have : lst ones = [61, 60, 62, 43, 45, 42, 47, 37, 38, 124, 94, 126, 33, 40, 41, 91, 93, 123, 125, 59, 44] := rfl
  rw [this]
  simp only [List.contains_cons, List.contains_nil, Bool.or_false]
  simp
theorem sign_big (t : List UInt8) (h : t.length ≠ 1) (h2 : t.length ≠ 2) : signB t = false := by
  cases q : signB t with
  | false => rfl
  | true =>
    exfalso
    have hm : t ∈ signsL := by unfold signB at q; simpa using q
    have := sign_small t hm
    have := sign_pos t hm
    omega
theorem sign_two (a b : UInt8) : signB [a, b] = twos.contains [a, b] := by
  unfold signB signsL twos
  simp
theorem rsign_f (s : ByteArray) (k : Nat) : outriderref03_sign.f (k + 44) s = some (signB (lst s)) := by
  have htl : s.toList = lst s := toList_eq s
  have hlen := lst_len s
  by_cases c2 : s.size = 2
  · cases hs : lst s with
    | nil => rw [hs] at hlen; simp at hlen; omega
    | cons a m =>
      cases m with
      | nil => rw [hs] at hlen; simp at hlen; omega
      | cons b m =>
        cases m with
        | cons d m => rw [hs] at hlen; simp at hlen; omega
        | nil =>
          unfold outriderref03_sign.f
          rw [if_pos (by omega), htl, hs, sign_two]
          unfold twos
          simp only [if_or]
          have e : ([a, b] == ([62, 62] : List UInt8)) = ([a, b] == ([62, 62] : List UInt8) || false) := by rw [Bool.or_false]
          simp only [List.contains_cons, List.contains_nil, Bool.or_false]
  · unfold outriderref03_sign.f
    rw [if_neg (by omega)]
    by_cases c1 : s.size = 1
    · cases hs : lst s with
      | nil => rw [hs] at hlen; simp at hlen; omega
      | cons a m =>
        cases m with
        | cons d m => rw [hs] at hlen; simp at hlen; omega
        | nil =>
          have := sign_loop s a hs (lst ones) 0 rfl (by omega) k
          rw [sign_one] at this
          exact this
    · have h21 : ones.size = 21 := rfl
      have e3 : ((s.size : Int) == 1) = false := beq_eq_false_iff_ne.2 (by omega)
      show outriderref03_sign.l0 (k + 42 + 1 + 1) s ones 0 = _
      rw [outriderref03_sign.l0, if_pos (by omega), e3, outriderref03_sign.j1, if_neg (by simp), sign_big _ (by omega) (by omega)]
end Go.Proofs.Ytclhpdnldnifcaa.K
