/- The chapter's own examples: plain. -/
import Derived.Test.YtclhpdnldnifcaaPureL
import Derived.Test.YtclhpdnldnifcaaK3
namespace Go.Proofs.Ytclhpdnldnifcaa.K
open Go.RowKit Go.Proofs.YtclhpdnldnifcaaW.PrintWords Go.Proofs.YtclhpdnldnifcaaW.PrintLast Go.Proofs.YtclhpdnldnifcaaW.PrintMore
set_option linter.unusedVariables false

theorem cut_ex1 : cutP ⟨#[120, 61, 49, 50, 59]⟩ = ([⟨2, bs [120], 0, 0⟩, ⟨4, bs [61], 0, 1⟩, ⟨1, bs [49, 50], 12, 2⟩, ⟨4, bs [59], 0, 4⟩, ⟨0, ⟨#[]⟩, 0, 5⟩], 0, 0) := by kernel_rfl
theorem cut_ex2 : cutP ⟨#[97, 32, 36]⟩ = ([], 2, 31) := by kernel_rfl
/-- A name, told. -/
def nameB (t : List UInt8) : Bool := match t with
  | [] => false
  | c :: l => decide ((c :: l).length ≤ 12) && (letB c && (!wordsB (c :: l) && l.all anB))
theorem name_l0 (s : ByteArray) (hs : s.size ≤ 140737488351232) : ∀ (l : List UInt8) (i : Nat), (lst s).drop i = l → i ≤ s.size → ∃ k, lex_Name.l0 k s (s.size : Int) (i : Int) = some (l.all anB)
  | [], i, h, hi => by
    have e := drop_nil h hi
    subst e
    exact ⟨1, by rw [lex_Name.l0, if_neg (by omega)]; rfl⟩
  | c :: l, i, h, hi => by
    obtain ⟨h1, h2, h3⟩ := bt_drop h
    obtain ⟨k, hk⟩ := name_l0 s hs l (i + 1) h3 (by omega)
    refine ⟨k + 1, ?_⟩
    rw [lex_Name.l0, if_pos (by omega), if_pos (by omega), if_pos (by omega), h2, letter_f, wrap64_nat i (by omega)]
    simp only [Option.bind_some]
    cases hl : isLet (c8 c) with
    | true =>
      have ha : anB c = true := by unfold anB isAn; rw [hl]; rfl
      rw [if_pos rfl, hk, List.all_cons, ha, Bool.true_and]
    | false =>
      rw [if_neg (by simp), digit_f]
      simp only [Option.bind_some]
      cases hd : isDig (c8 c) with
      | true =>
        have ha : anB c = true := by unfold anB isAn; rw [hl, hd]; rfl
        rw [if_pos rfl, hk, List.all_cons, ha, Bool.true_and]
      | false =>
        have ha : anB c = false := by unfold anB isAn; rw [hl, hd]; rfl
        rw [if_neg (by simp), List.all_cons, ha, Bool.false_and]
theorem name_ok (s : ByteArray) (hs : s.size ≤ 140737488351232) : ∃ k, lex_Name.f k s = some (nameB (lst s)) := by
  have htl : s.toList = lst s := toList_eq s
  have hlen := lst_len s
  cases hl : lst s with
  | nil =>
    refine ⟨1, ?_⟩
    unfold lex_Name.f
    rw [if_pos (htl.trans hl), lex_Name.j0, if_pos rfl]
    rfl
  | cons c l =>
    obtain ⟨h1, h2, h3⟩ := bt_drop (s := s) (i := 0) (c := c) (l := l) (by rw [List.drop_zero, hl])
    obtain ⟨k, hk⟩ := name_l0 s hs (lst s) 0 rfl (Nat.zero_le _)
    have h2' : bt s 0 = c8 c := h2
    have hne : ¬ s.toList = ([] : List UInt8) := by rw [htl, hl]; simp
    have hw : lex_Words.f s = some (wordsB (c :: l)) := by
      have := words_get (lst s)
      rw [bs_lst] at this
      rw [this, hl]
    rw [hl] at hk hlen
    have hnb : nameB (c :: l) = (decide ((c :: l).length ≤ 12) && (letB c && (!wordsB (c :: l) && l.all anB))) := rfl
    refine ⟨k + 1, ?_⟩
    unfold lex_Name.f
    rw [if_neg hne, hnb]
    by_cases q : (s.size : Int) > 12
    · rw [if_pos q, lex_Name.j0, if_pos rfl, decide_eq_false (show ¬ (c :: l).length ≤ 12 by omega)]
      rfl
    · rw [if_neg q, if_pos (by omega), h2', letter_f, decide_eq_true (show (c :: l).length ≤ 12 by omega)]
      simp only [Option.bind_some, Bool.true_and]
      cases hlc : isLet (c8 c) with
      | false =>
        have : letB c = false := hlc
        rw [if_neg (by simp), lex_Name.j0, if_pos rfl, this]
        rfl
      | true =>
        have : letB c = true := hlc
        have ha : anB c = true := by unfold anB isAn; rw [hlc]; rfl
        rw [if_pos rfl, hw, this]
        simp only [Option.bind_some, Bool.true_and]
        cases hwb : wordsB (c :: l) with
        | true => rw [lex_Name.j0, if_pos rfl]; rfl
        | false =>
          rw [lex_Name.j0, if_neg (by simp)]
          refine (show _ = _ from hk).trans ?_
          rw [List.all_cons, ha]
          rfl
theorem alive_ok : ∃ k, outriderlaw03_alive.f k = some true := by
  obtain ⟨k1, h1⟩ := name_ok ⟨#[97, 98, 99]⟩ (by decide)
  obtain ⟨k2, h2⟩ := name_ok ⟨#[109, 105, 110]⟩ (by decide)
  have m := fun s => more_rounds (g := fun k => lex_Name.f k s) (fun k => lex_Name.mono _ k)
  have a1 := m _ k1 k2 _ h1
  have a2 := m _ k2 k1 _ h2
  rw [Nat.add_comm k2 k1] at a2
  have b1 : nameB (lst ⟨#[97, 98, 99]⟩) = true := by kernel_rfl
  have b2 : nameB (lst ⟨#[109, 105, 110]⟩) = false := by kernel_rfl
  rw [b1] at a1
  rw [b2] at a2
  have hw : lex_Words.f ⟨#[109, 105, 110]⟩ = some true := words_get [109, 105, 110]
  refine ⟨k1 + k2, ?_⟩
  unfold outriderlaw03_alive.f
  rw [cut_f, cut_ex1, cut_f, cut_ex2, a1, a2, hw]
  simp [rd_T33, bs_toList]
end Go.Proofs.Ytclhpdnldnifcaa.K
