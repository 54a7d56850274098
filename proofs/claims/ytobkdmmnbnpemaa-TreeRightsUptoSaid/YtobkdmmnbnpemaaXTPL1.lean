/- The reference's names: plain lists (moved from the chapter 03's texts). -/
import Derived.Test.YtobkdmmnbnpemaaXTPL0
import Derived.Test.YtobkdmmnbnpemaaXTR1
namespace Go.Proofs.Ytobkdmmnbnpemaa.K
open Go.RowKit Go.Proofs.YtobkdmmnbnpemaaW.PrintWords Go.Proofs.YtobkdmmnbnpemaaW.PrintLast Go.Proofs.YtobkdmmnbnpemaaW.PrintMore
set_option linter.unusedVariables false
set_option linter.unusedSimpArgs false
theorem rletter_f (c : Int) : outriderref03_letter.f c = some (isLet c) := by
  unfold outriderref03_letter.f isLet
  by_cases a : 97 ≤ c <;> by_cases b : c ≤ 122 <;> by_cases d : 65 ≤ c <;> by_cases e : c ≤ 90 <;> simp [a, b, d, e] <;> omega
theorem rdigit_f (c : Int) : outriderref03_digit.f c = some (isDig c) := by
  unfold outriderref03_digit.f isDig
  by_cases a : 48 ≤ c <;> by_cases b : c ≤ 57 <;> simp [a, b]
def rowB (t : List UInt8) : Bool := match t with
  | [] => false
  | c :: l => letB c && l.all anB
theorem row_go (s : ByteArray) (hs : s.size ≤ 140737488351232) : ∀ (l : List UInt8) (i : Nat), (lst s).drop i = l → 1 ≤ i → i ≤ s.size → ∃ k, outriderref03_row.l0 k s (i : Int) = some (l.all anB)
  | [], i, h, h1, hi => by
    have e := drop_nil h hi
    have hp : decide ((s.size : Int) > 0) = true := decide_eq_true (by omega)
    refine ⟨1, ?_⟩
    rw [outriderref03_row.l0, if_neg (by omega), hp]
    rfl
  | c :: l, i, h, h0, hi => by
    obtain ⟨h1, h2, h3⟩ := bt_drop h
    obtain ⟨k, hk⟩ := row_go s hs l (i + 1) h3 (by omega) (by omega)
    have hw := wrap64_nat i (by omega)
    refine ⟨k + 1, ?_⟩
    rw [outriderref03_row.l0, if_pos (by omega), if_pos (by omega), h2, rletter_f]
    simp only [Option.bind_some]
    cases hl : isLet (c8 c) with
    | true =>
      have ha : anB c = true := by unfold anB isAn; rw [hl]; rfl
      rw [if_pos rfl, hw, hk, List.all_cons, ha, Bool.true_and]
    | false =>
      rw [if_neg (by simp), rdigit_f]
      simp only [Option.bind_some]
      cases hd : isDig (c8 c) with
      | true =>
        have ha : anB c = true := by unfold anB isAn; rw [hl, hd]; rfl
        rw [if_pos rfl, if_neg (by omega), hw, hk, List.all_cons, ha, Bool.true_and]
      | false =>
        have ha : anB c = false := by unfold anB isAn; rw [hl, hd]; rfl
        rw [if_neg (by simp), List.all_cons, ha, Bool.false_and]
theorem row_ok (s : ByteArray) (hs : s.size ≤ 140737488351232) : ∃ k, outriderref03_row.f k s = some (rowB (lst s)) := by
  have hlen := lst_len s
  cases hl : lst s with
  | nil =>
    rw [hl] at hlen
    simp only [List.length_nil] at hlen
    have hp : decide ((s.size : Int) > 0) = false := decide_eq_false (by omega)
    refine ⟨1, ?_⟩
    unfold outriderref03_row.f
    rw [outriderref03_row.l0, if_neg (by omega), hp]
    rfl
  | cons c l =>
    obtain ⟨h1, h2, h3⟩ := bt_drop (s := s) (i := 0) (c := c) (l := l) (by rw [List.drop_zero, hl])
    obtain ⟨k, hk⟩ := row_go s hs l 1 h3 (by omega) (by omega)
    have h2' : bt s 0 = c8 c := h2
    have hw : wrap64 ((0 : Int) + 1) = ((1 : Nat) : Int) := by unfold wrap64; omega
    have hr : rowB (c :: l) = (letB c && l.all anB) := rfl
    refine ⟨k + 1, ?_⟩
    unfold outriderref03_row.f
    rw [outriderref03_row.l0, if_pos (by omega), if_pos (by omega), h2', rletter_f, hr]
    simp only [Option.bind_some]
    cases hlc : isLet (c8 c) with
    | true =>
      have : letB c = true := hlc
      rw [if_pos rfl, hw, hk, this, Bool.true_and]
    | false =>
      have : letB c = false := hlc
      rw [if_neg (by simp), rdigit_f, this]
      simp only [Option.bind_some]
      cases hd : isDig (c8 c) with
      | true => simp
      | false => rw [if_neg (by simp)]; rfl
def rwordsL : List (List UInt8) := [[109], [105, 102], [118, 97, 114], [109, 105, 110], [109, 97, 120], [101, 108, 115, 101], [101, 109, 105, 116], [105, 110, 116, 111], [102, 97, 105, 108], [115, 116, 111, 112], [119, 104, 105, 108, 101]]
theorem rwords_go (s : ByteArray) : ∀ (ws : List (List UInt8)) (j : Nat), rwordsL.drop j = ws → ∃ k, outriderref03_Words.l0 k s (rwordsL.map bs) (j : Int) = some (ws.contains (lst s))
  | [], j, hj => by
    have hl : rwordsL.length ≤ j := by
      have := congrArg List.length hj
      rw [List.length_drop] at this
      simp at this
      omega
    refine ⟨1, ?_⟩
    rw [outriderref03_Words.l0, if_neg (by rw [List.length_map]; omega)]
    rfl
  | w :: ws, j, hj => by
    have hl : j < rwordsL.length := by
      by_cases q : j < rwordsL.length
      · exact q
      · rw [List.drop_eq_nil_of_le (by omega)] at hj; simp at hj
    rw [List.drop_eq_getElem_cons hl] at hj
    injection hj with h1 h2
    obtain ⟨k, hk⟩ := rwords_go s ws (j + 1) h2
    have hl3 : j < (rwordsL.map bs).length := by rw [List.length_map]; exact hl
    have hx : (rwordsL.map bs)[j]'hl3 = bs w := by rw [List.getElem_map, h1]
    have hrd : rdOf ByteArray.empty (rwordsL.map bs) (j : Int) = bs w := by
      unfold rdOf
      simp only [Int.toNat_natCast]
      rw [List.getD_eq_getElem?_getD, List.getElem?_eq_getElem hl3]
      exact hx
    have h11 : rwordsL.length = 11 := rfl
    have hw : wrap64 ((j : Int) + 1) = ((j + 1 : Nat) : Int) := by unfold wrap64; omega
    refine ⟨k + 1, ?_⟩
    rw [outriderref03_Words.l0, if_pos (by omega), if_pos (by omega), hrd, hw]
    have ht : s.toList = lst s := toList_eq s
    simp only [bs_toList, ht]
    by_cases c : w = lst s
    · rw [if_pos c, ← c]
      simp
    · rw [if_neg c, hk]
      have : (lst s == w) = false := by rw [beq_eq_false_iff_ne]; exact fun e => c e.symm
      rw [List.contains_cons, this, Bool.false_or]
theorem rwords_same (t : List UInt8) : rwordsL.contains t = wordsB t := by
  unfold rwordsL wordsB
  simp only [List.contains_cons, List.contains_nil, Bool.or_false]
  rw [Bool.eq_iff_iff]
  simp only [Bool.or_eq_true]
  constructor <;> intro h <;> (repeat' rcases h with h | h) <;> simp [h]
theorem rwords_ok (s : ByteArray) : ∃ k, outriderref03_Words.f k s = some (wordsB (lst s)) := by
  obtain ⟨k, hk⟩ := rwords_go s rwordsL 0 rfl
  rw [rwords_same] at hk
  exact ⟨k, hk⟩
theorem rname_ok (s : ByteArray) (hs : s.size ≤ 140737488351232) : ∃ k, outriderref03_Name.f k s = some (nameB (lst s)) := by
  obtain ⟨k1, h1⟩ := row_ok s hs
  obtain ⟨k2, h2⟩ := rwords_ok s
  have m1 := more_rounds (g := fun k => outriderref03_row.f k s) (fun k => outriderref03_row.mono _ k) k1 k2 _ h1
  have m2 := more_rounds (g := fun k => outriderref03_Words.f k s) (fun k => outriderref03_Words.mono _ k) k2 k1 _ h2
  rw [Nat.add_comm k2 k1] at m2
  have hlen := lst_len s
  refine ⟨k1 + k2, ?_⟩
  unfold outriderref03_Name.f
  rw [m1, m2]
  simp only [Option.bind_some]
  cases hl : lst s with
  | nil => by_cases c : (s.size : Int) ≤ 12 <;> simp [c, rowB, nameB]
  | cons c l =>
    rw [hl] at hlen
    have hnb : nameB (c :: l) = (decide ((c :: l).length ≤ 12) && (letB c && (!wordsB (c :: l) && l.all anB))) := rfl
    have hr : rowB (c :: l) = (letB c && l.all anB) := rfl
    rw [hnb, hr]
    by_cases q : (s.size : Int) ≤ 12
    · rw [if_pos q, decide_eq_true (show (c :: l).length ≤ 12 by omega)]
      cases letB c <;> cases l.all anB <;> cases wordsB (c :: l) <;> rfl
    · rw [if_neg q, decide_eq_false (show ¬ (c :: l).length ≤ 12 by omega)]
      rfl
end Go.Proofs.Ytobkdmmnbnpemaa.K
