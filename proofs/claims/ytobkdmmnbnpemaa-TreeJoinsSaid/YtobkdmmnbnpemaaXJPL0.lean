/- Bytes, names and words: plain lists (moved from the chapter 03's texts). -/
import Derived.Test.YtobkdmmnbnpemaaXJK2
namespace Go.Proofs.Ytobkdmmnbnpemaa.K
open Go.RowKit Go.Proofs.YtobkdmmnbnpemaaW.PrintWords Go.Proofs.YtobkdmmnbnpemaaW.PrintLast Go.Proofs.YtobkdmmnbnpemaaW.PrintMore
set_option linter.unusedVariables false
set_option linter.unusedSimpArgs false
def isDig (c : Int) : Bool := decide (48 ≤ c) && decide (c ≤ 57)
def isLet (c : Int) : Bool := (decide (97 ≤ c) && decide (c ≤ 122)) || (decide (65 ≤ c) && decide (c ≤ 90)) || c == 95
def isAn (c : Int) : Bool := isLet c || isDig c
theorem digit_f (c : Int) : lex_digit.f c = some (isDig c) := by
  unfold lex_digit.f isDig; by_cases h : c ≥ 48
  · rw [if_pos h, decide_eq_true (show 48 ≤ c from h)]; rfl
  · rw [if_neg h, decide_eq_false (show ¬ 48 ≤ c from h)]; rfl
theorem letter_f (c : Int) : lex_letter.f c = some (isLet c) := by
  unfold lex_letter.f isLet; by_cases h : c ≥ 97
  · rw [if_pos h, decide_eq_true (show 97 ≤ c from h)]
    by_cases h2 : c ≤ 122
    · rw [if_pos h2, decide_eq_true h2]; rfl
    · rw [if_neg h2, decide_eq_false h2]
      by_cases h3 : c ≥ 65
      · rw [if_pos h3, decide_eq_true (show 65 ≤ c from h3), if_neg (by omega), decide_eq_false (show ¬ c ≤ 90 by omega)]; rfl
      · omega
  · rw [if_neg h, decide_eq_false (show ¬ 97 ≤ c from h)]
    by_cases h3 : c ≥ 65
    · rw [if_pos h3, decide_eq_true (show 65 ≤ c from h3)]
      by_cases h4 : c ≤ 90
      · rw [if_pos h4, decide_eq_true h4]; rfl
      · rw [if_neg h4, decide_eq_false h4]; rfl
    · rw [if_neg h3, decide_eq_false (show ¬ 65 ≤ c from h3)]; rfl
theorem toList_loop (s : ByteArray) : ∀ r i (acc : List UInt8), i + r = s.size → ByteArray.toList.loop s i acc = acc.reverse ++ s.data.toList.drop i
  | 0, i, acc, h => by
    unfold ByteArray.toList.loop; rw [if_neg (by omega)]; have : s.data.toList.length ≤ i := by rw [data_length]; omega
    rw [List.drop_eq_nil_of_le this, List.append_nil]
  | r + 1, i, acc, h => by
    unfold ByteArray.toList.loop; rw [if_pos (by omega), toList_loop s r (i + 1) _ (by omega)]; have hl : i < s.data.toList.length := by rw [data_length]; omega
    have hs : i < s.data.size := by rw [Array.length_toList] at hl; exact hl
    rw [List.drop_eq_getElem_cons hl, List.reverse_cons, List.append_assoc]; have e : s.get! i = s.data.toList[i] := by
      show s.data[i]! = _; rw [getElem!_pos s.data i hs]; simp
    rw [e, List.singleton_append]
theorem toList_eq (s : ByteArray) : s.toList = s.data.toList := by
  unfold ByteArray.toList; rw [toList_loop s s.size 0 [] (by omega)]
  rfl
theorem len_toList (s : ByteArray) : s.toList.length = s.size := by rw [toList_eq, data_length]
def c8 (b : UInt8) : Int := (b.toNat : Int)
def lst (s : ByteArray) : List UInt8 := s.data.toList
theorem lst_len (s : ByteArray) : (lst s).length = s.size := data_length s
theorem bt_get (s : ByteArray) (i : Nat) (h : i < (lst s).length) : bt s (i : Int) = c8 (lst s)[i] := by
  have hs : i < s.size := by rw [← lst_len]; exact h
  unfold bt c8; simp only [Int.toNat_natCast]; rw [dif_pos hs]
  rfl
theorem bt_drop {s : ByteArray} {i : Nat} {c : UInt8} {l : List UInt8} (h : (lst s).drop i = c :: l) : i < s.size ∧ bt s (i : Int) = c8 c ∧ (lst s).drop (i + 1) = l := by
  have hl : i < (lst s).length := by
    by_cases q : i < (lst s).length
    · exact q
    · rw [List.drop_eq_nil_of_le (by omega)] at h; simp at h
  rw [List.drop_eq_getElem_cons hl] at h; injection h with h1 h2; exact ⟨by rw [← lst_len]; exact hl, by rw [bt_get s i hl, h1], h2⟩
theorem drop_nil {s : ByteArray} {i : Nat} (h : (lst s).drop i = []) (hi : i ≤ s.size) : i = s.size := by
  have := congrArg List.length h; rw [List.length_drop, lst_len] at this; simp at this
  omega
theorem wrap64_nat (i : Nat) (h : i ≤ 140737488351232) : wrap64 ((i : Int) + 1) = ((i + 1 : Nat) : Int) := by unfold wrap64; omega
def digB (b : UInt8) : Bool := isDig (c8 b)
def letB (b : UInt8) : Bool := isLet (c8 b)
def anB (b : UInt8) : Bool := isAn (c8 b)
def bs (l : List UInt8) : ByteArray := ⟨l.toArray⟩
theorem bs_lst (s : ByteArray) : bs (lst s) = s := by unfold bs lst; simp
theorem lst_bs (l : List UInt8) : lst (bs l) = l := by unfold bs lst; simp
theorem bs_size (l : List UInt8) : (bs l).size = l.length := by rw [← lst_len, lst_bs]
theorem bs_toList (l : List UInt8) : (bs l).toList = l := by rw [toList_eq]; exact lst_bs l
theorem lst_extract (s : ByteArray) (i j : Nat) : lst (s.extract i j) = ((lst s).drop i).take (j - i) := by
  unfold lst; rw [ByteArray.data_extract]; simp [List.take_drop]
def wordsB (t : List UInt8) : Bool := t == [118, 97, 114] || (t == [105, 102] || (t == [101, 108, 115, 101] || (t == [119, 104, 105, 108, 101] || (t == [101, 109, 105, 116] || (t == [105, 110, 116, 111] || (t == [102, 97, 105, 108] || (t == [115, 116, 111, 112] || (t == [109] || (t == [109, 105, 110] || (t == [109, 97, 120] || false))))))))))
theorem if_or (t a : List UInt8) (b : Bool) : (if t = a then some true else some b) = some (t == a || b) := by
  by_cases h : t = a
  · rw [if_pos h, beq_iff_eq.2 h]; rfl
  · rw [if_neg h, beq_eq_false_iff_ne.2 h]; rfl
theorem words_get (t : List UInt8) : lex_Words.f (bs t) = some (wordsB t) := by
  unfold lex_Words.f wordsB; simp only [bs_toList, if_or]
def nameB (t : List UInt8) : Bool := match t with
  | [] => false
  | c :: l => decide ((c :: l).length ≤ 12) && (letB c && (!wordsB (c :: l) && l.all anB))
end Go.Proofs.Ytobkdmmnbnpemaa.K
