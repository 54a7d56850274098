/- The cutter on rows of bytes: blanks and remarks, tokens, the whole text. Plain lists. -/
import Derived.Test.YtobkdmmnbnpemaaXJX6
namespace Go.Proofs.Ytobkdmmnbnpemaa.Lx
open Go.RowKit Go.Proofs.YtobkdmmnbnpemaaW.PrintWords Go.Proofs.YtobkdmmnbnpemaaW.PrintLast Go.Proofs.YtobkdmmnbnpemaaW.PrintMore
set_option linter.unusedVariables false
set_option linter.unusedSimpArgs false
def c8 (b : UInt8) : Int := (b.toNat : Int)
def lst (s : ByteArray) : List UInt8 := s.data.toList
theorem lst_len (s : ByteArray) : (lst s).length = s.size := data_length s
theorem bt_get (s : ByteArray) (i : Nat) (h : i < (lst s).length) : bt s (i : Int) = c8 (lst s)[i] := by
  have hs : i < s.size := by rw [← lst_len]; exact h
  unfold bt c8; simp only [Int.toNat_natCast]; rw [dif_pos hs]
  rfl
theorem bt_drop {s : ByteArray} {i : Nat} {c : UInt8} {l : List UInt8} (h : (lst s).drop i = c :: l) : i < s.size ∧ bt s (i : Int) = c8 c ∧ (lst s).drop (i + 1) = l := by
  have hl : i < (lst s).length := by
    by_cases q : i < (lst s).length
    · exact q
    · rw [List.drop_eq_nil_of_le (by omega)] at h; simp at h
  rw [List.drop_eq_getElem_cons hl] at h; injection h with h1 h2; exact ⟨by rw [← lst_len]; exact hl, by rw [bt_get s i hl, h1], h2⟩
theorem drop_nil {s : ByteArray} {i : Nat} (h : (lst s).drop i = []) (hi : i ≤ s.size) : i = s.size := by
  have := congrArg List.length h; rw [List.length_drop, lst_len] at this; simp at this
  omega
def blankB (b : UInt8) : Bool := c8 b == 32 || c8 b == 10 || c8 b == 9 || c8 b == 13
theorem blank_f (b : UInt8) : lex_blank.f (c8 b) = some (blankB b) := by
  unfold lex_blank.f blankB; by_cases h1 : c8 b = 32
  · rw [if_pos h1, beq_iff_eq.2 h1]; rfl
  · rw [if_neg h1, beq_eq_false_iff_ne.2 h1]
    by_cases h2 : c8 b = 10
    · rw [if_pos h2, beq_iff_eq.2 h2]; rfl
    · rw [if_neg h2, beq_eq_false_iff_ne.2 h2]
      by_cases h3 : c8 b = 9
      · rw [if_pos h3, beq_iff_eq.2 h3]; rfl
      · rw [if_neg h3, beq_eq_false_iff_ne.2 h3]; rfl
def skipL : Bool → List UInt8 → List UInt8
  | _, [] => []
  | true, c :: l => if c8 c = 10 then skipL false l else skipL true l
  | false, c :: l => if blankB c = true then skipL false l else if c8 c = 35 then skipL true l else c :: l
theorem skipL_len : ∀ r l, (skipL r l).length ≤ l.length
  | _, [] => by simp [skipL]
  | true, c :: l => by
    unfold skipL; have h1 := skipL_len false l; have h2 := skipL_len true l
    split <;> simp <;> omega
  | false, c :: l => by
    unfold skipL; have h1 := skipL_len false l; have h2 := skipL_len true l
    split
    · simp; omega
    · split
      · simp; omega
      · simp
theorem skipL_drop : ∀ r l, ∃ k, skipL r l = l.drop k ∧ k ≤ l.length
  | _, [] => ⟨0, by simp [skipL]⟩
  | true, c :: l => by
    unfold skipL; obtain ⟨k1, h1, h1'⟩ := skipL_drop false l; obtain ⟨k2, h2, h2'⟩ := skipL_drop true l
    split
    · exact ⟨k1 + 1, by simpa using h1, by simp; omega⟩
    · exact ⟨k2 + 1, by simpa using h2, by simp; omega⟩
  | false, c :: l => by
    unfold skipL; obtain ⟨k1, h1, h1'⟩ := skipL_drop false l; obtain ⟨k2, h2, h2'⟩ := skipL_drop true l
    split
    · exact ⟨k1 + 1, by simpa using h1, by simp; omega⟩
    · split
      · exact ⟨k2 + 1, by simpa using h2, by simp; omega⟩
      · exact ⟨0, by simp, by simp⟩
theorem wrap64_nat (i : Nat) (h : i ≤ 140737488351232) : wrap64 ((i : Int) + 1) = ((i + 1 : Nat) : Int) := by unfold wrap64; omega
theorem skip_both (s : ByteArray) (hs : s.size ≤ 140737488351232) : ∀ (l : List UInt8) (i : Nat), (lst s).drop i = l → i ≤ s.size →
    (∃ k, lex_cutter_skip.l0 k s (i : Int) = some (s, ((s.size - (skipL false l).length : Nat) : Int))) ∧ (∃ k, lex_cutter_skip.l1 k s (i : Int) = some (s, ((s.size - (skipL true l).length : Nat) : Int)))
  | [], i, h, hi => by
    have e := drop_nil h hi; subst e; refine ⟨⟨1, ?_⟩, ⟨2, ?_⟩⟩
    · rw [lex_cutter_skip.l0, if_neg (by omega)]; rfl
    · rw [lex_cutter_skip.l1, if_neg (by omega), lex_cutter_skip.l0, if_neg (by omega)]; rfl
  | c :: l, i, h, hi => by
    obtain ⟨h1, h2, h3⟩ := bt_drop h; obtain ⟨⟨ka, ha⟩, ⟨kb, hb⟩⟩ := skip_both s hs l (i + 1) h3 (by omega); have hw := wrap64_nat i (by omega); have A : ∃ k, lex_cutter_skip.l0 k s (i : Int) = some (s, ((s.size - (skipL false (c :: l)).length : Nat) : Int)) := by
      by_cases q1 : blankB c = true
      · refine ⟨ka + 1, ?_⟩
        rw [lex_cutter_skip.l0, if_pos (by omega), if_pos (by omega), h2, blank_f]; simp only [Option.bind_some]; rw [if_pos q1, hw, ha, skipL, if_pos q1]
      · by_cases q2 : c8 c = 35
        · refine ⟨kb + 1 + 1, ?_⟩
          rw [lex_cutter_skip.l0, if_pos (by omega), if_pos (by omega), h2, blank_f]; simp only [Option.bind_some]; rw [if_neg q1, if_pos q2, lex_cutter_skip.l1, if_pos (by omega), if_pos (by omega), h2, if_neg (by omega), hw, hb, skipL, if_neg q1, if_pos q2]
        · refine ⟨1, ?_⟩
          rw [lex_cutter_skip.l0, if_pos (by omega), if_pos (by omega), h2, blank_f]; simp only [Option.bind_some]; rw [if_neg q1, if_neg q2, skipL, if_neg q1, if_neg q2]; have e : s.size - (c :: l).length = i := by
            have := congrArg List.length h; rw [List.length_drop, lst_len] at this
            omega
          rw [e]
    refine ⟨A, ?_⟩
    by_cases q : c8 c = 10
    · obtain ⟨k, hk⟩ := A
      refine ⟨k + 1, ?_⟩
      rw [lex_cutter_skip.l1, if_pos (by omega), if_pos (by omega), h2, if_pos q, hk]; have hbl : blankB c = true := by unfold blankB; rw [q]; rfl
      rw [skipL, skipL, if_pos hbl, if_pos q]
    · refine ⟨kb + 1, ?_⟩
      rw [lex_cutter_skip.l1, if_pos (by omega), if_pos (by omega), h2, if_neg q, hw, hb, skipL, if_neg q]
theorem skip_R (s : ByteArray) (hs : s.size ≤ 140737488351232) (i : Nat) (hi : i ≤ s.size) : SkipR s (i : Int) ((s.size - (skipL false ((lst s).drop i)).length : Nat) : Int) := by
  obtain ⟨⟨k, hk⟩, _⟩ := skip_both s hs _ i rfl hi; exact ⟨k, hk⟩
theorem skip_left (s : ByteArray) (i : Nat) (hi : i ≤ s.size) : (lst s).drop (s.size - (skipL false ((lst s).drop i)).length) = skipL false ((lst s).drop i) := by
  obtain ⟨k, h1, h2⟩ := skipL_drop false ((lst s).drop i); have hl : ((lst s).drop i).length = s.size - i := by rw [List.length_drop, lst_len]
  rw [h1, List.length_drop, hl, List.drop_drop]; rw [hl] at h2
  congr 1
  omega
def digB (b : UInt8) : Bool := isDig (c8 b)
def letB (b : UInt8) : Bool := isLet (c8 b)
def anB (b : UInt8) : Bool := isAn (c8 b)
theorem upto_take (p : Int → Bool) (s : ByteArray) : ∀ (l : List UInt8) (i : Nat), (lst s).drop i = l → i ≤ s.size → upto p s i = i + (l.takeWhile (fun b => p (c8 b))).length
  | [], i, h, hi => by
    have e := drop_nil h hi; rw [upto_out p s i (fun q => by omega)]
    simp
  | c :: l, i, h, hi => by
    obtain ⟨h1, h2, h3⟩ := bt_drop h; by_cases q : p (c8 c) = true
    · rw [upto_in p s i h1 (by rw [h2]; exact q), upto_take p s l (i + 1) h3 (by omega)]
      simp [List.takeWhile_cons, q]
      omega
    · rw [upto_out p s i (fun _ => by rw [h2]; simpa using q)]
      simp [List.takeWhile_cons, q]
def bs (l : List UInt8) : ByteArray := ⟨l.toArray⟩
theorem bs_lst (s : ByteArray) : bs (lst s) = s := by unfold bs lst; simp
theorem lst_bs (l : List UInt8) : lst (bs l) = l := by unfold bs lst; simp
theorem bs_size (l : List UInt8) : (bs l).size = l.length := by rw [← lst_len, lst_bs]
theorem bs_toList (l : List UInt8) : (bs l).toList = l := by rw [toList_eq]; exact lst_bs l
theorem lst_extract (s : ByteArray) (i j : Nat) : lst (s.extract i j) = ((lst s).drop i).take (j - i) := by
  unfold lst; rw [ByteArray.data_extract]; simp [List.take_drop]
structure Tok where
  kd : Int
  tx : List UInt8
  nm : Int
def signsL : List (List UInt8) := [[61, 61], [33, 61], [60, 61], [62, 61], [60, 60], [62, 62], [61], [60], [62], [43], [45], [42], [47], [37], [38], [124], [94], [126], [33], [40], [41], [91], [93], [123], [125], [59], [44]]
def findSign : List (List UInt8) → List UInt8 → Option (List UInt8)
  | [], _ => none
  | w :: ws, l => if w.isPrefixOf l = true then some w else findSign ws l
def wordsB (t : List UInt8) : Bool := t == [118, 97, 114] || (t == [105, 102] || (t == [101, 108, 115, 101] || (t == [119, 104, 105, 108, 101] || (t == [101, 109, 105, 116] || (t == [105, 110, 116, 111] || (t == [102, 97, 105, 108] || (t == [115, 116, 111, 112] || (t == [109] || (t == [109, 105, 110] || (t == [109, 97, 120] || false))))))))))
theorem if_or (t a : List UInt8) (b : Bool) : (if t = a then some true else some b) = some (t == a || b) := by
  by_cases h : t = a
  · rw [if_pos h, beq_iff_eq.2 h]; rfl
  · rw [if_neg h, beq_eq_false_iff_ne.2 h]; rfl
def tokL (c : UInt8) (l : List UInt8) : Except (Int × Nat) Tok :=
  if digB c = true then
    if (parseP (bs ((c :: l).takeWhile digB))).2 ≠ 0 then .error (33, 0)
    else match (c :: l).dropWhile digB with
      | d :: _ => if letB d = true then .error (31, ((c :: l).takeWhile digB).length) else .ok ⟨1, (c :: l).takeWhile digB, (parseP (bs ((c :: l).takeWhile digB))).1⟩
      | [] => .ok ⟨1, (c :: l).takeWhile digB, (parseP (bs ((c :: l).takeWhile digB))).1⟩
  else if letB c = true then
    if wordsB ((c :: l).takeWhile anB) = true then .ok ⟨3, (c :: l).takeWhile anB, 0⟩
    else if 12 < ((c :: l).takeWhile anB).length then .error (32, 0) else .ok ⟨2, (c :: l).takeWhile anB, 0⟩
  else match findSign signsL (c :: l) with
    | some w => .ok ⟨4, w, 0⟩
    | none => .error (31, 0)
theorem take_prefix {α : Type} (p : α → Bool) (l : List α) : l = l.takeWhile p ++ l.dropWhile p := (List.takeWhile_append_dropWhile).symm
theorem drop_while_len (p : UInt8 → Bool) (l : List UInt8) : l.drop (l.takeWhile p).length = l.dropWhile p := by
  have h := take_prefix p l; have : l.drop (l.takeWhile p).length = (l.takeWhile p ++ l.dropWhile p).drop (l.takeWhile p).length := by rw [← h]
  rw [this, List.drop_left]
theorem take_while_len (p : UInt8 → Bool) (l : List UInt8) : l.take (l.takeWhile p).length = l.takeWhile p := by
  have h := take_prefix p l; have : l.take (l.takeWhile p).length = (l.takeWhile p ++ l.dropWhile p).take (l.takeWhile p).length := by rw [← h]
  rw [this, List.take_left]
theorem piece (p : Int → Bool) (s : ByteArray) (i : Nat) (l : List UInt8) (h : (lst s).drop i = l) (hi : i ≤ s.size) : s.extract i (upto p s i) = bs (l.takeWhile (fun b => p (c8 b))) := by
  have hu := upto_take p s l i h hi; have h1 : lst (s.extract i (upto p s i)) = l.takeWhile (fun b => p (c8 b)) := by
    rw [lst_extract, h, hu, Nat.add_sub_cancel_left]; exact take_while_len _ l
  rw [← h1, bs_lst]
theorem words_get (t : List UInt8) : lex_Words.f (bs t) = some (wordsB t) := by
  unfold lex_Words.f wordsB; simp only [bs_toList, if_or]
def tokR (s : ByteArray) (i : Nat) (c : UInt8) (l : List UInt8) (r : Except (Int × Nat) Tok) : Prop :=
  match r with
  | .ok t => NextR s (i : Int) (t.kd, bs t.tx, t.nm, (i : Int), 0, ((i + t.tx.length : Nat) : Int))
  | .error (e, d) => ∃ kd tx nm p, NextR s (i : Int) (kd, tx, nm, ((i + d : Nat) : Int), e, p)
theorem next_num (s : ByteArray) (hs : s.size ≤ 140737488351232) (i : Nat) (c : UInt8) (l : List UInt8) (h : (lst s).drop i = c :: l) (hd : digB c = true) : tokR s i c l (tokL c l) := by
  obtain ⟨h1, h2, h3⟩ := bt_drop h; have hu := upto_take isDig s (c :: l) i h (by omega); have hp := piece isDig s i (c :: l) h (by omega); have hul := upto_le isDig s i (by omega); have hd' : isDig (c8 c) = true := hd; have hN : ∀ k, lex_cutter_next.f k s (i : Int) = some (numF s i 0 (i : Int)) := by
    intro k; unfold lex_cutter_next.f; rw [if_neg (by omega), if_pos (by omega), if_pos (by omega), h2, digit_f, hd']; simp only [Option.bind_some, if_true]; unfold lex_cutter_number.f; rw [if_pos ⟨by omega, by omega, hs, by rw [h2]; exact hd'⟩, Int.toNat_natCast]
    rfl
  have hdw : (lst s).drop (upto isDig s i) = (c :: l).dropWhile digB := by
    rw [hu, ← List.drop_drop, h]; exact drop_while_len digB (c :: l)
  have hpp : s.extract i (upto isDig s i) = bs ((c :: l).takeWhile digB) := hp; have huu : upto isDig s i = i + ((c :: l).takeWhile digB).length := hu; unfold numF at hN; rw [hpp] at hN; unfold tokL; rw [if_pos hd]; by_cases q : (parseP (bs ((c :: l).takeWhile digB))).2 ≠ 0
  · rw [if_pos q]
    simp only [if_pos q] at hN; exact ⟨_, _, _, _, 0, hN 0⟩
  · rw [if_neg q]
    simp only [if_neg q] at hN; cases hr : (c :: l).dropWhile digB with
    | nil =>
      rw [hr] at hdw; have he := drop_nil hdw hul.2; have hc : ¬ (upto isDig s i < s.size ∧ isLet (bt s ((upto isDig s i : Nat) : Int)) = true) := fun x => by omega
      simp only [if_neg hc] at hN; simp only [tokR]; rw [← huu]; exact ⟨0, hN 0⟩
    | cons d ds =>
      rw [hr] at hdw; obtain ⟨g1, g2, g3⟩ := bt_drop hdw; simp only; by_cases ql : letB d = true
      · have hc : upto isDig s i < s.size ∧ isLet (bt s ((upto isDig s i : Nat) : Int)) = true := ⟨g1, by rw [g2]; exact ql⟩
        simp only [if_pos hc] at hN; rw [if_pos ql]; simp only [tokR]; rw [← huu]; exact ⟨_, _, _, _, 0, hN 0⟩
      · have hc : ¬ (upto isDig s i < s.size ∧ isLet (bt s ((upto isDig s i : Nat) : Int)) = true) := fun x => ql (by have := x.2; rw [g2] at this; exact this)
        simp only [if_neg hc] at hN; rw [if_neg ql]; simp only [tokR]; rw [← huu]; exact ⟨0, hN 0⟩
theorem next_word (s : ByteArray) (hs : s.size ≤ 140737488351232) (i : Nat) (c : UInt8) (l : List UInt8) (h : (lst s).drop i = c :: l) (hd : digB c = false) (hl : letB c = true) : tokR s i c l (tokL c l) := by
  obtain ⟨h1, h2, h3⟩ := bt_drop h; have hu := upto_take isAn s (c :: l) i h (by omega); have hp := piece isAn s i (c :: l) h (by omega); have hd' : isDig (c8 c) = false := hd; have hl' : isLet (c8 c) = true := hl; have hN : ∀ k, lex_cutter_next.f k s (i : Int) = some (wordF s i 0 (i : Int)) := by
    intro k; unfold lex_cutter_next.f; rw [if_neg (by omega), if_pos (by omega), if_pos (by omega), h2, digit_f, hd', letter_f, hl']; simp only [Option.bind_some, if_true, Bool.false_eq_true, if_false]; unfold lex_cutter_word.f; rw [if_pos ⟨by omega, by omega, hs⟩, Int.toNat_natCast]
    rfl
  have hpp : s.extract i (upto isAn s i) = bs ((c :: l).takeWhile anB) := hp; have huu : upto isAn s i = i + ((c :: l).takeWhile anB).length := hu; unfold wordF at hN; rw [hpp, words_get, bs_size] at hN; unfold tokL; rw [if_neg (by rw [hd]; simp), if_pos hl]; by_cases q : wordsB ((c :: l).takeWhile anB) = true
  · rw [if_pos q]
    rw [q] at hN; simp only [if_true] at hN; simp only [tokR]; rw [← huu]; exact ⟨0, hN 0⟩
  · rw [if_neg q]
    have q' : wordsB ((c :: l).takeWhile anB) = false := by simpa using q
    rw [q'] at hN; simp only [Option.some.injEq, Bool.false_eq_true, if_false] at hN; by_cases q2 : 12 < ((c :: l).takeWhile anB).length
    · rw [if_pos q2]
      simp only [if_pos q2] at hN; exact ⟨_, _, _, _, 0, hN 0⟩
    · rw [if_neg q2]
      simp only [if_neg q2] at hN; simp only [tokR]; rw [← huu]; exact ⟨0, hN 0⟩
theorem prefix_take (w l : List UInt8) : w.isPrefixOf l = true ↔ w.length ≤ l.length ∧ l.take w.length = w := by
  rw [List.isPrefixOf_iff_prefix]
  constructor
  · rintro ⟨t, rfl⟩
    exact ⟨by simp, by simp⟩
  · rintro ⟨h1, h2⟩
    exact ⟨l.drop w.length, by conv => { lhs; lhs; rw [← h2] }; exact List.take_append_drop _ _⟩
def signFull : List ByteArray := signsL.map bs
theorem signs_f : lex_signs.f = some signFull := by rfl
theorem sign_rd (j : Nat) (w : List UInt8) (ws : List (List UInt8)) (h : signsL.drop j = w :: ws) : j < signFull.length ∧ rdOf ByteArray.empty signFull (j : Int) = bs w ∧ signsL.drop (j + 1) = ws := by
  have hl : j < signsL.length := by
    by_cases q : j < signsL.length
    · exact q
    · rw [List.drop_eq_nil_of_le (by omega)] at h; simp at h
  rw [List.drop_eq_getElem_cons hl] at h; injection h with h1 h2; have hl2 : j < signFull.length := by unfold signFull; rw [List.length_map]; exact hl
  refine ⟨hl2, ?_, h2⟩
  have hl3 : j < (signsL.map bs).length := hl2; have hx : (signsL.map bs)[j]'hl3 = bs w := by rw [List.getElem_map, h1]
  unfold rdOf; simp only [Int.toNat_natCast]; rw [List.getD_eq_getElem?_getD, List.getElem?_eq_getElem hl2]; exact hx
theorem sign_small : ∀ w ∈ signsL, w.length ≤ 2 := by decide
theorem next_loop (s : ByteArray) (hs : s.size ≤ 140737488351232) (i : Nat) (l : List UInt8) (hi : i ≤ s.size) (h : (lst s).drop i = l) : ∀ (ws : List (List UInt8)) (j : Nat), signsL.drop j = ws → (∀ w ∈ ws, w.length ≤ 2) → j ≤ 27 → ∃ k, lex_cutter_next.l0 k signFull (signFull.length : Int) (j : Int) s (i : Int) 0 (⟨#[]⟩ : ByteArray) 0 (i : Int) =
    (match findSign ws l with
      | some w => some (4, bs w, 0, (i : Int), 0, s, ((i + w.length : Nat) : Int))
      | none => some (0, ⟨#[]⟩, 0, (i : Int), 31, s, (i : Int)))
  | [], j, hj, _, _ => by
    refine ⟨1, ?_⟩
    have hl : signsL.length ≤ j := by
      have := congrArg List.length hj; rw [List.length_drop] at this; simp at this
      omega
    have hl2 : ¬ (j : Int) < (signFull.length : Int) := by unfold signFull; rw [List.length_map]; omega
    rw [lex_cutter_next.l0, if_neg hl2]
    rfl
  | w :: ws, j, hj, hw, hj27 => by
    obtain ⟨g1, g2, g3⟩ := sign_rd j w ws hj; have hw2 : w.length ≤ 2 := hw w (by simp); have hj27' : j + 1 ≤ 27 := by
      have h27 : signFull.length = 27 := by rfl
      omega
    obtain ⟨k, hk⟩ := next_loop s hs i l hi h ws (j + 1) g3 (fun x hx => hw x (by simp [hx])) hj27'; have hll : l.length = s.size - i := by rw [← h, List.length_drop, lst_len]
    have e1 : wrap64 ((s.size : Int) - (i : Int)) = ((s.size - i : Nat) : Int) := by unfold wrap64; omega
    have e2 : wrap64 ((i : Int) + ((w.length : Nat) : Int)) = ((i + w.length : Nat) : Int) := by unfold wrap64; omega
    have e3 : wrap64 ((j : Int) + 1) = ((j + 1 : Nat) : Int) := by unfold wrap64; omega
    refine ⟨k + 1, ?_⟩
    rw [lex_cutter_next.l0, if_pos (by omega), if_pos (by omega), if_pos (by omega), g2, bs_size, e1, e2, e3]; unfold findSign; by_cases c1 : ((w.length : Nat) : Int) ≤ ((s.size - i : Nat) : Int)
    · rw [if_pos c1, if_pos (by omega), if_pos (by omega), if_pos (by omega)]
      have hx : (s.extract i (i + w.length)).toList = l.take w.length := by
        rw [toList_eq]; have := lst_extract s i (i + w.length); rw [h, Nat.add_sub_cancel_left] at this; exact this
      simp only [Int.toNat_natCast, hx, bs_toList]; by_cases c2 : l.take w.length = w
      · rw [if_pos c2, if_pos ((prefix_take w l).2 ⟨by omega, c2⟩)]
      · rw [if_neg c2, if_neg (fun q => c2 ((prefix_take w l).1 q).2)]
        exact hk
    · rw [if_neg c1, if_neg (fun q => by have := ((prefix_take w l).1 q).1; omega)]
      exact hk
theorem next_sign (s : ByteArray) (hs : s.size ≤ 140737488351232) (i : Nat) (c : UInt8) (l : List UInt8) (h : (lst s).drop i = c :: l) (hd : digB c = false) (hl : letB c = false) : tokR s i c l (tokL c l) := by
  obtain ⟨h1, h2, h3⟩ := bt_drop h; have hd' : isDig (c8 c) = false := hd; have hl' : isLet (c8 c) = false := hl; obtain ⟨k, hk⟩ := next_loop s hs i (c :: l) (by omega) h signsL 0 rfl sign_small (by omega); have hN : lex_cutter_next.f k s (i : Int) = (match findSign signsL (c :: l) with
      | some w => some (4, bs w, 0, (i : Int), 0, s, ((i + w.length : Nat) : Int))
      | none => some (0, ⟨#[]⟩, 0, (i : Int), 31, s, (i : Int))) := by
    unfold lex_cutter_next.f; rw [if_neg (by omega), if_pos (by omega), if_pos (by omega), h2, digit_f, hd', letter_f, hl', signs_f]; simp only [Option.bind_some, Bool.false_eq_true, if_false]; exact hk
  unfold tokL; rw [if_neg (by rw [hd]; simp), if_neg (by rw [hl]; simp)]; cases hf : findSign signsL (c :: l) with
  | none =>
    rw [hf] at hN; simp only; exact ⟨_, _, _, _, k, hN⟩
  | some w =>
    rw [hf] at hN; simp only; exact ⟨k, hN⟩
theorem next_tok (s : ByteArray) (hs : s.size ≤ 140737488351232) (i : Nat) (c : UInt8) (l : List UInt8) (h : (lst s).drop i = c :: l) : tokR s i c l (tokL c l) := by
  cases hd : digB c with
  | true => exact next_num s hs i c l h hd
  | false =>
    cases hl : letB c with
    | true => exact next_word s hs i c l h hd hl
    | false => exact next_sign s hs i c l h hd hl
theorem next_end (s : ByteArray) : NextR s (s.size : Int) (0, ⟨#[]⟩, 0, (s.size : Int), 0, (s.size : Int)) := by
  refine ⟨0, ?_⟩
  unfold lex_cutter_next.f; rw [if_pos rfl]
theorem take_pos (p : UInt8 → Bool) (c : UInt8) (l : List UInt8) (h : p c = true) : 1 ≤ ((c :: l).takeWhile p).length := by
  rw [List.takeWhile_cons, if_pos h]; simp
theorem find_prefix : ∀ (ws : List (List UInt8)) (l w : List UInt8), findSign ws l = some w → w ∈ ws ∧ w.isPrefixOf l = true
  | [], l, w, h => by simp [findSign] at h
  | v :: ws, l, w, h => by
    unfold findSign at h; by_cases c : v.isPrefixOf l = true
    · rw [if_pos c] at h
      injection h with h; subst h; exact ⟨by simp, c⟩
    · rw [if_neg c] at h
      obtain ⟨h1, h2⟩ := find_prefix ws l w h; exact ⟨by simp [h1], h2⟩
theorem sign_pos : ∀ w ∈ signsL, 1 ≤ w.length := by decide
theorem tok_ok (c : UInt8) (l : List UInt8) (t : Tok) (h : tokL c l = .ok t) : 1 ≤ t.tx.length ∧ t.tx.length ≤ (c :: l).length ∧ (c :: l).take t.tx.length = t.tx ∧ t.kd ≠ 0 := by
  have tw : ∀ p : UInt8 → Bool, p c = true → 1 ≤ ((c :: l).takeWhile p).length ∧ ((c :: l).takeWhile p).length ≤ (c :: l).length ∧ (c :: l).take ((c :: l).takeWhile p).length = (c :: l).takeWhile p := fun p hp =>
    ⟨take_pos p c l hp, (List.takeWhile_prefix p).length_le, take_while_len p (c :: l)⟩
  unfold tokL at h; by_cases hd : digB c = true
  · rw [if_pos hd] at h
    by_cases q : (parseP (bs ((c :: l).takeWhile digB))).2 ≠ 0
    · rw [if_pos q] at h; simp at h
    · rw [if_neg q] at h
      obtain ⟨a1, a2, a3⟩ := tw digB hd; cases hr : (c :: l).dropWhile digB with
      | nil =>
        rw [hr] at h; simp only at h; injection h with h; subst h; exact ⟨a1, a2, a3, by simp⟩
      | cons d ds =>
        rw [hr] at h; simp only at h; by_cases ql : letB d = true
        · rw [if_pos ql] at h; simp at h
        · rw [if_neg ql] at h
          injection h with h; subst h; exact ⟨a1, a2, a3, by simp⟩
  · rw [if_neg hd] at h
    by_cases hl : letB c = true
    · rw [if_pos hl] at h
      have ha : anB c = true := by unfold anB isAn; have : isLet (c8 c) = true := hl; rw [this]; rfl
      obtain ⟨a1, a2, a3⟩ := tw anB ha; by_cases q : wordsB ((c :: l).takeWhile anB) = true
      · rw [if_pos q] at h
        injection h with h; subst h; exact ⟨a1, a2, a3, by simp⟩
      · rw [if_neg q] at h
        by_cases q2 : 12 < ((c :: l).takeWhile anB).length
        · rw [if_pos q2] at h; simp at h
        · rw [if_neg q2] at h
          injection h with h; subst h; exact ⟨a1, a2, a3, by simp⟩
    · rw [if_neg hl] at h
      cases hf : findSign signsL (c :: l) with
      | none => rw [hf] at h; simp at h
      | some w =>
        rw [hf] at h; simp only at h; injection h with h; subst h; obtain ⟨m1, m2⟩ := find_prefix _ _ _ hf; obtain ⟨p1, p2⟩ := (prefix_take w (c :: l)).1 m2; exact ⟨sign_pos w m1, p1, p2, by simp⟩
def cutL : Nat → List UInt8 → List (Tok × Nat) × (Option (Int × Nat))
  | 0, _ => ([], none)
  | k + 1, l =>
    match skipL false l with
    | [] => ([], none)
    | c :: m =>
      match tokL c m with
      | .error (e, d) => ([], some (e, (c :: m).length - d))
      | .ok t => ((t, (c :: m).length) :: (cutL k ((c :: m).drop t.tx.length)).1, (cutL k ((c :: m).drop t.tx.length)).2)
def s33 (n : Nat) (x : Tok × Nat) : S33 := ⟨x.1.kd, bs x.1.tx, x.1.nm, ((n - x.2 : Nat) : Int)⟩
def endTok (n : Nat) : S33 := ⟨0, ⟨#[]⟩, 0, (n : Int)⟩
def cutP (s : ByteArray) : List S33 × Int × Int :=
  if 8192 < s.size then ([], 0, 30) else
  match cutL (s.size + 1) (lst s) with
  | (ts, none) => (ts.map (s33 s.size) ++ [endTok s.size], 0, 0)
  | (_, some (e, p)) => ([], ((s.size - p : Nat) : Int), e)
theorem tok_err (c : UInt8) (l : List UInt8) (e : Int) (d : Nat) (h : tokL c l = .error (e, d)) : e ≠ 0 ∧ d ≤ (c :: l).length := by
  unfold tokL at h; by_cases hd : digB c = true
  · rw [if_pos hd] at h
    by_cases q : (parseP (bs ((c :: l).takeWhile digB))).2 ≠ 0
    · rw [if_pos q] at h
      injection h with h; injection h with h1 h2; subst h1 h2; exact ⟨by decide, Nat.zero_le _⟩
    · rw [if_neg q] at h
      cases hr : (c :: l).dropWhile digB with
      | nil => rw [hr] at h; simp at h
      | cons x xs =>
        rw [hr] at h; simp only at h; by_cases ql : letB x = true
        · rw [if_pos ql] at h
          injection h with h; injection h with h1 h2; subst h1 h2; exact ⟨by decide, (List.takeWhile_prefix digB).length_le⟩
        · rw [if_neg ql] at h; simp at h
  · rw [if_neg hd] at h
    by_cases hl : letB c = true
    · rw [if_pos hl] at h
      by_cases q : wordsB ((c :: l).takeWhile anB) = true
      · rw [if_pos q] at h; simp at h
      · rw [if_neg q] at h
        by_cases q2 : 12 < ((c :: l).takeWhile anB).length
        · rw [if_pos q2] at h
          injection h with h; injection h with h1 h2; subst h1 h2; exact ⟨by decide, Nat.zero_le _⟩
        · rw [if_neg q2] at h; simp at h
    · rw [if_neg hl] at h
      cases hf : findSign signsL (c :: l) with
      | none =>
        rw [hf] at h; simp only at h; injection h with h; injection h with h1 h2; subst h1 h2; exact ⟨by decide, Nat.zero_le _⟩
      | some w => rw [hf] at h; simp at h
def told (n : Nat) (acc : List S33) (r : List (Tok × Nat) × Option (Int × Nat)) : List S33 × Int × Int :=
  match r with
  | (ts, none) => (acc ++ (ts.map (s33 n) ++ [endTok n]), 0, 0)
  | (_, some (e, p)) => ([], ((n - p : Nat) : Int), e)
theorem cut_link (s : ByteArray) (hs : s.size ≤ 8192) : ∀ (k : Nat) (l : List UInt8) (i : Nat) (acc : List S33), (lst s).drop i = l → i ≤ s.size → l.length < k → acc.length + l.length < 90000 →
    CutRun s k (i : Int) acc (told s.size acc (cutL k l)) := by
  intro k
  induction k with
  | zero => intro l i acc _ _ h _; omega
  | succ k ih =>
    intro l i acc hl hi hk ha; have hsk := skip_R s (by omega) i hi; have hleft := skip_left s i hi; rw [hl] at hsk hleft; have hsl := skipL_len false l; have hll : l.length = s.size - i := by rw [← hl, List.length_drop, lst_len]
    unfold cutL; cases hc : skipL false l with
    | nil =>
      rw [hc] at hsk; simp only [List.length_nil, Nat.sub_zero] at hsk; exact CutRun.fin k _ _ acc 0 _ 0 _ _ hsk (next_end s) (by omega) rfl
    | cons c m =>
      rw [hc] at hsk hleft hsl; have hj : s.size - (c :: m).length ≤ s.size := by omega
      have htok := next_tok s (by omega) _ c m hleft; simp only; cases ht : tokL c m with
      | error ed =>
        obtain ⟨e, d⟩ := ed; rw [ht] at htok; obtain ⟨kd, tx, nm, p, hn⟩ := htok; obtain ⟨e1, e2⟩ := tok_err c m e d ht; have hx : s.size - (c :: m).length + d = s.size - ((c :: m).length - d) := by omega
        rw [hx] at hn; exact CutRun.err k _ _ acc kd tx nm _ e p hsk hn e1
      | ok t =>
        rw [ht] at htok; obtain ⟨t1, t2, t3, t4⟩ := tok_ok c m t ht; have hd : (lst s).drop (s.size - (c :: m).length + t.tx.length) = (c :: m).drop t.tx.length := by
          rw [← List.drop_drop, hleft]
        have hl' : ((c :: m).drop t.tx.length).length = (c :: m).length - t.tx.length := List.length_drop; have hih := ih ((c :: m).drop t.tx.length) _ (acc ++ [⟨t.kd, bs t.tx, t.nm, ((s.size - (c :: m).length : Nat) : Int)⟩]) hd (by omega) (by rw [hl']; omega) (by rw [hl', List.length_append]; simp only [List.length_singleton]; omega); have hst := CutRun.step k (i : Int) _ acc t.kd (bs t.tx) t.nm _ _ _ hsk htok (by omega) t4 hih; simp only; cases hq : cutL k ((c :: m).drop t.tx.length) with
        | mk ts er =>
          rw [hq] at hst; cases er with
          | none =>
            simp only [told, List.append_assoc] at hst; exact hst
          | some ep => exact hst
theorem skip_fun {s : ByteArray} {i j j' : Int} (h : SkipR s i j) (h' : SkipR s i j') : j = j' := by
  obtain ⟨k, hk⟩ := h; obtain ⟨k', hk'⟩ := h'; have m := more_rounds (g := fun k => lex_cutter_skip.f k s i) (fun k => lex_cutter_skip.mono _ _ k); have a := m k k' _ hk; have b := m k' k _ hk'; rw [Nat.add_comm k' k] at b; rw [a] at b
  simpa using b
theorem next_fun {s : ByteArray} {i : Int} {r r' : Int × ByteArray × Int × Int × Int × Int} (h : NextR s i r) (h' : NextR s i r') : r = r' := by
  obtain ⟨k, hk⟩ := h; obtain ⟨k', hk'⟩ := h'; have m := more_rounds (g := fun k => lex_cutter_next.f k s i) (fun k => lex_cutter_next.mono _ _ k); have a := m k k' _ hk; have b := m k' k _ hk'; rw [Nat.add_comm k' k] at b; rw [a] at b; obtain ⟨r1, r2, r3, r4, r5, r6⟩ := r; obtain ⟨q1, q2, q3, q4, q5, q6⟩ := r'
  simpa using b
theorem cut_fun {s : ByteArray} {n : Nat} {i : Int} {acc : List S33} {r : List S33 × Int × Int} (h : CutRun s n i acc r) : ∀ {n' : Nat} {r' : List S33 × Int × Int}, CutRun s n' i acc r' → r = r' := by
  induction h with
  | err n i j acc kd tx nm at_ er p h1 h2 h3 =>
    intro n' r' h'; cases h' with
    | err n i j' acc kd' tx' nm' at_' er' p' g1 g2 g3 =>
      have e := skip_fun h1 g1; subst e; have e := next_fun h2 g2; simp only [Prod.mk.injEq] at e; obtain ⟨_, _, _, rfl, rfl, _⟩ := e
      rfl
    | fin n i j' acc kd' tx' nm' at_' p' g1 g2 g3 g4 =>
      have e := skip_fun h1 g1; subst e; have e := next_fun h2 g2; simp only [Prod.mk.injEq] at e; exact absurd e.2.2.2.2.1 h3
    | step n i j' acc kd' tx' nm' at_' p' r g1 g2 g3 g4 g5 =>
      have e := skip_fun h1 g1; subst e; have e := next_fun h2 g2; simp only [Prod.mk.injEq] at e; exact absurd e.2.2.2.2.1 h3
  | fin n i j acc kd tx nm at_ p h1 h2 h3 h4 =>
    intro n' r' h'; cases h' with
    | err n i j' acc kd' tx' nm' at_' er' p' g1 g2 g3 =>
      have e := skip_fun h1 g1; subst e; have e := next_fun h2 g2; simp only [Prod.mk.injEq] at e; exact absurd e.2.2.2.2.1.symm g3
    | fin n i j' acc kd' tx' nm' at_' p' g1 g2 g3 g4 =>
      have e := skip_fun h1 g1; subst e; have e := next_fun h2 g2; simp only [Prod.mk.injEq] at e; obtain ⟨rfl, rfl, rfl, rfl, _, _⟩ := e
      rfl
    | step n i j' acc kd' tx' nm' at_' p' r g1 g2 g3 g4 g5 =>
      have e := skip_fun h1 g1; subst e; have e := next_fun h2 g2; simp only [Prod.mk.injEq] at e; exact absurd (e.1.symm.trans h4) g4
  | step n i j acc kd tx nm at_ p r h1 h2 h3 h4 h5 ih =>
    intro n' r' h'; cases h' with
    | err n i j' acc kd' tx' nm' at_' er' p' g1 g2 g3 =>
      have e := skip_fun h1 g1; subst e; have e := next_fun h2 g2; simp only [Prod.mk.injEq] at e; exact absurd e.2.2.2.2.1.symm g3
    | fin n i j' acc kd' tx' nm' at_' p' g1 g2 g3 g4 =>
      have e := skip_fun h1 g1; subst e; have e := next_fun h2 g2; simp only [Prod.mk.injEq] at e; exact absurd (e.1.trans g4) h4
    | step n i j' acc kd' tx' nm' at_' p' r g1 g2 g3 g4 g5 =>
      have e := skip_fun h1 g1; subst e; have e := next_fun h2 g2; simp only [Prod.mk.injEq] at e; obtain ⟨rfl, rfl, rfl, rfl, _, rfl⟩ := e; exact ih g5
theorem cut_f (s : ByteArray) : lex_Cut.f s = some (cutP s) := by
  unfold lex_Cut.f cutP; by_cases c : 8192 < s.size
  · rw [if_pos c, if_pos c]
  · rw [if_neg c, if_neg c]
    have hl := cut_link s (by omega) (s.size + 1) (lst s) 0 [] rfl (Nat.zero_le _) (by rw [lst_len]; omega) (by rw [lst_len]; simp; omega); have hex : ∃ r, ∃ n, CutRun s n 0 [] r := ⟨_, _, hl⟩; rw [dif_pos hex]; obtain ⟨n, hn⟩ := hex.choose_spec; rw [cut_fun hn hl]
    rfl
end Go.Proofs.Ytobkdmmnbnpemaa.Lx
