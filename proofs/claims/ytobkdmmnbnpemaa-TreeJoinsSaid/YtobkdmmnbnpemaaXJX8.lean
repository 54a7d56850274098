/- Tokens of a text behind another one (out of chapter 03). -/
import Derived.Test.YtobkdmmnbnpemaaXJX7
namespace Go.Proofs.Ytobkdmmnbnpemaa.Lx
open Go.RowKit Go.Proofs.YtobkdmmnbnpemaaW.PrintWords Go.Proofs.YtobkdmmnbnpemaaW.PrintLast Go.Proofs.YtobkdmmnbnpemaaW.PrintMore
set_option linter.unusedVariables false
theorem take_app (p : UInt8 → Bool) (h : p 10 = false) (r : List UInt8) : ∀ xs : List UInt8, (xs ++ 10 :: r).takeWhile p = xs.takeWhile p
  | [] => by simp [h]
  | x :: xs => by
    simp only [List.cons_append, List.takeWhile_cons]; cases p x with
    | true => simp [take_app p h r xs]
    | false => rfl
theorem dropw_app (p : UInt8 → Bool) (h : p 10 = false) (r : List UInt8) : ∀ xs : List UInt8, (xs ++ 10 :: r).dropWhile p = xs.dropWhile p ++ 10 :: r
  | [] => by simp [h]
  | x :: xs => by
    simp only [List.cons_append, List.dropWhile_cons]; cases p x with
    | true => simp [dropw_app p h r xs]
    | false => rfl
theorem prefix_app (w xs r : List UInt8) (h : ¬ (10 : UInt8) ∈ w) : w.isPrefixOf (xs ++ 10 :: r) = w.isPrefixOf xs := by
  rw [Bool.eq_iff_iff, prefix_take, prefix_take]
  constructor
  · rintro ⟨h1, h2⟩
    by_cases c : w.length ≤ xs.length
    · exact ⟨c, by rw [List.take_append_of_le_length c] at h2; exact h2⟩
    · exfalso
      apply h
      rw [← h2]; obtain ⟨d, hd⟩ : ∃ d, w.length = xs.length + (d + 1) := ⟨w.length - xs.length - 1, by omega⟩
      rw [hd, List.take_length_add_append]; simp
  · rintro ⟨h1, h2⟩
    exact ⟨by simp; omega, by rw [List.take_append_of_le_length h1]; exact h2⟩
theorem find_app (xs r : List UInt8) : ∀ ws : List (List UInt8), (∀ w ∈ ws, ¬ (10 : UInt8) ∈ w) → findSign ws (xs ++ 10 :: r) = findSign ws xs
  | [], _ => rfl
  | w :: ws, h => by
    unfold findSign; rw [prefix_app w xs r (h w (by simp)), find_app xs r ws (fun x hx => h x (by simp [hx]))]
theorem signs_no10 : ∀ w ∈ signsL, ¬ (10 : UInt8) ∈ w := by decide
theorem dig10 : digB 10 = false := by decide
theorem an10 : anB 10 = false := by decide
theorem let10 : letB 10 = false := by decide
theorem tok_app (c : UInt8) (l r : List UInt8) : tokL c (l ++ 10 :: r) = tokL c l := by
  have h1 : (c :: (l ++ 10 :: r)).takeWhile digB = (c :: l).takeWhile digB := take_app digB dig10 r (c :: l); have h2 : (c :: (l ++ 10 :: r)).takeWhile anB = (c :: l).takeWhile anB := take_app anB an10 r (c :: l); have h3 : (c :: (l ++ 10 :: r)).dropWhile digB = (c :: l).dropWhile digB ++ 10 :: r := dropw_app digB dig10 r (c :: l); have h4 : findSign signsL (c :: (l ++ 10 :: r)) = findSign signsL (c :: l) := find_app (c :: l) r signsL signs_no10; unfold tokL; rw [h1, h2, h3, h4]; cases (c :: l).dropWhile digB with
  | nil => simp [let10]
  | cons d ds => rfl
theorem skip_app (r : List UInt8) : ∀ (b : Bool) (l : List UInt8), skipL b (l ++ 10 :: r) = if skipL b l = [] then skipL false r else skipL b l ++ 10 :: r
  | true, [] => by simp [skipL, c8]
  | false, [] => by simp [skipL, blankB, c8]
  | true, c :: l => by
    simp only [List.cons_append]; rw [skipL, skipL, skip_app r false l, skip_app r true l]; by_cases h : c8 c = 10
    · simp only [if_pos h]
    · simp only [if_neg h]
  | false, c :: l => by
    simp only [List.cons_append]; rw [skipL, skipL, skip_app r false l, skip_app r true l]; by_cases h : blankB c = true
    · simp only [if_pos h]
    · simp only [if_neg h]
      by_cases h2 : c8 c = 35
      · simp only [if_pos h2]
      · simp only [if_neg h2]
        rw [if_neg (by simp)]
        rfl
theorem cutL_fuel : ∀ (k k' : Nat) (l : List UInt8), l.length < k → l.length < k' → cutL k l = cutL k' l := by
  intro k
  induction k with
  | zero => intro k' l h _; omega
  | succ k ih =>
    intro k' l h h'; obtain ⟨j, rfl⟩ : ∃ j, k' = j + 1 := ⟨k' - 1, by omega⟩
    have hsl := skipL_len false l; unfold cutL; cases hc : skipL false l with
    | nil => rfl
    | cons c m =>
      rw [hc] at hsl; simp only; cases ht : tokL c m with
      | error ed => rfl
      | ok t =>
        obtain ⟨t1, t2, t3, t4⟩ := tok_ok c m t ht; have hl' : ((c :: m).drop t.tx.length).length = (c :: m).length - t.tx.length := List.length_drop; simp only; rw [ih j ((c :: m).drop t.tx.length) (by rw [hl']; omega) (by rw [hl']; omega)]
theorem cutL_succ (k : Nat) (l : List UInt8) : cutL (k + 1) l =
    match skipL false l with
    | [] => ([], none)
    | c :: m =>
      match tokL c m with
      | .error (e, d) => ([], some (e, (c :: m).length - d))
      | .ok t => ((t, (c :: m).length) :: (cutL k ((c :: m).drop t.tx.length)).1, (cutL k ((c :: m).drop t.tx.length)).2) := rfl
theorem cutP_small (s : ByteArray) (c : ¬ 8192 < s.size) : cutP s =
    match cutL (s.size + 1) (lst s) with
    | (ts, none) => (ts.map (s33 s.size) ++ [endTok s.size], 0, 0)
    | (_, some (e, p)) => ([], ((s.size - p : Nat) : Int), e) := by
  unfold cutP; rw [if_neg c]
  rfl
def shiftT (d : Nat) (ts : List (Tok × Nat)) : List (Tok × Nat) := ts.map (fun x => (x.1, x.2 + d))
theorem cut_app (r : List UInt8) : ∀ (k : Nat) (l : List UInt8), l.length + 1 + r.length < k → cutL k (l ++ 10 :: r) =
    match cutL k l with
    | (ts, none) => (shiftT (r.length + 1) ts ++ (cutL k r).1, (cutL k r).2)
    | (ts, some (e, p)) => (shiftT (r.length + 1) ts, some (e, p + (r.length + 1))) := by
  intro k
  induction k with
  | zero => intro l h; omega
  | succ k ih =>
    intro l h; have hsl := skipL_len false l; have hsk := skip_app r false l; rw [cutL_succ k (l ++ 10 :: r), cutL_succ k l, hsk]; cases hc : skipL false l with
    | nil =>
      rw [if_pos rfl]; simp only [shiftT, List.map_nil, List.nil_append]; rw [cutL_succ k r]
    | cons c m =>
      rw [hc] at hsl; rw [if_neg (by simp)]; simp only [List.cons_append]; rw [tok_app c m r]; cases ht : tokL c m with
      | error ed =>
        obtain ⟨e, d⟩ := ed; obtain ⟨e1, e2⟩ := tok_err c m e d ht; simp only [shiftT, List.map_nil]; have : (c :: (m ++ 10 :: r)).length - d = (c :: m).length - d + (r.length + 1) := by
          simp only [List.length_cons, List.length_append] at *
          omega
        rw [this]
      | ok t =>
        obtain ⟨t1, t2, t3, t4⟩ := tok_ok c m t ht; have hl' : ((c :: m).drop t.tx.length).length = (c :: m).length - t.tx.length := List.length_drop; have hdr : (c :: (m ++ 10 :: r)).drop t.tx.length = (c :: m).drop t.tx.length ++ 10 :: r := by
          have : c :: (m ++ 10 :: r) = (c :: m) ++ 10 :: r := rfl; rw [this, List.drop_append_of_le_length t2]
        have hlen : (c :: (m ++ 10 :: r)).length = (c :: m).length + (r.length + 1) := by
          simp only [List.length_cons, List.length_append]
          omega
        have hih := ih ((c :: m).drop t.tx.length) (by rw [hl']; omega); simp only; rw [hdr, hih, hlen, cutL_fuel (k + 1) k r (by omega) (by omega)]; cases hq : cutL k ((c :: m).drop t.tx.length) with
        | mk ts er =>
          cases er with
          | none => rfl
          | some ep => obtain ⟨e, p⟩ := ep; rfl
def two (s t : ByteArray) : ByteArray := s ++ ⟨#[10]⟩ ++ t
theorem two_lst (s t : ByteArray) : lst (two s t) = lst s ++ 10 :: lst t := by
  unfold two lst; simp
theorem two_size (s t : ByteArray) : (two s t).size = s.size + 1 + t.size := by
  rw [← lst_len, two_lst, List.length_append, List.length_cons, lst_len, lst_len]
  omega
end Go.Proofs.Ytobkdmmnbnpemaa.Lx
