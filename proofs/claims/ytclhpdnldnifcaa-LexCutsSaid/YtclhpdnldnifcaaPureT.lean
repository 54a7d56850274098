/- A text behind another one: the plain law of LexTwo. -/
import Derived.Test.YtclhpdnldnifcaaPurePl
import Derived.Test.YtclhpdnldnifcaaH4
namespace Go.Proofs.Ytclhpdnldnifcaa.K
open Go.RowKit Go.Proofs.YtclhpdnldnifcaaW.PrintWords Go.Proofs.YtclhpdnldnifcaaW.PrintLast Go.Proofs.YtclhpdnldnifcaaW.PrintMore
set_option linter.unusedVariables false

theorem take_app (p : UInt8 → Bool) (h : p 10 = false) (r : List UInt8) : ∀ xs : List UInt8, (xs ++ 10 :: r).takeWhile p = xs.takeWhile p
  | [] => by simp [h]
  | x :: xs => by
    simp only [List.cons_append, List.takeWhile_cons]
    cases p x with
    | true => simp [take_app p h r xs]
    | false => rfl
theorem dropw_app (p : UInt8 → Bool) (h : p 10 = false) (r : List UInt8) : ∀ xs : List UInt8, (xs ++ 10 :: r).dropWhile p = xs.dropWhile p ++ 10 :: r
  | [] => by simp [h]
  | x :: xs => by
    simp only [List.cons_append, List.dropWhile_cons]
    cases p x with
    | true => simp [dropw_app p h r xs]
    | false => rfl
theorem prefix_app (w xs r : List UInt8) (h : ¬ (10 : UInt8) ∈ w) : w.isPrefixOf (xs ++ 10 :: r) = w.isPrefixOf xs := by
  rw [Bool.eq_iff_iff, prefix_take, prefix_take]
  constructor
  · rintro ⟨h1, h2⟩
    by_cases c : w.length ≤ xs.length
    · exact ⟨c, by rw [List.take_append_of_le_length c] at h2; exact h2⟩
    · exfalso
      apply h
      rw [← h2]
      obtain ⟨d, hd⟩ : ∃ d, w.length = xs.length + (d + 1) := ⟨w.length - xs.length - 1, by omega⟩
      rw [hd, List.take_length_add_append]
      simp
  · rintro ⟨h1, h2⟩
    exact ⟨by simp; omega, by rw [List.take_append_of_le_length h1]; exact h2⟩
theorem find_app (xs r : List UInt8) : ∀ ws : List (List UInt8), (∀ w ∈ ws, ¬ (10 : UInt8) ∈ w) → findSign ws (xs ++ 10 :: r) = findSign ws xs
  | [], _ => rfl
  | w :: ws, h => by
    unfold findSign
    rw [prefix_app w xs r (h w (by simp)), find_app xs r ws (fun x hx => h x (by simp [hx]))]
theorem signs_no10 : ∀ w ∈ signsL, ¬ (10 : UInt8) ∈ w := by decide
theorem dig10 : digB 10 = false := by decide
theorem an10 : anB 10 = false := by decide
theorem let10 : letB 10 = false := by decide
theorem tok_app (c : UInt8) (l r : List UInt8) : tokL c (l ++ 10 :: r) = tokL c l := by
  have h1 : (c :: (l ++ 10 :: r)).takeWhile digB = (c :: l).takeWhile digB := take_app digB dig10 r (c :: l)
  have h2 : (c :: (l ++ 10 :: r)).takeWhile anB = (c :: l).takeWhile anB := take_app anB an10 r (c :: l)
  have h3 : (c :: (l ++ 10 :: r)).dropWhile digB = (c :: l).dropWhile digB ++ 10 :: r := dropw_app digB dig10 r (c :: l)
  have h4 : findSign signsL (c :: (l ++ 10 :: r)) = findSign signsL (c :: l) := find_app (c :: l) r signsL signs_no10
  unfold tokL
  rw [h1, h2, h3, h4]
  cases (c :: l).dropWhile digB with
  | nil => simp [let10]
  | cons d ds => rfl
theorem skip_app (r : List UInt8) : ∀ (b : Bool) (l : List UInt8), skipL b (l ++ 10 :: r) = if skipL b l = [] then skipL false r else skipL b l ++ 10 :: r
  | true, [] => by simp [skipL, c8]
  | false, [] => by simp [skipL, blankB, c8]
  | true, c :: l => by
    simp only [List.cons_append]
    rw [skipL, skipL, skip_app r false l, skip_app r true l]
    by_cases h : c8 c = 10
    · simp only [if_pos h]
    · simp only [if_neg h]
  | false, c :: l => by
    simp only [List.cons_append]
    rw [skipL, skipL, skip_app r false l, skip_app r true l]
    by_cases h : blankB c = true
    · simp only [if_pos h]
    · simp only [if_neg h]
      by_cases h2 : c8 c = 35
      · simp only [if_pos h2]
      · simp only [if_neg h2]
        rw [if_neg (by simp)]
        rfl
theorem cutL_fuel : ∀ (k k' : Nat) (l : List UInt8), l.length < k → l.length < k' → cutL k l = cutL k' l := by
  intro k
  induction k with
  | zero => intro k' l h _; omega
  | succ k ih =>
    intro k' l h h'
    obtain ⟨j, rfl⟩ : ∃ j, k' = j + 1 := ⟨k' - 1, by omega⟩
    have hsl := skipL_len false l
    unfold cutL
    cases hc : skipL false l with
    | nil => rfl
    | cons c m =>
      rw [hc] at hsl
      simp only
      cases ht : tokL c m with
      | error ed => rfl
      | ok t =>
        obtain ⟨t1, t2, t3, t4⟩ := tok_ok c m t ht
        have hl' : ((c :: m).drop t.tx.length).length = (c :: m).length - t.tx.length := List.length_drop
        simp only
        rw [ih j ((c :: m).drop t.tx.length) (by rw [hl']; omega) (by rw [hl']; omega)]
theorem cutL_succ (k : Nat) (l : List UInt8) : cutL (k + 1) l =
    match skipL false l with
    | [] => ([], none)
    | c :: m =>
      match tokL c m with
      | .error (e, d) => ([], some (e, (c :: m).length - d))
      | .ok t => ((t, (c :: m).length) :: (cutL k ((c :: m).drop t.tx.length)).1, (cutL k ((c :: m).drop t.tx.length)).2) := rfl
theorem cutP_small (s : ByteArray) (c : ¬ 8192 < s.size) : cutP s =
    match cutL (s.size + 1) (lst s) with
    | (ts, none) => (ts.map (s33 s.size) ++ [endTok s.size], 0, 0)
    | (_, some (e, p)) => ([], ((s.size - p : Nat) : Int), e) := by
  unfold cutP
  rw [if_neg c]
  rfl
def shiftT (d : Nat) (ts : List (Tok × Nat)) : List (Tok × Nat) := ts.map (fun x => (x.1, x.2 + d))
theorem cut_app (r : List UInt8) : ∀ (k : Nat) (l : List UInt8), l.length + 1 + r.length < k → cutL k (l ++ 10 :: r) =
    match cutL k l with
    | (ts, none) => (shiftT (r.length + 1) ts ++ (cutL k r).1, (cutL k r).2)
    | (ts, some (e, p)) => (shiftT (r.length + 1) ts, some (e, p + (r.length + 1))) := by
  intro k
  induction k with
  | zero => intro l h; omega
  | succ k ih =>
    intro l h
    have hsl := skipL_len false l
    have hsk := skip_app r false l
    rw [cutL_succ k (l ++ 10 :: r), cutL_succ k l, hsk]
    cases hc : skipL false l with
    | nil =>
      rw [if_pos rfl]
      simp only [shiftT, List.map_nil, List.nil_append]
      rw [cutL_succ k r]
    | cons c m =>
      rw [hc] at hsl
      rw [if_neg (by simp)]
      simp only [List.cons_append]
      rw [tok_app c m r]
      cases ht : tokL c m with
      | error ed =>
        obtain ⟨e, d⟩ := ed
        obtain ⟨e1, e2⟩ := tok_err c m e d ht
        simp only [shiftT, List.map_nil]
        have : (c :: (m ++ 10 :: r)).length - d = (c :: m).length - d + (r.length + 1) := by
          simp only [List.length_cons, List.length_append] at *
          omega
        rw [this]
      | ok t =>
        obtain ⟨t1, t2, t3, t4⟩ := tok_ok c m t ht
        have hl' : ((c :: m).drop t.tx.length).length = (c :: m).length - t.tx.length := List.length_drop
        have hdr : (c :: (m ++ 10 :: r)).drop t.tx.length = (c :: m).drop t.tx.length ++ 10 :: r := by
          have : c :: (m ++ 10 :: r) = (c :: m) ++ 10 :: r := rfl
          rw [this, List.drop_append_of_le_length t2]
        have hlen : (c :: (m ++ 10 :: r)).length = (c :: m).length + (r.length + 1) := by
          simp only [List.length_cons, List.length_append]
          omega
        have hih := ih ((c :: m).drop t.tx.length) (by rw [hl']; omega)
        simp only
        rw [hdr, hih, hlen, cutL_fuel (k + 1) k r (by omega) (by omega)]
        cases hq : cutL k ((c :: m).drop t.tx.length) with
        | mk ts er =>
          cases er with
          | none => rfl
          | some ep => obtain ⟨e, p⟩ := ep; rfl
theorem cut_pos : ∀ (k : Nat) (l : List UInt8) (e : Int) (p : Nat), (cutL k l).2 = some (e, p) → p ≤ l.length := by
  intro k
  induction k with
  | zero => intro l e p h; simp [cutL] at h
  | succ k ih =>
    intro l e p h
    have hsl := skipL_len false l
    unfold cutL at h
    cases hc : skipL false l with
    | nil => rw [hc] at h; simp at h
    | cons c m =>
      rw [hc] at h hsl
      simp only at h
      cases ht : tokL c m with
      | error ed =>
        obtain ⟨e', d⟩ := ed
        rw [ht] at h
        simp only [Option.some.injEq, Prod.mk.injEq] at h
        omega
      | ok t =>
        rw [ht] at h
        have := ih _ e p h
        rw [List.length_drop] at this
        omega
/-- The tokens' places count no more than the text. -/
theorem cut_lens : ∀ (k : Nat) (l : List UInt8), ∀ x ∈ (cutL k l).1, x.2 ≤ l.length := by
  intro k
  induction k with
  | zero => intro l x h; simp [cutL] at h
  | succ k ih =>
    intro l x h
    have hsl := skipL_len false l
    unfold cutL at h
    cases hc : skipL false l with
    | nil => rw [hc] at h; simp at h
    | cons c m =>
      rw [hc] at h hsl
      simp only at h
      cases ht : tokL c m with
      | error ed => rw [ht] at h; simp at h
      | ok t =>
        rw [ht] at h
        simp only [List.mem_cons] at h
        rcases h with rfl | h
        · exact hsl
        · have := ih _ x h
          rw [List.length_drop] at this
          omega
theorem same_self (pl : Bool) : ∀ l : List S33, sameGo pl l l = true
  | [] => rfl
  | x :: xs => by
    unfold sameGo
    rw [same_self pl xs]
    unfold tokEq
    simp
def loose (x : S33) : Int × List UInt8 × Int := (x.f0, x.f1.toList, x.f2)
theorem same_loose : ∀ l0 l1 : List S33, l0.map loose = l1.map loose → sameGo false l0 l1 = true
  | [], [], _ => rfl
  | x :: xs, y :: ys, h => by
    simp only [List.map_cons, List.cons.injEq, loose, Prod.mk.injEq] at h
    unfold sameGo
    rw [same_loose xs ys h.2]
    unfold tokEq
    simp [h.1.1, h.1.2.1, h.1.2.2]
  | [], y :: ys, h => by simp at h
  | x :: xs, [], h => by simp at h
def two (s t : ByteArray) : ByteArray := s ++ ⟨#[10]⟩ ++ t
theorem two_lst (s t : ByteArray) : lst (two s t) = lst s ++ 10 :: lst t := by
  unfold two lst
  simp
theorem two_size (s t : ByteArray) : (two s t).size = s.size + 1 + t.size := by
  rw [← lst_len, two_lst, List.length_append, List.length_cons, lst_len, lst_len]
  omega
structure TwoOk (s t : ByteArray) (A B C : List S33) : Prop where
  a : cutP s = (A, 0, 0)
  b : cutP t = (B, 0, 0)
  c : cutP (two s t) = (C, 0, 0)
  la : 1 ≤ A.length
  len : C.length + 1 = A.length + B.length
  lim : A.length + B.length ≤ 20000
  same1 : sameGo true (C.take (A.length - 1)) (A.take (A.length - 1)) = true
  same2 : sameGo false (C.drop (A.length - 1)) B = true
inductive Two (s t : ByteArray) : Prop
  | err (i j e : Int) (X : List S33 × Int × Int) : cutP s = ([], i, e) → cutP t = X → cutP (two s t) = ([], j, e) → e ≠ 0 → Two s t
  | err2 (A : List S33) (p : Nat) (f : Int) : cutP s = (A, 0, 0) → cutP t = ([], (p : Int), f) → cutP (two s t) = ([], ((s.size + 1 + p : Nat) : Int), f) → f ≠ 0 → p ≤ 8192 → Two s t
  | ok (A B C : List S33) : TwoOk s t A B C → Two s t
theorem two_all (s t : ByteArray) (h : s.size + 1 + t.size ≤ 8192) : Two s t := by
  have hu := two_size s t
  have cs : ¬ 8192 < s.size := by omega
  have ct : ¬ 8192 < t.size := by omega
  have cu : ¬ 8192 < (two s t).size := by omega
  have happ := cut_app (lst t) ((two s t).size + 1) (lst s) (by rw [lst_len, lst_len]; omega)
  rw [← two_lst, cutL_fuel ((two s t).size + 1) (s.size + 1) (lst s) (by rw [lst_len]; omega) (by rw [lst_len]; omega), cutL_fuel ((two s t).size + 1) (t.size + 1) (lst t) (by rw [lst_len]; omega) (by rw [lst_len]; omega)] at happ
  have es := cutP_small s cs
  have et := cutP_small t ct
  have eu := cutP_small (two s t) cu
  have hls := cut_lens (s.size + 1) (lst s)
  have hlt := cut_lens (t.size + 1) (lst t)
  have hns := cutL_len (s.size + 1) (lst s)
  have hnt := cutL_len (t.size + 1) (lst t)
  cases hs : cutL (s.size + 1) (lst s) with
  | mk ts er =>
    rw [hs] at happ es hls hns
    cases er with
    | some ep =>
      obtain ⟨e, p⟩ := ep
      simp only at happ es
      rw [happ] at eu
      exact Two.err _ _ e _ es rfl eu (cut_err (s.size + 1) (lst s) e p (by rw [hs]))
    | none =>
      cases ht : cutL (t.size + 1) (lst t) with
      | mk us er =>
        rw [ht] at happ et hlt hnt
        cases er with
        | some ep =>
          obtain ⟨f, p⟩ := ep
          simp only at happ es et
          have hp := cut_pos (t.size + 1) (lst t) f p (by rw [ht])
          rw [lst_len] at hp
          rw [happ] at eu
          simp only at eu
          have hx : (two s t).size - p = s.size + 1 + (t.size - p) := by omega
          rw [hx] at eu
          exact Two.err2 _ (t.size - p) f es et eu (cut_err (t.size + 1) (lst t) f p (by rw [ht])) (by omega)
        | none =>
          simp only at happ es et
          rw [happ] at eu
          simp only at eu
          have e1 : (shiftT ((lst t).length + 1) ts).map (s33 (two s t).size) = ts.map (s33 s.size) := by
            unfold shiftT
            rw [List.map_map]
            refine List.map_congr_left (fun x hx => ?_)
            have := hls x hx
            rw [lst_len] at this
            have e2 : (two s t).size - (x.2 + ((lst t).length + 1)) = s.size - x.2 := by rw [lst_len]; omega
            simp only [Function.comp, s33, e2]
          rw [List.map_append, e1, List.append_assoc] at eu
          have hla : (ts.map (s33 s.size) ++ [endTok s.size]).length - 1 = (ts.map (s33 s.size)).length := by simp
          refine Two.ok _ _ _ ⟨es, et, eu, by simp, by simp; omega, ?_, ?_, ?_⟩
          · simp only [List.length_append, List.length_map, List.length_singleton]
            rw [lst_len] at hns hnt
            simp only at hns hnt
            omega
          · rw [hla, List.take_left, List.take_left]
            exact same_self true _
          · rw [hla, List.drop_left]
            refine same_loose _ _ ?_
            simp only [List.map_append, List.map_map, List.map_cons, List.map_nil]
            congr 1
end Go.Proofs.Ytclhpdnldnifcaa.K
