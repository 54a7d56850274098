/- Tokens laid anew behind gaps are cut into the same tokens. Plain lists. -/
import Derived.Test.YtclhpdnldnifcaaPureT
import Derived.Test.YtclhpdnldnifcaaPureV
namespace Go.Proofs.Ytclhpdnldnifcaa.K
open Go.RowKit Go.Proofs.YtclhpdnldnifcaaW.PrintWords Go.Proofs.YtclhpdnldnifcaaW.PrintLast Go.Proofs.YtclhpdnldnifcaaW.PrintMore
set_option linter.unusedVariables false
set_option linter.unusedSimpArgs false

theorem gtake (p : UInt8 → Bool) (d : UInt8) (h : p d = false) (r : List UInt8) : ∀ xs : List UInt8, (xs ++ d :: r).takeWhile p = xs.takeWhile p
  | [] => by simp [h]
  | x :: xs => by
    simp only [List.cons_append, List.takeWhile_cons]
    cases p x with
    | true => simp [gtake p d h r xs]
    | false => rfl
theorem gdropw (p : UInt8 → Bool) (d : UInt8) (h : p d = false) (r : List UInt8) : ∀ xs : List UInt8, (xs ++ d :: r).dropWhile p = xs.dropWhile p ++ d :: r
  | [] => by simp [h]
  | x :: xs => by
    simp only [List.cons_append, List.dropWhile_cons]
    cases p x with
    | true => simp [gdropw p d h r xs]
    | false => rfl
theorem gprefix (d : UInt8) (w xs r : List UInt8) (h : ¬ d ∈ w) : w.isPrefixOf (xs ++ d :: r) = w.isPrefixOf xs := by
  rw [Bool.eq_iff_iff, prefix_take, prefix_take]
  constructor
  · rintro ⟨h1, h2⟩
    by_cases c : w.length ≤ xs.length
    · exact ⟨c, by rw [List.take_append_of_le_length c] at h2; exact h2⟩
    · exfalso
      apply h
      rw [← h2]
      obtain ⟨e, he⟩ : ∃ e, w.length = xs.length + (e + 1) := ⟨w.length - xs.length - 1, by omega⟩
      rw [he, List.take_length_add_append]
      simp
  · rintro ⟨h1, h2⟩
    exact ⟨by simp; omega, by rw [List.take_append_of_le_length h1]; exact h2⟩
theorem gfind (d : UInt8) (xs r : List UInt8) : ∀ ws : List (List UInt8), (∀ w ∈ ws, ¬ d ∈ w) → findSign ws (xs ++ d :: r) = findSign ws xs
  | [], _ => rfl
  | w :: ws, h => by
    unfold findSign
    rw [gprefix d w xs r (h w (by simp)), gfind d xs r ws (fun x hx => h x (by simp [hx]))]
/-- A byte that ends every token. -/
structure StopB (d : UInt8) : Prop where
  dg : digB d = false
  an : anB d = false
  lt : letB d = false
  sg : ∀ w ∈ signsL, ¬ d ∈ w
/-- Nothing, or a byte that ends every token. -/
def StopL (r : List UInt8) : Prop := r = [] ∨ ∃ d m, r = d :: m ∧ StopB d
theorem gtok (c : UInt8) (l r : List UInt8) (h : StopL r) : tokL c (l ++ r) = tokL c l := by
  rcases h with rfl | ⟨d, m, rfl, hd⟩
  · rw [List.append_nil]
  · have h1 : (c :: (l ++ d :: m)).takeWhile digB = (c :: l).takeWhile digB := gtake digB d hd.dg m (c :: l)
    have h2 : (c :: (l ++ d :: m)).takeWhile anB = (c :: l).takeWhile anB := gtake anB d hd.an m (c :: l)
    have h3 : (c :: (l ++ d :: m)).dropWhile digB = (c :: l).dropWhile digB ++ d :: m := gdropw digB d hd.dg m (c :: l)
    have h4 : findSign signsL (c :: (l ++ d :: m)) = findSign signsL (c :: l) := gfind d (c :: l) m signsL hd.sg
    unfold tokL
    rw [h1, h2, h3, h4]
    cases (c :: l).dropWhile digB with
    | nil => simp [hd.lt]
    | cons e es => rfl
theorem tw_idem (p : UInt8 → Bool) : ∀ l : List UInt8, (l.takeWhile p).takeWhile p = l.takeWhile p
  | [] => rfl
  | x :: xs => by
    simp only [List.takeWhile_cons]
    cases h : p x with
    | true => simp [h, tw_idem p xs]
    | false => simp
theorem dw_idem (p : UInt8 → Bool) : ∀ l : List UInt8, (l.takeWhile p).dropWhile p = []
  | [] => rfl
  | x :: xs => by
    simp only [List.takeWhile_cons]
    cases h : p x with
    | true => simp [h, dw_idem p xs]
    | false => simp
theorem sign_self : ∀ w ∈ signsL, findSign signsL w = some w := by decide
theorem let_an (c : UInt8) (h : letB c = true) : anB c = true := by
  unfold letB at h
  unfold anB isAn
  rw [h]
  simp
/-- A token's own text is cut as this token. -/
theorem tok_self (c : UInt8) (m : List UInt8) (t : Tok) (h : tokL c m = .ok t) : ∃ x, t.tx = c :: x ∧ tokL c x = .ok t := by
  unfold tokL at h
  by_cases hd : digB c = true
  · rw [if_pos hd] at h
    by_cases q : (parseP (bs ((c :: m).takeWhile digB))).2 ≠ 0
    · rw [if_pos q] at h; cases h
    · rw [if_neg q] at h
      have ht : t = ⟨1, (c :: m).takeWhile digB, (parseP (bs ((c :: m).takeWhile digB))).1⟩ := by
        cases hr : (c :: m).dropWhile digB with
        | nil => rw [hr] at h; injection h with h; exact h.symm
        | cons d ds =>
          rw [hr] at h
          simp only at h
          by_cases ql : letB d = true
          · rw [if_pos ql] at h; cases h
          · rw [if_neg ql] at h; injection h with h; exact h.symm
      have e : (c :: m).takeWhile digB = c :: m.takeWhile digB := by rw [List.takeWhile_cons, if_pos hd]
      have e1 : (c :: m.takeWhile digB).takeWhile digB = (c :: m).takeWhile digB := by rw [← e]; exact tw_idem digB _
      have e2 : (c :: m.takeWhile digB).dropWhile digB = [] := by rw [← e]; exact dw_idem digB _
      refine ⟨m.takeWhile digB, by rw [ht]; exact e, ?_⟩
      unfold tokL
      rw [if_pos hd, e1, e2, if_neg q, ht]
  · rw [if_neg hd] at h
    by_cases hl : letB c = true
    · rw [if_pos hl] at h
      have e : (c :: m).takeWhile anB = c :: m.takeWhile anB := by rw [List.takeWhile_cons, if_pos (let_an c hl)]
      have e1 : (c :: m.takeWhile anB).takeWhile anB = (c :: m).takeWhile anB := by rw [← e]; exact tw_idem anB _
      refine ⟨m.takeWhile anB, ?_, ?_⟩
      · by_cases q : wordsB ((c :: m).takeWhile anB) = true
        · rw [if_pos q] at h; injection h with h; rw [← h]; exact e
        · rw [if_neg q] at h
          by_cases q2 : 12 < ((c :: m).takeWhile anB).length
          · rw [if_pos q2] at h; cases h
          · rw [if_neg q2] at h; injection h with h; rw [← h]; exact e
      · unfold tokL
        rw [if_neg hd, if_pos hl, e1]
        exact h
    · rw [if_neg hl] at h
      cases hf : findSign signsL (c :: m) with
      | none => rw [hf] at h; cases h
      | some w =>
        rw [hf] at h
        injection h with h
        obtain ⟨h1, h2⟩ := find_prefix _ _ _ hf
        have h3 := sign_pos w h1
        obtain ⟨h4, h5⟩ := (prefix_take w (c :: m)).1 h2
        obtain ⟨n, hn⟩ : ∃ n, w.length = n + 1 := ⟨w.length - 1, by omega⟩
        rw [hn, List.take_succ_cons] at h5
        refine ⟨m.take n, by rw [← h]; exact h5.symm, ?_⟩
        unfold tokL
        rw [if_neg hd, if_neg hl, h5, sign_self w h1, ← h]
theorem skip_head : ∀ (b : Bool) (l : List UInt8) (c : UInt8) (m : List UInt8), skipL b l = c :: m → blankB c = false ∧ c8 c ≠ 35
  | true, [], c, m, h => by simp [skipL] at h
  | false, [], c, m, h => by simp [skipL] at h
  | true, x :: xs, c, m, h => by
    rw [skipL] at h
    by_cases q : c8 x = 10
    · rw [if_pos q] at h; exact skip_head false xs c m h
    · rw [if_neg q] at h; exact skip_head true xs c m h
  | false, x :: xs, c, m, h => by
    rw [skipL] at h
    by_cases q : blankB x = true
    · rw [if_pos q] at h; exact skip_head false xs c m h
    · rw [if_neg q] at h
      by_cases q2 : c8 x = 35
      · rw [if_pos q2] at h; exact skip_head true xs c m h
      · rw [if_neg q2] at h
        injection h with h1 h2
        subst h1
        exact ⟨by simpa using q, q2⟩
/-- A token that is cut again out of its own text. -/
def Good (t : Tok) : Prop := ∃ c x, t.tx = c :: x ∧ tokL c x = .ok t ∧ blankB c = false ∧ c8 c ≠ 35
theorem cut_good : ∀ (k : Nat) (l : List UInt8), ∀ x ∈ (cutL k l).1, Good x.1 ∧ x.1.tx.length ≤ l.length ∧ x.1.kd ≠ 0 := by
  intro k
  induction k with
  | zero => intro l x h; simp [cutL] at h
  | succ k ih =>
    intro l x h
    have hsl := skipL_len false l
    unfold cutL at h
    cases hc : skipL false l with
    | nil => rw [hc] at h; simp at h
    | cons c m =>
      rw [hc] at h hsl
      simp only at h
      cases ht : tokL c m with
      | error ed => rw [ht] at h; simp at h
      | ok t =>
        rw [ht] at h
        simp only [List.mem_cons] at h
        obtain ⟨t1, t2, t3, t4⟩ := tok_ok c m t ht
        rcases h with rfl | h
        · obtain ⟨y, y1, y2⟩ := tok_self c m t ht
          obtain ⟨s1, s2⟩ := skip_head false l c m hc
          exact ⟨⟨c, y, y1, y2, s1, s2⟩, Nat.le_trans t2 hsl, t4⟩
        · obtain ⟨g1, g2, g3⟩ := ih _ x h
          rw [List.length_drop] at g2
          exact ⟨g1, by omega, g3⟩
/-- A row of bytes in which these tokens stand behind gaps. -/
inductive Lay : List Tok → List UInt8 → Prop
  | nil (r : List UInt8) : skipL false r = [] → Lay [] r
  | cons (t : Tok) (ts : List Tok) (g r : List UInt8) : Good t → (∀ X, skipL false (g ++ X) = skipL false X) → StopL r → Lay ts r → Lay (t :: ts) (g ++ (t.tx ++ r))
theorem cut_lay {ts : List Tok} {r : List UInt8} (h : Lay ts r) : ∀ k, r.length < k → (cutL k r).1.map (·.1) = ts ∧ (cutL k r).2 = none := by
  induction h with
  | nil r h =>
    intro k hk
    obtain ⟨j, rfl⟩ : ∃ j, k = j + 1 := ⟨k - 1, by omega⟩
    rw [cutL_succ, h]
    exact ⟨rfl, rfl⟩
  | cons t ts g r hg hs hst hl ih =>
    intro k hk
    obtain ⟨j, rfl⟩ : ∃ j, k = j + 1 := ⟨k - 1, by omega⟩
    obtain ⟨c, x, h1, h2, h3, h4⟩ := hg
    have e1 : skipL false (g ++ (t.tx ++ r)) = c :: (x ++ r) := by
      rw [hs, h1, List.cons_append, skipL, if_neg (by rw [h3]; simp), if_neg h4]
    have e2 : tokL c (x ++ r) = .ok t := by rw [gtok c x r hst]; exact h2
    have e3 : (c :: (x ++ r)).drop t.tx.length = r := by
      have : c :: (x ++ r) = t.tx ++ r := by rw [h1]; rfl
      rw [this, List.drop_left]
    have hlen : r.length < j := by
      simp only [List.length_append] at hk
      have : 1 ≤ t.tx.length := by rw [h1]; simp
      omega
    obtain ⟨i1, i2⟩ := ih j hlen
    rw [cutL_succ, e1]
    simp only [e2, e3]
    exact ⟨by simp [i1], i2⟩
/-- What is cut of such a text, places apart. -/
theorem lay_cut (n : Nat) (ts : List (Tok × Nat)) (u : ByteArray) (h : Lay (ts.map (·.1)) (lst u)) (hu : ¬ 8192 < u.size) : ∃ L, cutP u = (L, 0, 0) ∧ sameGo false L (ts.map (s33 n) ++ [endTok n]) = true := by
  have hc := cut_lay h (u.size + 1) (by rw [lst_len]; omega)
  have e := cutP_small u hu
  cases hq : cutL (u.size + 1) (lst u) with
  | mk us er =>
    rw [hq] at hc e
    obtain ⟨h1, h2⟩ := hc
    simp only at h1 h2
    subst h2
    refine ⟨_, e, same_loose _ _ ?_⟩
    simp only [List.map_append, List.map_map, List.map_cons, List.map_nil]
    have f1 : ∀ (a : Nat) (zs : List (Tok × Nat)), zs.map (loose ∘ s33 a) = (zs.map (·.1)).map (fun t => (t.kd, (bs t.tx).toList, t.nm)) := fun a zs => by rw [List.map_map]; rfl
    rw [f1, f1, h1]
    rfl
end Go.Proofs.Ytclhpdnldnifcaa.K
