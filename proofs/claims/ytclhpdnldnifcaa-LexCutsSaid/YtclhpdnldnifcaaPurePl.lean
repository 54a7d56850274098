/- LexPlaces: the plain law. -/
import Derived.Test.YtclhpdnldnifcaaPureV
import Derived.Test.YtclhpdnldnifcaaLPlaces
namespace Go.Proofs.Ytclhpdnldnifcaa.K
open Go.RowKit Go.Proofs.YtclhpdnldnifcaaW.PrintWords Go.Proofs.YtclhpdnldnifcaaW.PrintLast Go.Proofs.YtclhpdnldnifcaaW.PrintMore
set_option linter.unusedVariables false

/-- The tokens stand in the text, one behind the other. -/
def Chain (s : ByteArray) : Nat → List (Tok × Nat) → Prop
  | _, [] => True
  | i, (t, len) :: ts => i ≤ s.size - len ∧ len ≤ s.size ∧ ((lst s).drop (s.size - len)).take t.tx.length = t.tx ∧ s.size - len + t.tx.length ≤ s.size ∧ t.kd ≠ 0 ∧ Chain s (s.size - len + t.tx.length) ts
theorem cut_chain (s : ByteArray) : ∀ (k : Nat) (l : List UInt8) (i : Nat), (lst s).drop i = l → i ≤ s.size → Chain s i (cutL k l).1 := by
  intro k
  induction k with
  | zero => intro l i _ _; trivial
  | succ k ih =>
    intro l i hl hi
    have hleft := skip_left s i hi
    rw [hl] at hleft
    have hsl := skipL_len false l
    have hll : l.length = s.size - i := by rw [← hl, List.length_drop, lst_len]
    unfold cutL
    cases hc : skipL false l with
    | nil => trivial
    | cons c m =>
      rw [hc] at hleft hsl
      simp only
      cases ht : tokL c m with
      | error ed => trivial
      | ok t =>
        obtain ⟨t1, t2, t3, t4⟩ := tok_ok c m t ht
        have hd : (lst s).drop (s.size - (c :: m).length + t.tx.length) = (c :: m).drop t.tx.length := by
          rw [← List.drop_drop, hleft]
        refine ⟨by omega, by omega, ?_, by omega, t4, ih _ _ hd (by omega)⟩
        rw [hleft]
        exact t3
theorem rd_mid (pre : List S33) (x : S33) (suf : List S33) (j : Nat) (h : pre.length = j) : rd_T33 (pre ++ x :: suf) (j : Int) = x := by
  unfold rd_T33
  subst h
  simp [List.getD_eq_getElem?_getD]
theorem places_l0 (s : ByteArray) (hs : s.size ≤ 8192) (L : List S33) (hL : L.length ≤ 100000) : ∀ (ts : List (Tok × Nat)) (pre : List S33) (a : Nat), L = pre ++ (ts.map (s33 s.size) ++ [endTok s.size]) → a ≤ s.size → Chain s a ts →
    ∃ k, outriderlaw03_LexPlaces.l0 k s L (a : Int) (pre.length : Int) = some true
  | [], pre, a, h, ha, _ => by
    obtain ⟨ka, hka⟩ := alive_ok
    have hlen : L.length = pre.length + 1 := by rw [h]; simp
    have hrd : rd_T33 L (pre.length : Int) = endTok s.size := by rw [h]; exact rd_mid pre _ [] _ rfl
    have e0 : (endTok s.size).f1.size = 0 := rfl
    have e1 : (endTok s.size).f3 = (s.size : Int) := rfl
    have e2 : (endTok s.size).f0 = 0 := rfl
    have w1 : wrap64 ((s.size : Int) + ((0 : Nat) : Int)) = (s.size : Int) := by unfold wrap64; omega
    have w2 : wrap64 ((pre.length : Int) + 1) = (L.length : Int) := by unfold wrap64; omega
    have hx : (s.extract s.size s.size).toList = (endTok s.size).f1.toList := by
      rw [toList_eq]
      have := lst_extract s s.size s.size
      rw [Nat.sub_self, List.take_zero] at this
      have e : (endTok s.size).f1.toList = [] := bs_toList []
      rw [e]
      exact this
    refine ⟨ka + 1 + 1, ?_⟩
    rw [outriderlaw03_LexPlaces.l0, if_pos (by omega), if_pos (by omega), hrd, e0, e1, e2, w1, w2, if_neg (by omega), if_neg (by omega), if_pos (by omega), if_pos (by omega), if_pos (by omega)]
    simp only [Int.toNat_natCast]
    rw [if_pos hx, if_neg (by simp), outriderlaw03_LexPlaces.l0, if_neg (by omega), if_pos rfl, if_pos (by omega), hka]
    rfl
  | (t, len) :: ts, pre, a, h, ha, hc => by
    obtain ⟨c1, c2, c3, c4, c5, c6⟩ := hc
    have hlen : L.length = pre.length + (ts.length + 2) := by rw [h]; simp
    have hrd : rd_T33 L (pre.length : Int) = s33 s.size (t, len) := by rw [h]; exact rd_mid pre _ _ _ rfl
    have e0 : (s33 s.size (t, len)).f1.size = t.tx.length := bs_size t.tx
    have e1 : (s33 s.size (t, len)).f3 = ((s.size - len : Nat) : Int) := rfl
    have e2 : ((s33 s.size (t, len)).f0 == 0) = false := by rw [beq_eq_false_iff_ne]; exact c5
    have g1 : (pre.length : Int) < (L.length : Int) := by omega
    have g2 : (0 : Int) ≤ (pre.length : Int) := by omega
    have g3 : ¬ ((s.size - len : Nat) : Int) < (a : Int) := by omega
    have g4 : ¬ ((s.size - len + t.tx.length : Nat) : Int) > (s.size : Int) := by omega
    have g5 : (0 : Int) ≤ ((s.size - len : Nat) : Int) := by omega
    have g6 : ((s.size - len : Nat) : Int) ≤ ((s.size - len + t.tx.length : Nat) : Int) := by omega
    have g7 : ((s.size - len + t.tx.length : Nat) : Int) ≤ (s.size : Int) := by omega
    have w3 : (((pre.length + 1 : Nat) : Int) == (L.length : Int)) = false := by rw [beq_eq_false_iff_ne]; omega
    have w1 : wrap64 (((s.size - len : Nat) : Int) + ((t.tx.length : Nat) : Int)) = ((s.size - len + t.tx.length : Nat) : Int) := by unfold wrap64; omega
    have w2 : wrap64 ((pre.length : Int) + 1) = ((pre.length + 1 : Nat) : Int) := by unfold wrap64; omega
    have hx : (s.extract (s.size - len) (s.size - len + t.tx.length)).toList = (s33 s.size (t, len)).f1.toList := by
      rw [toList_eq]
      have := lst_extract s (s.size - len) (s.size - len + t.tx.length)
      rw [Nat.add_sub_cancel_left, c3] at this
      have e : (s33 s.size (t, len)).f1.toList = t.tx := bs_toList t.tx
      rw [e]
      exact this
    obtain ⟨k, hk⟩ := places_l0 s hs L hL ts (pre ++ [s33 s.size (t, len)]) (s.size - len + t.tx.length) (by rw [h]; simp) c4 c6
    rw [List.length_append, List.length_singleton] at hk
    clear h c3 c5 c6
    generalize s33 s.size (t, len) = X at *
    generalize t.tx.length = tl at *
    refine ⟨k + 1, ?_⟩
    rw [outriderlaw03_LexPlaces.l0, if_pos g1, if_pos g2, hrd, e0, e1, e2, w1, w2, w3, if_neg g3, if_neg g4, if_pos g5, if_pos g6, if_pos g7]
    simp only [Int.toNat_natCast]
    rw [if_pos hx, if_neg (by simp)]
    exact hk
theorem cutL_len (k : Nat) : ∀ l, (cutL k l).1.length ≤ l.length := by
  induction k with
  | zero => intro l; simp [cutL]
  | succ k ih =>
    intro l
    have hsl := skipL_len false l
    unfold cutL
    cases hc : skipL false l with
    | nil => simp
    | cons c m =>
      rw [hc] at hsl
      simp only
      cases ht : tokL c m with
      | error ed => simp
      | ok t =>
        obtain ⟨t1, t2, t3, t4⟩ := tok_ok c m t ht
        have := ih ((c :: m).drop t.tx.length)
        rw [List.length_drop] at this
        simp only [List.length_cons] at *
        omega
theorem cut_err (k : Nat) : ∀ l e p, (cutL k l).2 = some (e, p) → e ≠ 0 := by
  induction k with
  | zero => intro l e p h; simp [cutL] at h
  | succ k ih =>
    intro l e p h
    unfold cutL at h
    cases hc : skipL false l with
    | nil => rw [hc] at h; simp at h
    | cons c m =>
      rw [hc] at h
      simp only at h
      cases ht : tokL c m with
      | error ed =>
        obtain ⟨e', d⟩ := ed
        rw [ht] at h
        simp only [Option.some.injEq, Prod.mk.injEq] at h
        obtain ⟨e1, _⟩ := tok_err c m e' d ht
        rw [← h.1]
        exact e1
      | ok t =>
        rw [ht] at h
        exact ih _ e p h
theorem LexPlaces : outriderlaw03_LexPlaces.Pure := by
  intro s hs
  obtain ⟨ka, hka⟩ := alive_ok
  unfold outriderlaw03_LexPlaces.f
  rw [cut_f]
  simp only [Option.bind_some]
  by_cases c : 8192 < s.size
  · refine ⟨ka, ?_⟩
    have e : cutP s = ([], 0, 30) := by unfold cutP; rw [if_pos c]
    rw [e, if_neg (by decide), if_pos (by rfl), hka]
    rfl
  · cases hq : cutL (s.size + 1) (lst s) with
    | mk ts er =>
      cases er with
      | some ep =>
        obtain ⟨e, p⟩ := ep
        have hcp : cutP s = ([], ((s.size - p : Nat) : Int), e) := by unfold cutP; rw [if_neg c, hq]
        refine ⟨ka, ?_⟩
        rw [hcp]
        by_cases he : e = 0
        · exfalso
          have := cut_err (s.size + 1) (lst s)
          rw [hq] at this
          exact this e p rfl he
        · rw [if_neg he, if_pos (by rfl), hka]
          rfl
      | none =>
        have hcp : cutP s = (ts.map (s33 s.size) ++ [endTok s.size], 0, 0) := by unfold cutP; rw [if_neg c, hq]
        have hch := cut_chain s (s.size + 1) (lst s) 0 rfl (Nat.zero_le _)
        have hlen := cutL_len (s.size + 1) (lst s)
        rw [hq] at hch hlen
        rw [lst_len] at hlen
        obtain ⟨k, hk⟩ := places_l0 s (by omega) (ts.map (s33 s.size) ++ [endTok s.size]) (by simp at *; omega) ts [] 0 rfl (Nat.zero_le _) hch
        refine ⟨k, ?_⟩
        rw [hcp, if_pos rfl]
        exact hk
end Go.Proofs.Ytclhpdnldnifcaa.K
