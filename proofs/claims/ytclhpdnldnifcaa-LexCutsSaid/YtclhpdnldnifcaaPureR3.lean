/- The reference's longest, told by the head's kind. -/
import Derived.Test.YtclhpdnldnifcaaPureR2
namespace Go.Proofs.Ytclhpdnldnifcaa.K
open Go.RowKit Go.Proofs.YtclhpdnldnifcaaW.PrintWords Go.Proofs.YtclhpdnldnifcaaW.PrintLast Go.Proofs.YtclhpdnldnifcaaW.PrintMore
set_option linter.unusedVariables false

/-- As long as the first ones are good and the next is not (or there is none): that many. -/
theorem long_run (s : ByteArray) (hs : s.size ≤ 8192) (i L : Nat) (hL : 1 ≤ L) (hi : i + L ≤ s.size)
    (hg : ∀ n, 1 ≤ n → n ≤ L → goodB (((lst s).drop i).take n) = true) (hb : i + (L + 1) ≤ s.size → goodB (((lst s).drop i).take (L + 1)) = false) :
    ∀ (d n : Nat) (best : Int), n + d = L → 1 ≤ n → ∃ k, outriderref03_longest.l0 k s (i : Int) best (n : Int) = some (L : Int)
  | 0, n, best, h, h1 => by
    have e : n = L := by omega
    subst e
    refine long_in s hs i n best _ hi (hg n h1 (Nat.le_refl _)) ?_
    by_cases c : i + (n + 1) ≤ s.size
    · exact long_stop s hs i (n + 1) _ c (hb c) (by omega)
    · exact long_end s hs i (n + 1) _ (by omega) (by omega) (by omega)
  | d + 1, n, best, h, h1 =>
    long_in s hs i n best _ (by omega) (hg n h1 (by omega)) (long_run s hs i L hL hi hg hb d (n + 1) _ (by omega) (by omega))
theorem take_tw (p : UInt8 → Bool) : ∀ (l : List UInt8) (n : Nat), n ≤ (l.takeWhile p).length → (l.take n).all p = true
  | l, 0, _ => by simp
  | [], n + 1, h => by simp at h
  | c :: l, n + 1, h => by
    rw [List.takeWhile_cons] at h
    by_cases q : p c = true
    · rw [if_pos q] at h
      rw [List.take_succ_cons, List.all_cons, q, take_tw p l n (by simpa using h)]
      rfl
    · rw [if_neg q] at h; simp at h
theorem take_past (p : UInt8 → Bool) : ∀ (l : List UInt8) (n : Nat), (l.takeWhile p).length < n → n ≤ l.length → (l.take n).all p = false
  | l, 0, h, _ => by omega
  | [], n + 1, _, h => by simp at h
  | c :: l, n + 1, h, h2 => by
    rw [List.takeWhile_cons] at h
    by_cases q : p c = true
    · rw [if_pos q] at h
      simp only [List.length_cons] at h h2
      rw [List.take_succ_cons, List.all_cons, q, take_past p l n (by omega) (by omega)]
      rfl
    · rw [List.take_succ_cons, List.all_cons]
      simp [q]
theorem sign_heads : ∀ w ∈ signsL, ∀ c x, w = c :: x → digB c = false ∧ letB c = false := by
  intro w hw c x e
  have : ∀ w ∈ signsL, (match w with | [] => true | c :: _ => !digB c && !letB c) = true := by decide
  have := this w hw
  rw [e] at this
  simpa using this
theorem sign_no (c : UInt8) (x : List UInt8) (h : digB c = true ∨ letB c = true) : signB (c :: x) = false := by
  cases q : signB (c :: x) with
  | false => rfl
  | true =>
    exfalso
    have hm : (c :: x) ∈ signsL := by unfold signB at q; simpa using q
    obtain ⟨h1, h2⟩ := sign_heads _ hm c x rfl
    rcases h with h | h <;> simp_all
theorem dig_no_let (c : UInt8) (h : digB c = true) : letB c = false := by
  unfold digB isDig at h
  unfold letB isLet
  simp at h ⊢
  omega
theorem row_cons (c : UInt8) (l : List UInt8) : rowB (c :: l) = (letB c && l.all anB) := rfl
theorem long_dig (s : ByteArray) (hs : s.size ≤ 8192) (i : Nat) (c : UInt8) (m : List UInt8) (h : (lst s).drop i = c :: m) (hd : digB c = true) : ∃ k, outriderref03_longest.f k s (i : Int) = some (((c :: m).takeWhile digB).length : Int) := by
  obtain ⟨h1, h2, h3⟩ := bt_drop h
  have hlen : (c :: m).length = s.size - i := by
    have := congrArg List.length h
    rw [List.length_drop, lst_len] at this
    omega
  have hp := take_pos digB c m hd
  have hle : ((c :: m).takeWhile digB).length ≤ (c :: m).length := (List.takeWhile_prefix digB).length_le
  refine long_run s hs i _ hp (by omega) ?_ ?_ (((c :: m).takeWhile digB).length - 1) 1 0 (by omega) (Nat.le_refl _)
  · intro n n1 n2
    rw [h]
    have e := take_tw digB (c :: m) n n2
    obtain ⟨n', rfl⟩ : ∃ n', n = n' + 1 := ⟨n - 1, by omega⟩
    unfold goodB digitsB
    rw [e]
    rfl
  · intro hn
    rw [h]
    have e := take_past digB (c :: m) (((c :: m).takeWhile digB).length + 1) (by omega) (by omega)
    unfold goodB digitsB
    rw [e, List.take_succ_cons, sign_no c _ (Or.inl hd)]
    rw [row_cons, dig_no_let c hd]
    rfl
theorem long_let (s : ByteArray) (hs : s.size ≤ 8192) (i : Nat) (c : UInt8) (m : List UInt8) (h : (lst s).drop i = c :: m) (hd : digB c = false) (hl : letB c = true) : ∃ k, outriderref03_longest.f k s (i : Int) = some (((c :: m).takeWhile anB).length : Int) := by
  obtain ⟨h1, h2, h3⟩ := bt_drop h
  have ha : anB c = true := by unfold anB isAn; unfold letB at hl; rw [hl]; simp
  have hlen : (c :: m).length = s.size - i := by
    have := congrArg List.length h
    rw [List.length_drop, lst_len] at this
    omega
  have hp := take_pos anB c m ha
  have hle : ((c :: m).takeWhile anB).length ≤ (c :: m).length := (List.takeWhile_prefix anB).length_le
  refine long_run s hs i _ hp (by omega) ?_ ?_ (((c :: m).takeWhile anB).length - 1) 1 0 (by omega) (Nat.le_refl _)
  · intro n n1 n2
    rw [h]
    have e := take_tw anB (c :: m) n n2
    obtain ⟨n', rfl⟩ : ∃ n', n = n' + 1 := ⟨n - 1, by omega⟩
    rw [List.take_succ_cons] at e ⊢
    rw [List.all_cons] at e
    unfold goodB
    rw [row_cons]
    have e2 : (m.take n').all anB = true := by simpa [ha] using e
    rw [e2, hl]
    simp
  · intro hn
    rw [h]
    have e := take_past anB (c :: m) (((c :: m).takeWhile anB).length + 1) (by omega) (by omega)
    rw [List.take_succ_cons] at e ⊢
    rw [List.all_cons, ha, Bool.true_and] at e
    unfold goodB digitsB
    rw [row_cons, sign_no c _ (Or.inr hl), List.all_cons, hd, e]
    simp
/-- How many bytes the sign at the head has; 0: none. -/
def signN (c : UInt8) (m : List UInt8) : Nat :=
  match findSign signsL (c :: m) with
  | some w => w.length
  | none => 0
theorem good_other (c : UInt8) (x : List UInt8) (hd : digB c = false) (hl : letB c = false) : goodB (c :: x) = signB (c :: x) := by
  unfold goodB digitsB
  rw [row_cons, hl, List.all_cons, hd]
  simp
theorem find_none : ∀ (ws : List (List UInt8)) (l : List UInt8), findSign ws l = none → ∀ w ∈ ws, w.isPrefixOf l = false
  | [], l, h, w, hw => by simp at hw
  | v :: ws, l, h, w, hw => by
    unfold findSign at h
    by_cases c : v.isPrefixOf l = true
    · rw [if_pos c] at h; simp at h
    · rw [if_neg c] at h
      rcases List.mem_cons.1 hw with rfl | hw
      · exact Bool.eq_false_iff.mpr c
      · exact find_none ws l h w hw
theorem sign_first (a b : UInt8) : signB [a, b] = true → ∀ m, findSign signsL (a :: b :: m) = some [a, b] := by
  intro h m
  rw [sign_two] at h
  unfold twos at h
  simp at h
  rcases h with ⟨rfl, rfl⟩ | ⟨rfl, rfl⟩ | ⟨rfl, rfl⟩ | ⟨rfl, rfl⟩ | ⟨rfl, rfl⟩ | ⟨rfl, rfl⟩ <;> rfl
theorem sign_len (c : UInt8) (m : List UInt8) : signN c m ≤ 2 ∧ (signN c m ≠ 0 → ∃ w, findSign signsL (c :: m) = some w ∧ w.length = signN c m) := by
  unfold signN
  cases h : findSign signsL (c :: m) with
  | none => exact ⟨by simp, fun q => absurd rfl q⟩
  | some w => exact ⟨sign_small w (find_prefix _ _ _ h).1, fun _ => ⟨w, rfl, rfl⟩⟩
/-- A sign stands at the head: of two bytes if there is one, else of one. -/
theorem signN_two (a b : UInt8) (m : List UInt8) (h : signB [a, b] = true) : signN a (b :: m) = 2 := by
  unfold signN
  rw [sign_first a b h m]
  rfl
theorem signN_one (c : UInt8) (m : List UInt8) (h : ∀ b m', m = b :: m' → signB [c, b] = false) : signN c m = if signB [c] = true then 1 else 0 := by
  unfold signN
  cases hf : findSign signsL (c :: m) with
  | none =>
    have := find_none _ _ hf
    by_cases q : signB [c] = true
    · exfalso
      have hm : [c] ∈ signsL := by unfold signB at q; simpa using q
      have := this [c] hm
      simp at this
    · rw [if_neg q]
  | some w =>
    obtain ⟨h1, h2⟩ := find_prefix _ _ _ hf
    have h3 := sign_small w h1
    have h4 := sign_pos w h1
    obtain ⟨h5, h6⟩ := (prefix_take w (c :: m)).1 h2
    have hw : w.length = 1 := by
      by_cases q : w.length = 1
      · exact q
      · exfalso
        have q2 : w.length = 2 := by omega
        rw [q2] at h6 h5
        cases m with
        | nil => simp at h5
        | cons b m' =>
          have := h b m' rfl
          simp only [List.take_succ_cons, List.take_zero] at h6
          rw [h6] at this
          unfold signB at this
          simp at this
          exact this h1
    rw [hw] at h6
    simp only [List.take_succ_cons, List.take_zero] at h6
    have : signB [c] = true := by unfold signB; rw [h6]; simpa using h1
    rw [if_pos this]; exact hw
theorem long_sign (s : ByteArray) (hs : s.size ≤ 8192) (i : Nat) (c : UInt8) (m : List UInt8) (h : (lst s).drop i = c :: m) (hd : digB c = false) (hl : letB c = false) : ∃ k, outriderref03_longest.f k s (i : Int) = some ((signN c m : Nat) : Int) := by
  obtain ⟨h1, h2, h3⟩ := bt_drop h
  have hlen : (c :: m).length = s.size - i := by
    have := congrArg List.length h
    rw [List.length_drop, lst_len] at this
    omega
  have t1 : ((lst s).drop i).take 1 = [c] := by rw [h]; rfl
  have two : ∀ best : Int, best = ((if signB [c] = true then 1 else 0 : Nat) : Int) → ∃ k, outriderref03_longest.l0 k s (i : Int) best ((1 + 1 : Nat) : Int) = some ((signN c m : Nat) : Int) := by
    intro best hbest
    cases m with
    | nil =>
      have hsz : s.size - i = 1 := hlen.symm
      rw [signN_one c [] (fun b m' q => by simp at q), ← hbest]
      exact long_end s hs i 2 best (by omega) (by omega) (by omega)
    | cons b m' =>
      have hlen2 : m'.length + 2 = s.size - i := hlen
      have t2 : ((lst s).drop i).take 2 = [c, b] := by rw [h]; rfl
      have g2 := good_other c [b] hd hl
      cases q : signB [c, b] with
      | true =>
        rw [signN_two c b m' q]
        refine long_in s hs i 2 best _ (by omega) (by rw [t2, g2, q]) ?_
        by_cases e : i + 3 ≤ s.size
        · refine long_stop s hs i 3 _ e ?_ (by omega)
          cases m' with
          | nil => simp at hlen2; omega
          | cons d m2 =>
            have t3 : ((lst s).drop i).take 3 = [c, b, d] := by rw [h]; rfl
            rw [t3, good_other c [b, d] hd hl]
            exact sign_big _ (by simp) (by simp)
        · exact long_end s hs i 3 _ (by omega) (by omega) (by omega)
      | false =>
        rw [signN_one c (b :: m') (fun b' m2 e => by injection e with e1 e2; rw [← e1]; exact q), ← hbest]
        exact long_stop s hs i 2 best (by omega) (by rw [t2, g2, q]) (by omega)
  have g1 := good_other c [] hd hl
  show ∃ k, outriderref03_longest.l0 k s (i : Int) 0 ((1 : Nat) : Int) = _
  cases q : signB [c] with
  | true => exact long_in s hs i 1 0 _ (by omega) (by rw [t1, g1, q]) (two _ (by rw [q]; rfl))
  | false => exact long_skip s hs i 1 0 _ (by omega) (by rw [t1, g1, q]) (Nat.le_refl _) (two _ (by rw [q]; rfl))
end Go.Proofs.Ytclhpdnldnifcaa.K
