/- The reference's Cut: round by round the cutter's own answer. -/
import Derived.Test.YtclhpdnldnifcaaPureQ2
import Derived.Test.YtclhpdnldnifcaaCutF
namespace Go.Proofs.Ytclhpdnldnifcaa.K
open Go.RowKit Go.Proofs.YtclhpdnldnifcaaW.PrintWords Go.Proofs.YtclhpdnldnifcaaW.PrintLast Go.Proofs.YtclhpdnldnifcaaW.PrintMore
set_option linter.unusedVariables false
set_option linter.unusedSimpArgs false

theorem skip_idem : ∀ r l, skipL false (skipL r l) = skipL r l
  | true, [] => rfl
  | false, [] => rfl
  | true, c :: l => by
    by_cases q : c8 c = 10
    · have e : skipL true (c :: l) = skipL false l := by rw [skipL, if_pos q]
      rw [e]; exact skip_idem false l
    · have e : skipL true (c :: l) = skipL true l := by rw [skipL, if_neg q]
      rw [e]; exact skip_idem true l
  | false, c :: l => by
    by_cases q : blankB c = true
    · have e : skipL false (c :: l) = skipL false l := by rw [skipL, if_pos q]
      rw [e]; exact skip_idem false l
    · by_cases q2 : c8 c = 35
      · have e : skipL false (c :: l) = skipL true l := by rw [skipL, if_neg q, if_pos q2]
        rw [e]; exact skip_idem true l
      · have e : skipL false (c :: l) = c :: l := by rw [skipL, if_neg q, if_neg q2]
        rw [e, e]
theorem cutL_skip (n : Nat) (l : List UInt8) : cutL n (skipL false l) = cutL n l := by
  cases n with
  | zero => rfl
  | succ n => unfold cutL; rw [skip_idem]
theorem told_cons (n : Nat) (acc : List S33) (x : Tok × Nat) (r : List (Tok × Nat) × Option (Int × Nat)) : told n acc (x :: r.1, r.2) = told n (acc ++ [s33 n x]) r := by
  obtain ⟨ts, er⟩ := r
  cases er with
  | none => simp [told]
  | some ep => rfl
theorem ev_gap (s : ByteArray) (hs : s.size ≤ 8192) (i : Nat) (hi : i ≤ s.size) : Ev (fun k => outriderref03_gap.f k s (i : Int)) ((s.size - (skipL false ((lst s).drop i)).length : Nat) : Int) :=
  Ev.of (fun k => outriderref03_gap.mono _ _ k) (gap_l0 s hs ((lst s).drop i) i false rfl hi 0)
theorem ev_of {α : Type} {g : Nat → Option α} {r : α} (hg : ∀ k, LeO (g k) (g (k + 1))) (h : ∃ k, g k = some r) : Ev g r := by
  obtain ⟨k, hk⟩ := h
  exact Ev.of hg hk
/-- What one round tells, where the longest text has N bytes (N not 0). -/
def roundP (s : ByteArray) (acc : List S33) (n i N : Nat) (T : List UInt8) : List S33 × Int × Int :=
  let go := fun (kd v : Int) => told s.size (acc ++ [⟨kd, bs T, v, (i : Int)⟩]) (cutL n ((lst s).drop (i + N)))
  if digitsB T = true then
    if (parseP (bs T)).2 = 0 then
      if i + N < s.size ∧ isLet (bt s ((i + N : Nat) : Int)) = true then ([], ((i + N : Nat) : Int), 31) else go 1 (parseP (bs T)).1
    else ([], (i : Int), 33)
  else if wordsB T = true then go 3 0
  else if rowB T = true then
    if N > 12 then ([], (i : Int), 32) else go 2 0
  else go 4 0
theorem ev_round (s : ByteArray) (hs : s.size ≤ 8192) (acc : List S33) (n i N : Nat) (hN : 1 ≤ N) (hi : i + N ≤ s.size) (hacc : acc.length < 80000)
    (hlong : ∃ k, outriderref03_longest.f k s (i : Int) = some (N : Int))
    (ih : ∀ (l : List UInt8) (i' : Nat) (acc' : List S33), (lst s).drop i' = l → i + N ≤ i' → i' ≤ s.size → skipL false l = l → acc'.length = acc.length + 1 → Ev (fun k => outriderref03_Cut.l0 k s acc' (i' : Int)) (told s.size acc' (cutL n l))) :
    Ev (fun k => outriderref03_Cut.l0 k s acc (i : Int)) (roundP s acc n i N (((lst s).drop i).take N)) := by
  have hw : wrap64 ((i : Int) + (N : Int)) = ((i + N : Nat) : Int) := by unfold wrap64; omega
  have hx : s.extract i (i + N) = bs (((lst s).drop i).take N) := by
    have := lst_extract s i (i + N)
    rw [Nat.add_sub_cancel_left] at this
    rw [← this, bs_lst]
  have hTl : (((lst s).drop i).take N).length = N := by
    rw [List.length_take, List.length_drop, lst_len]; omega
  generalize hT : ((lst s).drop i).take N = T at *
  have hbs : (bs T).size ≤ 140737488351232 := by rw [bs_size, hTl]; omega
  have ed : Ev (fun k => outriderref03_digits.f k (bs T)) (digitsB T) := by
    have := digits_ok (bs T) hbs
    rw [lst_bs] at this
    exact ev_of (fun k => outriderref03_digits.mono _ k) this
  have ew : Ev (fun k => outriderref03_Words.f k (bs T)) (wordsB T) := by
    have := rwords_ok (bs T)
    rw [lst_bs] at this
    exact ev_of (fun k => outriderref03_Words.mono _ k) this
  have er : Ev (fun k => outriderref03_row.f k (bs T)) (rowB T) := by
    have := row_ok (bs T) hbs
    rw [lst_bs] at this
    exact ev_of (fun k => outriderref03_row.mono _ k) this
  have el : Ev (fun k => outriderref03_longest.f k s (i : Int)) (N : Int) := ev_of (fun k => outriderref03_longest.mono _ _ k) hlong
  have hgap := ev_gap s hs (i + N) hi
  have hleft := skip_left s (i + N) hi
  have hsl := skipL_len false ((lst s).drop (i + N))
  rw [List.length_drop, lst_len] at hsl
  have go : ∀ (kd v : Int), Ev (fun k => (outriderref03_gap.f k s ((i + N : Nat) : Int)).bind fun t => outriderref03_Cut.l0 k s (acc ++ [⟨kd, bs T, v, (i : Int)⟩]) t) (told s.size (acc ++ [⟨kd, bs T, v, (i : Int)⟩]) (cutL n ((lst s).drop (i + N)))) := by
    intro kd v
    refine Ev.bind hgap ?_
    have := ih _ (s.size - (skipL false ((lst s).drop (i + N))).length) (acc ++ [⟨kd, bs T, v, (i : Int)⟩]) hleft (by omega) (by omega) (skip_idem _ _) (by simp)
    rw [cutL_skip] at this
    exact this
  have hlen : acc.length < 3518437208883 := by omega
  have h0 : ¬ (N : Int) = 0 := by omega
  have h1 : (0 : Int) ≤ (i : Int) := by omega
  have h2 : (i : Int) ≤ ((i + N : Nat) : Int) := by omega
  have h3 : ((i + N : Nat) : Int) ≤ (s.size : Int) := by omega
  have h4 : (i : Int) < (s.size : Int) := by omega
  have h5 : (0 : Int) ≤ ((i + N : Nat) : Int) := by omega
  refine Ev.step (fun k => by rw [outriderref03_Cut.l0, if_pos h4]) ?_
  refine Ev.bind el ?_
  simp only [hw, if_neg h0, if_pos h1, if_pos h2, if_pos h3, Int.toNat_natCast, hx]
  refine Ev.bind ed ?_
  unfold roundP
  cases qd : digitsB T with
  | true =>
    simp only [if_true]
    have hall : (lst (bs T)).all digB = true := by
      rw [lst_bs]; unfold digitsB at qd; rw [Bool.and_eq_true] at qd; exact qd.1
    have ep : Ev (fun k => outriderref01_Parse.f k (bs T)) (parseP (bs T)) := ev_of (fun k => outriderref01_Parse.mono _ k) (rparse (bs T) (by rw [bs_size, hTl]; omega) hbs hall)
    refine Ev.bind ep ?_
    by_cases qp : (parseP (bs T)).2 = 0
    · simp only [if_pos qp]
      by_cases q : i + N < s.size
      · have h6 : ((i + N : Nat) : Int) < (s.size : Int) := by omega
        simp only [if_pos h6, if_pos h5, rletter_f, Option.bind_some]
        cases ql : isLet (bt s ((i + N : Nat) : Int)) with
        | true =>
          have q2 : i + N < s.size ∧ True := ⟨q, trivial⟩
          simp only [if_true, if_pos q2]
          exact Ev.now _
        | false =>
          have q2 : ¬ (i + N < s.size ∧ False) := fun x => x.2
          simp only [if_neg q2, Bool.false_eq_true, if_false, if_pos hlen]
          exact go 1 _
      · have h6 : ¬ ((i + N : Nat) : Int) < (s.size : Int) := by omega
        have q2 : ¬ (i + N < s.size ∧ isLet (bt s ((i + N : Nat) : Int)) = true) := fun x => q x.1
        simp only [if_neg h6, if_neg q2, if_pos hlen]
        exact go 1 _
    · simp only [if_neg qp]
      exact Ev.now _
  | false =>
    simp only [Bool.false_eq_true, if_false]
    refine Ev.bind ew ?_
    cases qw : wordsB T with
    | true =>
      simp only [if_true, if_pos hlen]
      exact go 3 0
    | false =>
      simp only [Bool.false_eq_true, if_false]
      refine Ev.bind er ?_
      cases qr : rowB T with
      | true =>
        simp only [if_true]
        by_cases q : N > 12
        · have q' : (N : Int) > 12 := by omega
          simp only [if_pos q, if_pos q']
          exact Ev.now _
        · have q' : ¬ (N : Int) > 12 := by omega
          simp only [if_neg q, if_neg q', if_pos hlen]
          exact go 2 0
      | false =>
        simp only [Bool.false_eq_true, if_false, if_pos hlen]
        exact go 4 0
theorem words_head (c : UInt8) (l : List UInt8) (h : letB c = false) : wordsB (c :: l) = false := by
  cases q : wordsB (c :: l) with
  | false => rfl
  | true =>
    exfalso
    unfold wordsB at q
    simp only [Bool.or_eq_true, Bool.or_false, beq_iff_eq, List.cons.injEq] at q
    have : ∀ x ∈ ([118, 105, 101, 119, 102, 115, 109] : List UInt8), letB x = true := by decide
    rcases q with q | q | q | q | q | q | q | q | q | q | q <;> (have h2 := q.1; subst h2; revert h; decide)
theorem tw_all (p : UInt8 → Bool) (l : List UInt8) : (l.takeWhile p).all p = true := by
  have := take_tw p l (l.takeWhile p).length (Nat.le_refl _)
  rw [take_while_len] at this
  exact this
theorem rcut_go (s : ByteArray) (hs : s.size ≤ 8192) : ∀ (n : Nat) (l : List UInt8) (i : Nat) (acc : List S33), (lst s).drop i = l → i ≤ s.size → skipL false l = l → l.length < n → acc.length + l.length < 20000 →
    Ev (fun k => outriderref03_Cut.l0 k s acc (i : Int)) (told s.size acc (cutL n l))
  | 0, l, i, acc, _, _, _, h, _ => by omega
  | n + 1, [], i, acc, hl, hi, hsk, hn, ha => by
    have e := drop_nil hl hi
    have h4 : ¬ (i : Int) < (s.size : Int) := by omega
    have hlen : acc.length < 3518437208883 := by simp only [List.length_nil] at ha; omega
    refine Ev.step (fun k => by rw [outriderref03_Cut.l0, if_neg h4, if_pos hlen]) ?_
    have e2 : told s.size acc (cutL (n + 1) []) = (acc ++ [endTok s.size], 0, 0) := by
      unfold cutL
      rw [hsk]
      simp [told]
    rw [e2]
    exact Ev.now _
  | n + 1, c :: m, i, acc, hl, hi, hsk, hn, ha => by
    obtain ⟨h1, h2, h3⟩ := bt_drop hl
    have hlen : (c :: m).length = s.size - i := by
      have := congrArg List.length hl
      rw [List.length_drop, lst_len] at this
      omega
    have ih : ∀ N, 1 ≤ N → i + N ≤ s.size → (∃ k, outriderref03_longest.f k s (i : Int) = some (N : Int)) → Ev (fun k => outriderref03_Cut.l0 k s acc (i : Int)) (roundP s acc n i N (((lst s).drop i).take N)) := fun N hN hiN hlong =>
      ev_round s hs acc n i N hN hiN (by simp only [List.length_cons] at ha; omega) hlong (fun l' i' acc' g1 g2 g3 g4 g5 => rcut_go s hs n l' i' acc' g1 g3 g4 (by
        have := congrArg List.length g1
        rw [List.length_drop, lst_len] at this
        omega) (by
        have := congrArg List.length g1
        rw [List.length_drop, lst_len] at this
        omega))
    have hun : cutL (n + 1) (c :: m) = (match tokL c m with
      | .error (e, d) => ([], some (e, (c :: m).length - d))
      | .ok t => ((t, (c :: m).length) :: (cutL n ((c :: m).drop t.tx.length)).1, (cutL n ((c :: m).drop t.tx.length)).2)) := by
      rw [cutL, hsk]
      rfl
    have hok : ∀ t, tokL c m = .ok t → told s.size acc (cutL (n + 1) (c :: m)) = told s.size (acc ++ [⟨t.kd, bs t.tx, t.nm, (i : Int)⟩]) (cutL n ((lst s).drop (i + t.tx.length))) := by
      intro t ht
      rw [hun, ht]
      simp only
      rw [told_cons]
      have e1 : s33 s.size (t, (c :: m).length) = ⟨t.kd, bs t.tx, t.nm, (i : Int)⟩ := by
        unfold s33
        simp only
        rw [hlen, show s.size - (s.size - i) = i by omega]
      rw [e1, ← List.drop_drop, hl]
    have herr : ∀ e d, tokL c m = .error (e, d) → d ≤ (c :: m).length → told s.size acc (cutL (n + 1) (c :: m)) = ([], ((i + d : Nat) : Int), e) := by
      intro e d ht hd
      rw [hun, ht]
      simp only [told]
      rw [hlen, show s.size - (s.size - i - d) = i + d by omega]
    cases hd : digB c with
    | true =>
      have hp := take_pos digB c m hd
      have hle : ((c :: m).takeWhile digB).length ≤ (c :: m).length := (List.takeWhile_prefix digB).length_le
      have := ih _ hp (by omega) (long_dig s hs i c m hl hd)
      rw [hl, take_while_len] at this
      have hdw : (lst s).drop (i + ((c :: m).takeWhile digB).length) = (c :: m).dropWhile digB := by
        rw [← List.drop_drop, hl]
        exact drop_while_len digB (c :: m)
      have hds : digitsB ((c :: m).takeWhile digB) = true := by
        unfold digitsB
        rw [tw_all]
        cases hq : (c :: m).takeWhile digB with
        | nil => rw [hq] at hp; simp at hp
        | cons => rfl
      unfold roundP at this
      simp only [hds, if_true] at this
      have htok : tokL c m = (if (parseP (bs ((c :: m).takeWhile digB))).2 ≠ 0 then .error (33, 0)
        else match (c :: m).dropWhile digB with
          | d :: _ => if letB d = true then .error (31, ((c :: m).takeWhile digB).length) else .ok ⟨1, (c :: m).takeWhile digB, (parseP (bs ((c :: m).takeWhile digB))).1⟩
          | [] => .ok ⟨1, (c :: m).takeWhile digB, (parseP (bs ((c :: m).takeWhile digB))).1⟩) := by
        unfold tokL
        rw [if_pos hd]
        rfl
      by_cases q : (parseP (bs ((c :: m).takeWhile digB))).2 = 0
      · rw [if_neg (fun x => x q)] at htok
        simp only [if_pos q] at this
        cases hr : (c :: m).dropWhile digB with
        | nil =>
          rw [hr] at hdw htok
          have he := drop_nil hdw (by omega)
          rw [if_neg (fun x => by omega)] at this
          rw [hok _ htok]
          exact this
        | cons d ds =>
          rw [hr] at hdw htok
          obtain ⟨g1, g2, g3⟩ := bt_drop hdw
          rw [g2] at this
          simp only at htok
          by_cases ql : letB d = true
          · rw [if_pos ql] at htok
            rw [if_pos ⟨g1, ql⟩] at this
            rw [herr _ _ htok hle]
            exact this
          · rw [if_neg ql] at htok
            rw [if_neg (fun x => ql x.2)] at this
            rw [hok _ htok]
            exact this
      · rw [if_pos q] at htok
        simp only [if_neg q] at this
        rw [herr _ _ htok (Nat.zero_le _)]
        exact this
    | false =>
      cases hlt : letB c with
      | true =>
        have ha' : anB c = true := by unfold anB isAn; unfold letB at hlt; rw [hlt]; simp
        have hp := take_pos anB c m ha'
        have hle : ((c :: m).takeWhile anB).length ≤ (c :: m).length := (List.takeWhile_prefix anB).length_le
        have := ih _ hp (by omega) (long_let s hs i c m hl hd hlt)
        rw [hl, take_while_len] at this
        have htw : (c :: m).takeWhile anB = c :: m.takeWhile anB := by rw [List.takeWhile_cons, if_pos ha']
        have hds : digitsB ((c :: m).takeWhile anB) = false := by
          rw [htw]; unfold digitsB; rw [List.all_cons, hd]; rfl
        have hrow : rowB ((c :: m).takeWhile anB) = true := by
          rw [htw, row_cons, hlt, tw_all]; rfl
        have htok : tokL c m = (if wordsB ((c :: m).takeWhile anB) = true then .ok ⟨3, (c :: m).takeWhile anB, 0⟩
          else if 12 < ((c :: m).takeWhile anB).length then .error (32, 0) else .ok ⟨2, (c :: m).takeWhile anB, 0⟩) := by
          unfold tokL
          rw [if_neg (by rw [hd]; simp), if_pos hlt]
        unfold roundP at this
        simp only [hds, hrow, Bool.false_eq_true, if_false, if_true] at this
        cases qw : wordsB ((c :: m).takeWhile anB) with
        | true =>
          rw [qw, if_pos rfl] at htok
          simp only [qw, if_true] at this
          rw [hok _ htok]
          exact this
        | false =>
          rw [qw, if_neg (by simp)] at htok
          simp only [qw, Bool.false_eq_true, if_false] at this
          by_cases q : 12 < ((c :: m).takeWhile anB).length
          · rw [if_pos q] at htok
            rw [if_pos q] at this
            rw [herr _ _ htok (Nat.zero_le _)]
            exact this
          · rw [if_neg q] at htok
            rw [if_neg q] at this
            rw [hok _ htok]
            exact this
      | false =>
        have htok : tokL c m = (match findSign signsL (c :: m) with
          | some w => .ok ⟨4, w, 0⟩
          | none => .error (31, 0)) := by
          unfold tokL
          rw [if_neg (by rw [hd]; simp), if_neg (by rw [hlt]; simp)]
          rfl
        have hlong := long_sign s hs i c m hl hd hlt
        cases hf : findSign signsL (c :: m) with
        | none =>
          rw [hf] at htok
          have e0 : signN c m = 0 := by unfold signN; rw [hf]
          rw [e0] at hlong
          have el : Ev (fun k => outriderref03_longest.f k s (i : Int)) ((0 : Nat) : Int) := ev_of (fun k => outriderref03_longest.mono _ _ k) hlong
          have h4 : (i : Int) < (s.size : Int) := by omega
          rw [herr _ _ htok (Nat.zero_le _)]
          refine Ev.step (fun k => by rw [outriderref03_Cut.l0, if_pos h4]) ?_
          refine Ev.bind el ?_
          have hz : ((0 : Nat) : Int) = 0 := rfl
          simp only [if_pos hz]
          exact Ev.now _
        | some w =>
          rw [hf] at htok
          have e0 : signN c m = w.length := by unfold signN; rw [hf]
          rw [e0] at hlong
          obtain ⟨m1, m2⟩ := find_prefix _ _ _ hf
          obtain ⟨p1, p2⟩ := (prefix_take w (c :: m)).1 m2
          have hw1 := sign_pos w m1
          have := ih w.length hw1 (by omega) hlong
          rw [hl, p2] at this
          cases hwc : w with
          | nil => rw [hwc] at hw1; simp at hw1
          | cons a b =>
            have hac : a = c := by
              rw [hwc] at p2
              simp only [List.length_cons, List.take_succ_cons] at p2
              injection p2 with p2 _
              exact p2.symm
            have hds : digitsB w = false := by rw [hwc, hac]; unfold digitsB; rw [List.all_cons, hd]; rfl
            have hrow : rowB w = false := by rw [hwc, hac, row_cons, hlt]; rfl
            have hws : wordsB w = false := by rw [hwc, hac]; exact words_head c b hlt
            unfold roundP at this
            simp only [hds, hrow, hws, Bool.false_eq_true, if_false] at this
            rw [hok _ htok]
            exact this
theorem rcut_f (s : ByteArray) : ∃ k, outriderref03_Cut.f k s = some (cutP s) := by
  unfold cutP
  by_cases c : 8192 < s.size
  · rw [if_pos c]
    refine ⟨0, ?_⟩
    unfold outriderref03_Cut.f
    rw [if_pos (by omega)]
  · rw [if_neg c]
    have hgap := ev_gap s (by omega) 0 (Nat.zero_le _)
    have hleft := skip_left s 0 (Nat.zero_le _)
    have hsl := skipL_len false ((lst s).drop 0)
    rw [List.length_drop, lst_len] at hsl
    have hgo := rcut_go s (by omega) (s.size + 1) _ (s.size - (skipL false ((lst s).drop 0)).length) [] hleft (by omega) (skip_idem _ _) (by omega) (by simp only [List.length_nil]; omega)
    rw [cutL_skip, List.drop_zero] at hgo
    have hb := Ev.bind hgap (f := fun k t => outriderref03_Cut.l0 k s [] t) (by rw [List.drop_zero]; exact hgo)
    obtain ⟨k, hk⟩ := hb.rounds
    refine ⟨k, ?_⟩
    unfold outriderref03_Cut.f
    rw [if_neg (by omega)]
    refine hk.trans ?_
    unfold told
    cases hq : cutL (s.size + 1) (lst s) with
    | mk ts er =>
      cases er with
      | none => rfl
      | some ep => rfl
end Go.Proofs.Ytclhpdnldnifcaa.K
