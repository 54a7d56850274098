/- What statements are written as; the reference's lines: the plain part, and what its walk keeps. -/
import Derived.Test.YtobkdmmnbnpemaaXWPX
import Derived.Test.YtobkdmmnbnpemaaXWM1
import Derived.Test.YtobkdmmnbnpemaaXWD4
namespace Go.Proofs.Ytobkdmmnbnpemaa.K
open Go.RowKit Go.Proofs.YtobkdmmnbnpemaaW.PrintWords Go.Proofs.YtobkdmmnbnpemaaW.PrintLast Go.Proofs.YtobkdmmnbnpemaaW.PrintMore
set_option linter.unusedVariables false
set_option linter.unusedSimpArgs false
def blB (n : Nat) : ByteArray := bs (List.replicate (2 * n) 32)
def arg0 : List S38 → ByteArray
  | [] => ⟨#[]⟩
  | x :: _ => txt x
def arg1 : List S38 → ByteArray
  | _ :: y :: _ => txt y
  | _ => ⟨#[]⟩
def elsT (l5 : List S41) (n : Nat) (s E H : ByteArray) : ByteArray :=
  if l5.length = 0 then s ++ ⟨#[10]⟩
  else if l5.length = 1 ∧ (rd_T41 l5 0).f0 = 6 then (s ++ ⟨#[32, 101, 108, 115, 101, 32]⟩) ++ H
  else (((s ++ ⟨#[32, 101, 108, 115, 101, 32, 123, 10]⟩) ++ E) ++ blB n) ++ ⟨#[125, 10]⟩
def oneA (k : Int) (f1 : ByteArray) (f2 : Int) (l3 : List S38) (n : Nat) (B : ByteArray) (l5 : List S41) (E H : ByteArray) : ByteArray :=
  if k = 1 then (((⟨#[118, 97, 114, 32]⟩ ++ f1) ++ ⟨#[32, 61, 32]⟩) ++ arg0 l3) ++ ⟨#[59, 10]⟩
  else if k = 2 then ((f1 ++ ⟨#[32, 61, 32]⟩) ++ arg0 l3) ++ ⟨#[59, 10]⟩
  else if k = 3 then (((⟨#[109, 91]⟩ ++ arg0 l3) ++ ⟨#[93, 32, 61, 32]⟩) ++ arg1 l3) ++ ⟨#[59, 10]⟩
  else if k = 4 then (⟨#[101, 109, 105, 116, 32]⟩ ++ arg0 l3) ++ ⟨#[59, 10]⟩
  else if k = 8 then (⟨#[102, 97, 105, 108, 32]⟩ ++ arg0 l3) ++ ⟨#[59, 10]⟩
  else if k = 5 then (((⟨#[105, 110, 116, 111, 32]⟩ ++ bs (textB f2)) ++ ⟨#[32]⟩) ++ arg0 l3) ++ ⟨#[59, 10]⟩
  else if k = 9 then ⟨#[115, 116, 111, 112, 59, 10]⟩
  else if k = 7 then ((((⟨#[119, 104, 105, 108, 101, 32, 40]⟩ ++ arg0 l3) ++ ⟨#[41, 32, 123, 10]⟩) ++ B) ++ blB n) ++ ⟨#[125, 10]⟩
  else elsT l5 n (((((⟨#[105, 102, 32, 40]⟩ ++ arg0 l3) ++ ⟨#[41, 32, 123, 10]⟩) ++ B) ++ blB n) ++ ⟨#[125]⟩) E H
mutual
def sTx : S41 → Nat → ByteArray
  | ⟨k, f1, f2, l3, l4, l5⟩, n => oneA k f1 f2 l3 n (lTx l4 (n + 1)) l5 (lTx l5 (n + 1)) (hTx l5 n)
def lTx : List S41 → Nat → ByteArray
  | [], _ => ⟨#[]⟩
  | x :: xs, n => (blB n ++ sTx x n) ++ lTx xs n
def hTx : List S41 → Nat → ByteArray
  | [], _ => ⟨#[]⟩
  | x :: _, n => sTx x n
end
theorem blB_size (n : Nat) : (blB n).size = 2 * n := by unfold blB; rw [size_bs, List.length_replicate]
theorem blB_succ (n : Nat) : blB n ++ ⟨#[32, 32]⟩ = blB (n + 1) := by
  unfold blB
  rw [show (⟨#[32, 32]⟩ : ByteArray) = bs [32, 32] from rfl, bs_app, show 2 * (n + 1) = 2 * n + 2 by omega, ← List.replicate_append_replicate]
  rfl
theorem head_kind {s : S41} (h : headB s = true) : ∃ (W : Nat) (nm : Bool), wantS s.f0 = some (W, nm) ∧ s.f3.length = W ∧ (nm = true → nameB (lst s.f1) = true) ∧ (s.f0 = 5 → 0 ≤ s.f2) := by
  unfold headB at h
  cases hw : wantS s.f0 with
  | none => rw [hw] at h; cases h
  | some p =>
    obtain ⟨W, nm⟩ := p
    rw [hw] at h
    simp only [Bool.and_eq_true, beq_iff_eq, Bool.or_eq_true] at h
    obtain ⟨⟨⟨⟨h1, h2, h3⟩, h4⟩, h5⟩, h6⟩ := h
    refine ⟨W, nm, rfl, h1, fun e => by rw [← h2]; exact e, fun e => ?_⟩
    unfold cellB at h4
    rw [if_pos e, Bool.and_eq_true] at h4
    exact of_decide_eq_true h4.1
theorem fit_open {b : Nat} {s : S41} (h : fitSt (fitB b) s = true) : headB s = true ∧ s.f3.all okA = true ∧ (loopsB s.f0 = true → 0 < b) ∧ s.f4.all (fitSt (fitB (b - 1))) = true ∧ s.f5.all (fitSt (fitB (b - 1))) = true := by
  have hh : headB s = true := by
    cases e : headB s with
    | true => rfl
    | false => rw [fitSt_no e] at h; cases h
  have hb : loopsB s.f0 = true → 0 < b := by
    intro hl
    rcases Nat.eq_zero_or_pos b with z | z
    · subst z
      unfold fitSt at h
      rw [hh, hl] at h
      simp [fitB] at h
    · exact z
  rw [fin_eq b s hh hb, Bool.and_eq_true, Bool.and_eq_true] at h
  exact ⟨hh, h.1, hb, h.2.1, h.2.2⟩
theorem okA_open {e : S38} (h : okA e = true) : fitE e = true ∧ deepE e ≤ 48 := by
  unfold okA at h
  rw [Bool.and_eq_true] at h
  exact ⟨h.2, of_decide_eq_true h.1⟩
theorem arg0_size (l : List S38) (h : l.all okA = true) : (arg0 l).size ≤ 20 * cntL l := by
  cases l with
  | nil => exact Nat.zero_le _
  | cons x xs =>
    rw [List.all_cons, Bool.and_eq_true] at h
    have := txt_size x (okA_open h.1).1
    simp only [arg0, cntL]
    omega
theorem arg01_size (l : List S38) (h : l.all okA = true) : (arg0 l).size + (arg1 l).size ≤ 20 * cntL l := by
  match l with
  | [] => exact Nat.zero_le _
  | [x] =>
    have := arg0_size [x] h
    have e : (arg1 [x]).size = 0 := rfl
    omega
  | x :: y :: xs =>
    simp only [List.all_cons, Bool.and_eq_true] at h
    have h1 := txt_size x (okA_open h.1).1
    have h2 := txt_size y (okA_open h.2.1).1
    simp only [arg0, arg1, cntL]
    omega
theorem elsT_size (l5 : List S41) (n : Nat) (s E H : ByteArray) (c : Nat) (hn : n ≤ 20) (hE : E.size ≤ c) (hH : H.size ≤ c) : (elsT l5 n s E H).size ≤ s.size + c + 60 := by
  have hb := blB_size n
  have e1 : (⟨#[10]⟩ : ByteArray).size = 1 := rfl
  have e2 : (⟨#[32, 101, 108, 115, 101, 32]⟩ : ByteArray).size = 6 := rfl
  have e3 : (⟨#[32, 101, 108, 115, 101, 32, 123, 10]⟩ : ByteArray).size = 8 := rfl
  have e4 : (⟨#[125, 10]⟩ : ByteArray).size = 2 := rfl
  unfold elsT
  split
  · simp only [ByteArray.size_append]; omega
  split
  · simp only [ByteArray.size_append]; omega
  · simp only [ByteArray.size_append]; omega
theorem oneA_size (k : Int) (f1 : ByteArray) (f2 : Int) (l3 : List S38) (n : Nat) (B : ByteArray) (l5 : List S41) (E H : ByteArray) (c4 c5 : Nat) (hn : n ≤ 20) (ha : (arg0 l3).size + (arg1 l3).size ≤ 20 * cntL l3)
    (hk : (k = 1 ∨ k = 2) → f1.size ≤ 12) (h5 : k = 5 → 0 ≤ f2) (hB : B.size ≤ c4) (hE : E.size ≤ c5) (hH : H.size ≤ c5) : (oneA k f1 f2 l3 n B l5 E H).size ≤ 150 + 20 * cntL l3 + c4 + c5 := by
  have hb := blB_size n
  have e1 : (⟨#[118, 97, 114, 32]⟩ : ByteArray).size = 4 := rfl
  have e2 : (⟨#[32, 61, 32]⟩ : ByteArray).size = 3 := rfl
  have e3 : (⟨#[59, 10]⟩ : ByteArray).size = 2 := rfl
  have e4 : (⟨#[109, 91]⟩ : ByteArray).size = 2 := rfl
  have e5 : (⟨#[93, 32, 61, 32]⟩ : ByteArray).size = 4 := rfl
  have e6 : (⟨#[101, 109, 105, 116, 32]⟩ : ByteArray).size = 5 := rfl
  have e7 : (⟨#[102, 97, 105, 108, 32]⟩ : ByteArray).size = 5 := rfl
  have e8 : (⟨#[105, 110, 116, 111, 32]⟩ : ByteArray).size = 5 := rfl
  have e9 : (⟨#[32]⟩ : ByteArray).size = 1 := rfl
  have f1' : (⟨#[115, 116, 111, 112, 59, 10]⟩ : ByteArray).size = 6 := rfl
  have f2' : (⟨#[119, 104, 105, 108, 101, 32, 40]⟩ : ByteArray).size = 7 := rfl
  have f3 : (⟨#[41, 32, 123, 10]⟩ : ByteArray).size = 4 := rfl
  have f4 : (⟨#[125, 10]⟩ : ByteArray).size = 2 := rfl
  have f5 : (⟨#[105, 102, 32, 40]⟩ : ByteArray).size = 4 := rfl
  have f6 : (⟨#[125]⟩ : ByteArray).size = 1 := rfl
  unfold oneA
  split
  · have := hk (.inl (by assumption)); simp only [ByteArray.size_append]; omega
  split
  · have := hk (.inr (by assumption)); simp only [ByteArray.size_append]; omega
  split
  · simp only [ByteArray.size_append]; omega
  split
  · simp only [ByteArray.size_append]; omega
  split
  · simp only [ByteArray.size_append]; omega
  split
  · have := textB_len f2 (h5 (by assumption)); simp only [ByteArray.size_append, size_bs]; omega
  split
  · omega
  split
  · simp only [ByteArray.size_append]; omega
  · refine Nat.le_trans (elsT_size l5 n _ E H c5 hn hE hH) ?_
    simp only [ByteArray.size_append]
    omega
theorem lines_size (n : Nat) (hn : n ≤ 20) : ∀ (l : List S41), (∀ s ∈ l, (sTx s n).size ≤ 150 + 190 * cntS s) → (lTx l n).size ≤ 190 * cntB l
  | [], _ => Nat.zero_le _
  | x :: xs, h => by
    have h0 := h x (List.mem_cons_self ..)
    have ih := lines_size n hn xs (fun s hs => h s (List.mem_cons_of_mem _ hs))
    have hb := blB_size n
    simp only [lTx, cntB, ByteArray.size_append]
    omega
theorem head_size (n : Nat) : ∀ (l : List S41), (∀ s ∈ l, (sTx s n).size ≤ 150 + 190 * cntS s) → (hTx l n).size ≤ 190 * cntB l
  | [], _ => Nat.zero_le _
  | x :: xs, h => by
    have h0 := h x (List.mem_cons_self ..)
    simp only [hTx, cntB]
    omega
theorem named_size {s : S41} (h : headB s = true) : (s.f0 = 1 ∨ s.f0 = 2) → s.f1.size ≤ 12 := by
  intro hk
  obtain ⟨W, nm, hw, _, hn, _⟩ := head_kind h
  have e : nm = true := by
    rcases hk with z | z
    · rw [z] at hw; exact (Prod.mk.inj (Option.some.inj hw)).2.symm
    · rw [z] at hw; exact (Prod.mk.inj (Option.some.inj hw)).2.symm
  exact name_size (hn e)
theorem sizes : ∀ (b : Nat) (s : S41), fitSt (fitB b) s = true → ∀ n, n + b ≤ 20 → (sTx s n).size ≤ 150 + 190 * cntS s
  | 0, s, h, n, hn => by
    obtain ⟨h1, h2, h3, h4, h5⟩ := fit_open h
    have hl : loopsB s.f0 = false := by
      cases e : loopsB s.f0 with
      | false => rfl
      | true => exact absurd (h3 e) (by omega)
    obtain ⟨g1, g2⟩ := head_empty h1 hl
    have hn1 := named_size h1
    obtain ⟨W, nm, _, _, _, h6⟩ := head_kind h1
    obtain ⟨k, f1, f2, l3, l4, l5⟩ := s
    dsimp only at g1 g2
    subst g1 g2
    have := oneA_size k f1 f2 l3 n ⟨#[]⟩ [] ⟨#[]⟩ ⟨#[]⟩ 0 0 (by omega) (arg01_size l3 h2) hn1 h6 (Nat.le_refl _) (Nat.le_refl _) (Nat.le_refl _)
    have e : sTx ⟨k, f1, f2, l3, [], []⟩ n = oneA k f1 f2 l3 n ⟨#[]⟩ [] ⟨#[]⟩ ⟨#[]⟩ := rfl
    rw [e]
    simp only [cntS, cntB]
    omega
  | b + 1, s, h, n, hn => by
    obtain ⟨h1, h2, h3, h4, h5⟩ := fit_open h
    have hn1 := named_size h1
    obtain ⟨W, nm, _, _, _, h6⟩ := head_kind h1
    obtain ⟨k, f1, f2, l3, l4, l5⟩ := s
    rw [Nat.add_sub_cancel] at h4 h5
    rw [List.all_eq_true] at h4 h5
    have i4 := lines_size (n + 1) (by omega) l4 (fun s hs => sizes b s (h4 s hs) (n + 1) (by omega))
    have i5 := lines_size (n + 1) (by omega) l5 (fun s hs => sizes b s (h5 s hs) (n + 1) (by omega))
    have i6 := head_size n l5 (fun s hs => sizes b s (h5 s hs) n (by omega))
    have := oneA_size k f1 f2 l3 n (lTx l4 (n + 1)) l5 (lTx l5 (n + 1)) (hTx l5 n) _ _ (by omega) (arg01_size l3 h2) hn1 h6 i4 i5 i6
    have e : sTx ⟨k, f1, f2, l3, l4, l5⟩ n = oneA k f1 f2 l3 n (lTx l4 (n + 1)) l5 (lTx l5 (n + 1)) (hTx l5 n) := rfl
    rw [e]
    simp only [cntS]
    omega
theorem lsizes (b : Nat) (l : List S41) (h : l.all (fitSt (fitB b)) = true) (n : Nat) (hn : n + b ≤ 20) : (lTx l n).size ≤ 190 * cntB l :=
  lines_size n (by omega) l (fun s hs => sizes b s (List.all_eq_true.1 h s hs) n hn)
end Go.Proofs.Ytobkdmmnbnpemaa.K
