/- The text of an expression that may be: the program's and the reference's. Plain. -/
import Derived.Test.YtobkdmmnbnpemaaXEPX0
import Derived.Test.YtobkdmmnbnpemaaXEPR0
import Derived.Test.YtobkdmmnbnpemaaXEY5
import Derived.Test.YtobkdmmnbnpemaaXED1
namespace Go.Proofs.Ytobkdmmnbnpemaa.K
open Go.RowKit Go.Proofs.YtobkdmmnbnpemaaW.PrintWords Go.Proofs.YtobkdmmnbnpemaaW.PrintLast Go.Proofs.YtobkdmmnbnpemaaW.PrintMore
set_option linter.unusedVariables false
set_option linter.unusedSimpArgs false
def sgR (f : Int) : ByteArray × Int := (outriderref05_Sign.f f).getD (⟨#[]⟩, 0)
def rkE (e : S38) : Int := if e.f0 = 5 then (if e.f3 = 17 then 10 else if e.f3 = 18 then 10 else (sgR e.f3).2) else if e.f0 = 4 then 9 else 10
def brT (rk least : Int) (t : ByteArray) : ByteArray := if rk < least then (⟨#[40]⟩ ++ t) ++ ⟨#[41]⟩ else t
def oneT (f : Int) : ByteArray := if f = 19 then ⟨#[45]⟩ else if f = 20 then ⟨#[126]⟩ else ⟨#[33]⟩
def txtA (a b : Int) (c : ByteArray) (f : Int) (l : List S38) (ts : List ByteArray) : ByteArray :=
  if a = 1 then bs (textB b) else if a = 2 then c
  else match l, ts with
  | [x], [t] => if a = 3 then (⟨#[109, 91]⟩ ++ t) ++ ⟨#[93]⟩ else oneT f ++ brT (rkE x) 9 t
  | [x, y], [t, u] => if f = 17 then (((⟨#[109, 105, 110, 40]⟩ ++ t) ++ ⟨#[44, 32]⟩) ++ u) ++ ⟨#[41]⟩ else if f = 18 then (((⟨#[109, 97, 120, 40]⟩ ++ t) ++ ⟨#[44, 32]⟩) ++ u) ++ ⟨#[41]⟩
    else (((brT (rkE x) (sgR f).2 t ++ ⟨#[32]⟩) ++ (sgR f).1) ++ ⟨#[32]⟩) ++ brT (rkE y) ((sgR f).2 + 1) u
  | _, _ => ⟨#[]⟩
mutual
def txt : S38 → ByteArray
  | ⟨a, b, c, f, l⟩ => txtA a b c f l (txtL l)
def txtL : List S38 → List ByteArray
  | [] => []
  | x :: xs => txt x :: txtL xs
end
theorem signs_all : ∀ j : Fin 16, (match outriderref05_Sign.f ((j.val : Int) + 1) with | some (s, r) => decide (show_Sign.f 60 ((j.val : Int) + 1) = some (s, r)) && (decide (1 ≤ r) && (decide (r ≤ 8) && decide (s.size ≤ 2))) | none => false) = true := by decide +kernel
theorem sign_facts (f : Int) (h0 : 1 ≤ f) (h1 : f ≤ 16) : outriderref05_Sign.f f = some (sgR f) ∧ show_Sign.f 60 f = some (sgR f) ∧ 1 ≤ (sgR f).2 ∧ (sgR f).2 ≤ 8 ∧ (sgR f).1.size ≤ 2 := by
  have h := signs_all ⟨(f - 1).toNat, by omega⟩
  have e : (((f - 1).toNat : Nat) : Int) + 1 = f := by omega
  simp only [e] at h
  unfold sgR
  cases hs : outriderref05_Sign.f f with
  | none => rw [hs] at h; cases h
  | some p =>
    rw [hs] at h
    obtain ⟨s, r⟩ := p
    simp only [Bool.and_eq_true, decide_eq_true_eq] at h
    exact ⟨rfl, h.1, h.2.1, h.2.2.1, h.2.2.2⟩
theorem two_of {α : Type} : ∀ (l : List α), l.length = 2 → ∃ x y, l = [x, y]
  | [x, y], _ => ⟨x, y, rfl⟩
theorem fit_cases (a b : Int) (c : ByteArray) (f : Int) (l : List S38) (h : fitE ⟨a, b, c, f, l⟩ = true) :
    (a = 1 ∧ l = [] ∧ 0 ≤ b) ∨ (a = 2 ∧ l = [] ∧ nameB (lst c) = true) ∨ (a = 3 ∧ ∃ x, l = [x] ∧ fitE x = true) ∨ (a = 4 ∧ ∃ x, l = [x] ∧ fitE x = true ∧ 19 ≤ f ∧ f ≤ 21) ∨ (a = 5 ∧ ∃ x y, l = [x, y] ∧ fitE x = true ∧ fitE y = true ∧ 1 ≤ f ∧ f ≤ 18) := by
  simp only [fitE, Bool.and_eq_true, beq_iff_eq] at h
  obtain ⟨hw, hf, hl⟩ := h
  unfold fieldsB at hf
  simp only [Bool.and_eq_true] at hf
  obtain ⟨h1, h2, h3⟩ := hf
  unfold wantE at hw
  by_cases a1 : a = 1
  · subst a1
    rw [if_pos rfl] at hw
    refine .inl ⟨rfl, List.eq_nil_of_length_eq_zero (Option.some.inj hw).symm, ?_⟩
    unfold numB at h1
    rw [if_pos rfl] at h1
    exact of_decide_eq_true h1
  rw [if_neg a1] at hw
  by_cases a2 : a = 2
  · subst a2
    rw [if_pos rfl] at hw
    refine .inr (.inl ⟨rfl, List.eq_nil_of_length_eq_zero (Option.some.inj hw).symm, ?_⟩)
    unfold nmB at h2
    rw [if_pos rfl] at h2
    exact h2
  rw [if_neg a2] at hw
  by_cases a3 : a = 3
  · subst a3
    rw [if_pos rfl] at hw
    obtain ⟨x, rfl⟩ := List.length_eq_one_iff.1 (Option.some.inj hw).symm
    refine .inr (.inr (.inl ⟨rfl, x, rfl, ?_⟩))
    simpa [fitL] using hl
  rw [if_neg a3] at hw
  by_cases a4 : a = 4
  · subst a4
    rw [if_pos rfl] at hw
    obtain ⟨x, rfl⟩ := List.length_eq_one_iff.1 (Option.some.inj hw).symm
    unfold opB at h3
    rw [if_pos rfl] at h3
    simp only [Bool.and_eq_true, decide_eq_true_eq] at h3
    refine .inr (.inr (.inr (.inl ⟨rfl, x, rfl, ?_, h3.1, h3.2⟩)))
    simpa [fitL] using hl
  rw [if_neg a4] at hw
  by_cases a5 : a = 5
  · subst a5
    rw [if_pos rfl] at hw
    obtain ⟨x, y, rfl⟩ := two_of l (Option.some.inj hw).symm
    unfold opB at h3
    rw [if_neg (by decide), if_pos rfl] at h3
    simp only [Bool.and_eq_true, decide_eq_true_eq] at h3
    simp only [fitL, Bool.and_true, Bool.and_eq_true] at hl
    exact .inr (.inr (.inr (.inr ⟨rfl, x, y, rfl, hl.1, hl.2, h3.1, h3.2⟩)))
  · rw [if_neg a5] at hw
    cases hw
theorem name_size {c : ByteArray} (h : nameB (lst c) = true) : c.size ≤ 12 := by
  rw [← lst_len]
  unfold nameB at h
  split at h
  · cases h
  · rename_i e
    simp only [Bool.and_eq_true, decide_eq_true_eq] at h
    rw [e]
    exact h.1
theorem brT_size (rk least : Int) (t : ByteArray) : (brT rk least t).size ≤ t.size + 2 := by
  unfold brT
  split
  · simp only [ByteArray.size_append]
    have e1 : (⟨#[40]⟩ : ByteArray).size = 1 := rfl
    have e2 : (⟨#[41]⟩ : ByteArray).size = 1 := rfl
    omega
  · omega
theorem oneT_size (f : Int) : (oneT f).size = 1 := by unfold oneT; split; rfl; split <;> rfl
theorem txt_size_n : ∀ (n : Nat) (e : S38), cntE e ≤ n → fitE e = true → (txt e).size ≤ 20 * cntE e
  | 0, ⟨a, b, c, f, l⟩, hn, h => by simp only [cntE] at hn; omega
  | n + 1, ⟨a, b, c, f, l⟩, hn, h => by
    simp only [cntE] at hn
    rcases fit_cases a b c f l h with ⟨rfl, rfl, hb⟩ | ⟨rfl, rfl, hnm⟩ | ⟨rfl, x, rfl, hx⟩ | ⟨rfl, x, rfl, hx, h0, h1⟩ | ⟨rfl, x, y, rfl, hx, hy, h0, h1⟩
    · show (bs (textB b)).size ≤ _
      rw [size_bs]
      have := textB_len b hb
      simp only [cntE]
      omega
    · show c.size ≤ _
      have := name_size hnm
      simp only [cntE]
      omega
    · simp only [cntL] at hn
      have ih := txt_size_n n x (by omega) hx
      show ((⟨#[109, 91]⟩ ++ txt x) ++ ⟨#[93]⟩ : ByteArray).size ≤ _
      have e1 : (⟨#[109, 91]⟩ : ByteArray).size = 2 := rfl
      have e2 : (⟨#[93]⟩ : ByteArray).size = 1 := rfl
      simp only [ByteArray.size_append, cntE, cntL]
      omega
    · simp only [cntL] at hn
      have ih := txt_size_n n x (by omega) hx
      show (oneT f ++ brT (rkE x) 9 (txt x) : ByteArray).size ≤ _
      have e1 := oneT_size f
      have e2 := brT_size (rkE x) 9 (txt x)
      simp only [ByteArray.size_append, cntE, cntL]
      omega
    · simp only [cntL] at hn
      have ihx := txt_size_n n x (by omega) hx
      have ihy := txt_size_n n y (by omega) hy
      have e1 : (⟨#[109, 105, 110, 40]⟩ : ByteArray).size = 4 := rfl
      have e2 : (⟨#[44, 32]⟩ : ByteArray).size = 2 := rfl
      have e3 : (⟨#[41]⟩ : ByteArray).size = 1 := rfl
      have e4 : (⟨#[109, 97, 120, 40]⟩ : ByteArray).size = 4 := rfl
      have e5 : (⟨#[32]⟩ : ByteArray).size = 1 := rfl
      have e6 := brT_size (rkE x) (sgR f).2 (txt x)
      have e7 := brT_size (rkE y) ((sgR f).2 + 1) (txt y)
      show (if f = 17 then (((⟨#[109, 105, 110, 40]⟩ ++ txt x) ++ ⟨#[44, 32]⟩) ++ txt y) ++ ⟨#[41]⟩ else if f = 18 then (((⟨#[109, 97, 120, 40]⟩ ++ txt x) ++ ⟨#[44, 32]⟩) ++ txt y) ++ ⟨#[41]⟩
      else (((brT (rkE x) (sgR f).2 (txt x) ++ ⟨#[32]⟩) ++ (sgR f).1) ++ ⟨#[32]⟩) ++ brT (rkE y) ((sgR f).2 + 1) (txt y) : ByteArray).size ≤ _
      simp only [cntE, cntL]
      split
      · simp only [ByteArray.size_append]; omega
      split
      · simp only [ByteArray.size_append]; omega
      · have e8 := (sign_facts f h0 (by omega)).2.2.2.2
        simp only [ByteArray.size_append]
        omega
theorem txt_size (e : S38) (h : fitE e = true) : (txt e).size ≤ 20 * cntE e := txt_size_n _ e (Nat.le_refl _) h
end Go.Proofs.Ytobkdmmnbnpemaa.K
