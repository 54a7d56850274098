/- ShowSigns: the plain law: the signs found by search are those of the document. -/
import Derived.Test.YtobkdmmnbnpemaaLSigns
namespace Go.Proofs.Ytobkdmmnbnpemaa.K
open Go.RowKit Go.Proofs.YtobkdmmnbnpemaaW.PrintWords Go.Proofs.YtobkdmmnbnpemaaW.PrintLast Go.Proofs.YtobkdmmnbnpemaaW.PrintMore
set_option linter.unusedVariables false

def sgL : List ByteArray := [(⟨#[124]⟩ : ByteArray), (⟨#[94]⟩ : ByteArray), (⟨#[38]⟩ : ByteArray), (⟨#[61, 61]⟩ : ByteArray), (⟨#[33, 61]⟩ : ByteArray), (⟨#[60]⟩ : ByteArray), (⟨#[60, 61]⟩ : ByteArray), (⟨#[62]⟩ : ByteArray), (⟨#[62, 61]⟩ : ByteArray), (⟨#[60, 60]⟩ : ByteArray), (⟨#[62, 62]⟩ : ByteArray), (⟨#[43]⟩ : ByteArray), (⟨#[45]⟩ : ByteArray), (⟨#[42]⟩ : ByteArray), (⟨#[47]⟩ : ByteArray), (⟨#[37]⟩ : ByteArray)]
def rankOk (o : Option (Int × Int)) : Bool := match o with | none => false | some p => decide (1 ≤ p.2) && decide (p.2 ≤ 16)
theorem rank_in : ∀ j : Fin 16, rankOk (tree_Rank.f (rdOf ByteArray.empty sgL (j.val : Int))) = true := by decide +kernel
def okSign (a : Int) : Bool :=
  match show_Sign.f 20 a, outriderref05_Sign.f a with
  | some (s, r), some (s', r') => s.toList == s'.toList && r == r' && !s.toList.isEmpty && (match tree_Rank.f s with | some (x, y) => x == r && y == a | none => false)
  | _, _ => false
theorem signs_in : ∀ j : Fin 16, okSign ((j.val : Int) + 1) = true := by decide +kernel
theorem sign_none (a : Int) (h : ¬ (1 ≤ a ∧ a ≤ 16)) : ∀ (d j : Nat), j + d = 16 → show_Sign.l0 (d + 1) a sgL 16 (j : Int) = some ((⟨#[]⟩ : ByteArray), 0)
  | 0, j, hj => by rw [show_Sign.l0, if_neg (by omega)]
  | d + 1, j, hj => by
    have hr := rank_in ⟨j, by omega⟩
    have h16 : sgL.length = 16 := rfl
    have hw : wrap64 ((j : Int) + 1) = ((j + 1 : Nat) : Int) := by unfold wrap64; omega
    rw [show_Sign.l0, if_pos (by omega), if_pos (by omega), if_pos (by omega)]
    simp only at hr
    cases hq : tree_Rank.f (rdOf ByteArray.empty sgL (j : Int)) with
    | none => rw [hq] at hr; simp [rankOk] at hr
    | some p =>
      rw [hq] at hr
      have hp : 1 ≤ p.2 ∧ p.2 ≤ 16 := by simpa [rankOk] using hr
      rw [Option.bind_some, if_neg (fun e => h (by rw [← e]; exact hp)), hw]
      exact sign_none a h d (j + 1) (by omega)
theorem ref_none (a : Int) (h : ¬ (1 ≤ a ∧ a ≤ 16)) : outriderref05_Sign.f a = some ((⟨#[]⟩ : ByteArray), 0) := by
  unfold outriderref05_Sign.f
  repeat rw [if_neg (by omega)]
theorem ShowSigns : outriderlaw05_ShowSigns.Pure := by
  intro a _
  refine ⟨20, ?_⟩
  have hal : outriderlaw05_alive.f = some true := rfl
  unfold outriderlaw05_ShowSigns.f
  by_cases h : 1 ≤ a ∧ a ≤ 16
  · have ho := signs_in ⟨(a - 1).toNat, by omega⟩
    have ea : (((a - 1).toNat : Nat) : Int) + 1 = a := by omega
    simp only at ho
    rw [ea] at ho
    unfold okSign at ho
    cases h1 : show_Sign.f 20 a with
    | none => rw [h1] at ho; simp at ho
    | some p =>
      obtain ⟨s, r⟩ := p
      cases h2 : outriderref05_Sign.f a with
      | none => rw [h1, h2] at ho; simp at ho
      | some q =>
        obtain ⟨s', r'⟩ := q
        rw [h1, h2] at ho
        simp only at ho
        cases h3 : tree_Rank.f s with
        | none => rw [h3] at ho; simp at ho
        | some z =>
          obtain ⟨x, y⟩ := z
          rw [h3] at ho
          simp only [Bool.and_eq_true, beq_iff_eq, Bool.not_eq_true', List.isEmpty_eq_false_iff] at ho
          obtain ⟨⟨⟨e1, e2⟩, e3⟩, e4, e5⟩ := ho
          rw [Option.bind_some, Option.bind_some]
          simp only
          rw [h3, Option.bind_some, if_pos e1, if_pos e2, if_neg e3, if_pos e4, if_pos e5, hal]
          rfl
  · have h1 : show_Sign.f 20 a = some ((⟨#[]⟩ : ByteArray), 0) := by
      have h17 := sign_none a h 16 0 (by omega)
      have h20 := at_rounds (g := fun k => show_Sign.l0 k a sgL 16 ((0 : Nat) : Int)) (fun k => show_Sign.mono_l k _ _ _ _) (show 16 + 1 ≤ 20 by omega) h17
      exact h20
    have h3 : tree_Rank.f (⟨#[]⟩ : ByteArray) = some (0, 0) := by decide +kernel
    rw [h1, Option.bind_some, ref_none a h, Option.bind_some]
    simp only
    rw [h3, Option.bind_some, if_pos trivial, if_pos trivial, if_pos (show (⟨#[]⟩ : ByteArray).toList = [] by rw [toList_eq]), hal]
    rfl
end Go.Proofs.Ytobkdmmnbnpemaa.K
