/- The reference's Expr writes txt. Plain. -/
import Derived.Test.YtobkdmmnbnpemaaXEPX2
namespace Go.Proofs.Ytobkdmmnbnpemaa.K
open Go.RowKit Go.Proofs.YtobkdmmnbnpemaaW.PrintWords Go.Proofs.YtobkdmmnbnpemaaW.PrintLast Go.Proofs.YtobkdmmnbnpemaaW.PrintMore
set_option linter.unusedVariables false
set_option linter.unusedSimpArgs false
theorem szd_ok {x : ByteArray} (h : x.size ≤ 1000000000) : szd x = some x := if_pos h
theorem sign_any (f : Int) : outriderref05_Sign.f f = some (sgR f) := by
  unfold sgR
  cases h : outriderref05_Sign.f f with
  | some p => rfl
  | none =>
    exfalso
    unfold outriderref05_Sign.f at h
    by_cases c1 : 1 ≤ f ∧ f ≤ 16
    · have := (sign_facts f c1.1 c1.2).1
      unfold outriderref05_Sign.f at this
      rw [h] at this
      cases this
    · have n : ∀ j : Int, 1 ≤ j → j ≤ 16 → ¬ f = j := fun j a b e => c1 (by omega)
      rw [if_neg (n 1 (by omega) (by omega)), if_neg (n 2 (by omega) (by omega)), if_neg (n 3 (by omega) (by omega)), if_neg (n 4 (by omega) (by omega)), if_neg (n 5 (by omega) (by omega)), if_neg (n 6 (by omega) (by omega)), if_neg (n 7 (by omega) (by omega)), if_neg (n 8 (by omega) (by omega)), if_neg (n 9 (by omega) (by omega)), if_neg (n 10 (by omega) (by omega)), if_neg (n 11 (by omega) (by omega)), if_neg (n 12 (by omega) (by omega)), if_neg (n 13 (by omega) (by omega)), if_neg (n 14 (by omega) (by omega)), if_neg (n 15 (by omega) (by omega)), if_neg (n 16 (by omega) (by omega))] at h
      cases h
theorem between_ok (x : S38) (hx : fitE x = true) : ∃ bt, outriderref05_between.f x.f0 x.f1 x.f2 x.f3 x.f4 = some bt ∧ (bt < 99 ↔ rkE x < 9) ∧ ∀ L, L ≤ 9 → (bt < L ↔ rkE x < L) := by
  obtain ⟨a, b, c, f, l⟩ := x
  unfold outriderref05_between.f rkE
  rw [sign_any, Option.bind_some]
  dsimp only
  rcases fit_cases a b c f l hx with ⟨rfl, rfl, hb⟩ | ⟨rfl, rfl, hnm⟩ | ⟨rfl, x, rfl, hx⟩ | ⟨rfl, x, rfl, hx, h0, h1⟩ | ⟨rfl, x, y, rfl, hx, hy, h0, h1⟩
  · exact ⟨99, rfl, by show (99 : Int) < 99 ↔ (10 : Int) < 9; omega, fun L hL => by show (99 : Int) < L ↔ (10 : Int) < L; omega⟩
  · exact ⟨99, rfl, by show (99 : Int) < 99 ↔ (10 : Int) < 9; omega, fun L hL => by show (99 : Int) < L ↔ (10 : Int) < L; omega⟩
  · exact ⟨99, rfl, by show (99 : Int) < 99 ↔ (10 : Int) < 9; omega, fun L hL => by show (99 : Int) < L ↔ (10 : Int) < L; omega⟩
  · exact ⟨99, rfl, by show (99 : Int) < 99 ↔ (9 : Int) < 9; omega, fun L hL => by show (99 : Int) < L ↔ (9 : Int) < L; omega⟩
  · rw [if_pos rfl, if_pos rfl]
    by_cases q : f = 17
    · subst q
      rw [if_pos rfl]
      exact ⟨99, rfl, by show (99 : Int) < 99 ↔ (10 : Int) < 9; omega, fun L hL => by show (99 : Int) < L ↔ (10 : Int) < L; omega⟩
    rw [if_neg q]
    by_cases q2 : f = 18
    · subst q2
      rw [if_pos rfl]
      exact ⟨99, rfl, by show (99 : Int) < 99 ↔ (10 : Int) < 9; omega, fun L hL => by show (99 : Int) < L ↔ (10 : Int) < L; omega⟩
    rw [if_neg q2]
    obtain ⟨_, _, s3, s4, _⟩ := sign_facts f h0 (by omega)
    rw [if_neg (by omega)]
    exact ⟨_, rfl, by omega, fun L hL => Iff.rfl⟩
theorem refB_ok (g : S38 → Option ByteArray) (x : S38) (hx : fitE x = true) (t : ByteArray) (hg : g x = some t) (ht : t.size ≤ 100000000) :
    refB g x 99 = some (brT (rkE x) 9 t) ∧ ∀ L, L ≤ 9 → refB g x L = some (brT (rkE x) L t) := by
  obtain ⟨bt, h1, h2, h3⟩ := between_ok x hx
  have e1 : (⟨#[40]⟩ : ByteArray).size = 1 := rfl
  have e2 : (⟨#[41]⟩ : ByteArray).size = 1 := rfl
  have hs : szd (⟨#[40]⟩ ++ t ++ ⟨#[41]⟩) = some (⟨#[40]⟩ ++ t ++ ⟨#[41]⟩) := szd_ok (by simp only [ByteArray.size_append]; omega)
  unfold refB brT
  rw [h1, Option.bind_some, hg]
  refine ⟨?_, fun L hL => ?_⟩
  · rw [Option.bind_some]
    by_cases q : bt < 99
    · rw [if_pos q, if_pos (h2.1 q), hs]
    · rw [if_neg q, if_neg (fun z => q (h2.2 z))]
  · rw [Option.bind_some, Option.bind_some]
    by_cases q : bt < L
    · rw [if_pos q, if_pos ((h3 L hL).1 q), hs]
    · rw [if_neg q, if_neg (fun z => q ((h3 L hL).2 z))]
theorem ref_txt : ∀ (d : Nat) (e : S38), deepE e ≤ d → cntE e ≤ 1000000 → fitE e = true → refE 100 d e = some (txt e)
  | 0, ⟨a, b, c, f, l⟩, hd, hc, h => by simp only [deepE] at hd; omega
  | d + 1, ⟨a, b, c, f, l⟩, hd, hc, h => by
    have hsz := txt_size ⟨a, b, c, f, l⟩ h
    simp only [cntE] at hc hsz
    simp only [deepE] at hd
    rw [refE]
    dsimp only
    rcases fit_cases a b c f l h with ⟨rfl, rfl, hb⟩ | ⟨rfl, rfl, hnm⟩ | ⟨rfl, x, rfl, hx⟩ | ⟨rfl, x, rfl, hx, h0, h1⟩ | ⟨rfl, x, y, rfl, hx, hy, h0, h1⟩
    · rw [if_pos rfl, rtext_ok b hb, Option.bind_some]
      exact szd_ok (by simp only [cntL] at hsz; exact Nat.le_trans hsz (by omega))
    · rw [if_neg (by decide), if_pos rfl]
      exact szd_ok (by have := name_size hnm; omega)
    · simp only [cntL, deepL] at hc hsz hd
      have hs := txt_size x hx
      have ih := ref_txt d x (by omega) (by omega) hx
      rw [if_neg (by decide), if_neg (by decide), if_neg (by simp), if_pos rfl, show rd_T38 [x] 0 = x from rfl, ih, Option.bind_some]
      exact szd_ok (Nat.le_trans hsz (by omega))
    · simp only [cntL, deepL] at hc hsz hd
      have hs := txt_size x hx
      have ih := ref_txt d x (by omega) (by omega) hx
      rw [if_neg (by decide), if_neg (by decide), if_neg (by simp), if_neg (by decide), if_pos rfl, show rd_T38 [x] 0 = x from rfl, (refB_ok _ x hx _ ih (by omega)).1, Option.bind_some]
      have e : (if f = 20 then (⟨#[126]⟩ : ByteArray) else if f = 19 then ⟨#[45]⟩ else ⟨#[33]⟩) = oneT f := by
        unfold oneT
        by_cases q : f = 20
        · rw [if_pos q, if_neg (by omega), if_pos q]
        · rw [if_neg q]
          by_cases q2 : f = 19
          · rw [if_pos q2, if_pos q2]
          · rw [if_neg q2, if_neg q2, if_neg q]
      rw [e]
      exact szd_ok (Nat.le_trans hsz (by omega))
    · simp only [cntL, deepL] at hc hsz hd
      have hs := txt_size x hx
      have hs2 := txt_size y hy
      have ih := ref_txt d x (by omega) (by omega) hx
      have ih2 := ref_txt d y (by omega) (by omega) hy
      have hsz' : (txtA 5 b c f [x, y] [txt x, txt y]).size ≤ 1000000000 := Nat.le_trans hsz (by omega)
      have htx : txt ⟨5, b, c, f, [x, y]⟩ = txtA 5 b c f [x, y] [txt x, txt y] := rfl
      rw [if_neg (by decide), if_neg (by decide), if_neg (by simp), if_neg (by decide), if_neg (by decide), if_neg (by simp), sign_any, Option.bind_some, show rd_T38 [x, y] 0 = x from rfl, show rd_T38 [x, y] 1 = y from rfl, htx]
      have hA : txtA 5 b c f [x, y] [txt x, txt y] = if f = 17 then (((⟨#[109, 105, 110, 40]⟩ ++ txt x) ++ ⟨#[44, 32]⟩) ++ txt y) ++ ⟨#[41]⟩ else if f = 18 then (((⟨#[109, 97, 120, 40]⟩ ++ txt x) ++ ⟨#[44, 32]⟩) ++ txt y) ++ ⟨#[41]⟩
        else (((brT (rkE x) (sgR f).2 (txt x) ++ ⟨#[32]⟩) ++ (sgR f).1) ++ ⟨#[32]⟩) ++ brT (rkE y) ((sgR f).2 + 1) (txt y) := rfl
      rw [hA] at hsz' ⊢
      by_cases q : f = 17
      · rw [if_pos q] at hsz' ⊢
        rw [if_pos q, ih, Option.bind_some, ih2, Option.bind_some]
        exact szd_ok hsz'
      rw [if_neg q] at hsz' ⊢
      rw [if_neg q]
      by_cases q2 : f = 18
      · rw [if_pos q2] at hsz' ⊢
        rw [if_pos q2, ih, Option.bind_some, ih2, Option.bind_some]
        exact szd_ok hsz'
      rw [if_neg q2] at hsz' ⊢
      obtain ⟨_, _, s3, s4, s5⟩ := sign_facts f h0 (by omega)
      rw [if_neg q2, if_pos ⟨by omega, by omega, by omega⟩, (refB_ok _ x hx _ ih (by omega)).2 _ (by omega), Option.bind_some, (refB_ok _ y hy _ ih2 (by omega)).2 _ (by omega), Option.bind_some]
      exact szd_ok hsz'
end Go.Proofs.Ytobkdmmnbnpemaa.K
