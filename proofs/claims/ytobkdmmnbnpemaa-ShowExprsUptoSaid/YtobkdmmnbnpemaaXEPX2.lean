/- The program's expr and the reference's Expr write txt. Plain. -/
import Derived.Test.YtobkdmmnbnpemaaXEPX1
namespace Go.Proofs.Ytobkdmmnbnpemaa.K
open Go.RowKit Go.Proofs.YtobkdmmnbnpemaaW.PrintWords Go.Proofs.YtobkdmmnbnpemaaW.PrintLast Go.Proofs.YtobkdmmnbnpemaaW.PrintMore
set_option linter.unusedVariables false
set_option linter.unusedSimpArgs false
theorem piece_ok (t : ByteArray) (rk least : Int) (h : t.size ≤ 100000000) : show_piece_in.f t rk least = some (brT rk least t) := by
  unfold show_piece_in.f brT
  by_cases q : rk < least
  · have e1 : (⟨#[40]⟩ : ByteArray).size = 1 := rfl
    rw [if_pos q, if_pos q, if_pos (by omega), if_pos (by rw [ByteArray.size_append]; omega)]
  · rw [if_neg q, if_neg q]
theorem one_ok (f : Int) : show_one.f f = some (oneT f) := by
  unfold show_one.f oneT
  by_cases h : f = 19
  · rw [if_pos h, if_pos h]
  · rw [if_neg h, if_neg h]
    by_cases g : f = 20
    · rw [if_pos g, if_pos g]
    · rw [if_neg g, if_neg g]
theorem l0_one (k : Nat) (x : S38) (t : ByteArray) (r : Int) (a b : Int) (c : ByteArray) (f : Int) (h : show_expr.f (k + 1) x.f0 x.f1 x.f2 x.f3 x.f4 = some (t, r)) :
    show_expr.l0 (k + 2) [] [x] (([x] : List S38).length : Int) 0 a b c f [x] = if a = 3 then show_expr.j1 k [⟨t, r⟩] true a b c f [x] else show_expr.j1 k [⟨t, r⟩] false a b c f [x] := by
  have hw : wrap64 ((0 : Int) + 1) = 1 := by unfold wrap64; omega
  rw [show_expr.l0, if_pos (by simp), if_pos (by decide), if_pos (by simp), show rd_T38 [x] 0 = x from rfl, h, Option.bind_some, if_pos (by simp), hw, show_expr.l0, if_neg (by simp)]
  rfl
theorem l0_two (k : Nat) (x y : S38) (t : ByteArray) (r : Int) (u : ByteArray) (s : Int) (a b : Int) (c : ByteArray) (f : Int) (h : show_expr.f (k + 2) x.f0 x.f1 x.f2 x.f3 x.f4 = some (t, r)) (g : show_expr.f (k + 1) y.f0 y.f1 y.f2 y.f3 y.f4 = some (u, s)) (ha : a ≠ 3) :
    show_expr.l0 (k + 3) [] [x, y] (([x, y] : List S38).length : Int) 0 a b c f [x, y] = show_expr.j1 k [⟨t, r⟩, ⟨u, s⟩] false a b c f [x, y] := by
  have hw : wrap64 ((0 : Int) + 1) = 1 := by unfold wrap64; omega
  have hw2 : wrap64 ((1 : Int) + 1) = 2 := by unfold wrap64; omega
  have hl : (([x, y] : List S38).length : Int) = 2 := rfl
  rw [hl, show_expr.l0, if_pos (by decide), if_pos (by decide), hl, if_pos (by decide), show rd_T38 [x, y] 0 = x from rfl, h, Option.bind_some, if_pos (by simp), hw, show_expr.l0, if_pos (by decide), if_pos (by decide), hl, if_pos (by decide), show rd_T38 [x, y] 1 = y from rfl, g, Option.bind_some, if_pos (by simp), hw2, show_expr.l0, if_neg (by decide), if_neg ha]
  rfl
theorem two_ok (k : Nat) (hk : 60 ≤ k) (f : Int) (h0 : 1 ≤ f) (h1 : f ≤ 18) (t u : ByteArray) (r s : Int) (ht : t.size ≤ 20000000) (hu : u.size ≤ 20000000) :
    show_two.f k f t r u s = some ((if f = 17 then (((⟨#[109, 105, 110, 40]⟩ ++ t) ++ ⟨#[44, 32]⟩) ++ u) ++ ⟨#[41]⟩ else if f = 18 then (((⟨#[109, 97, 120, 40]⟩ ++ t) ++ ⟨#[44, 32]⟩) ++ u) ++ ⟨#[41]⟩ else (((brT r (sgR f).2 t ++ ⟨#[32]⟩) ++ (sgR f).1) ++ ⟨#[32]⟩) ++ brT s ((sgR f).2 + 1) u : ByteArray), (if f = 17 then 10 else if f = 18 then 10 else (sgR f).2)) := by
  have e1 : (⟨#[109, 105, 110, 40]⟩ : ByteArray).size = 4 := rfl
  have e2 : (⟨#[44, 32]⟩ : ByteArray).size = 2 := rfl
  have e3 : (⟨#[41]⟩ : ByteArray).size = 1 := rfl
  have e4 : (⟨#[109, 97, 120, 40]⟩ : ByteArray).size = 4 := rfl
  have e5 : (⟨#[32]⟩ : ByteArray).size = 1 := rfl
  unfold show_two.f
  by_cases q : f = 17
  · rw [if_pos q, if_pos q, if_pos q]
    rw [if_pos (by omega), if_pos (by simp only [ByteArray.size_append]; omega), if_pos (by simp only [ByteArray.size_append]; omega), if_pos (by simp only [ByteArray.size_append]; omega)]
  rw [if_neg q, if_neg q, if_neg q]
  by_cases q2 : f = 18
  · rw [if_pos q2, if_pos q2, if_pos q2]
    rw [if_pos (by omega), if_pos (by simp only [ByteArray.size_append]; omega), if_pos (by simp only [ByteArray.size_append]; omega), if_pos (by simp only [ByteArray.size_append]; omega)]
  rw [if_neg q2, if_neg q2, if_neg q2]
  obtain ⟨s1, s2, s3, s4, s5⟩ := sign_facts f h0 (by omega)
  have s6 : show_Sign.f k f = some (sgR f) := at_rounds (g := fun k => show_Sign.f k f) (fun k => show_Sign.mono _ k) hk s2
  have b1 := brT_size r (sgR f).2 t
  have b2 := brT_size s ((sgR f).2 + 1) u
  have hw : wrap64 ((sgR f).2 + 1) = (sgR f).2 + 1 := by unfold wrap64; omega
  rw [s6, Option.bind_some, piece_ok _ _ _ (by omega), Option.bind_some, if_pos (by omega), if_pos (by simp only [ByteArray.size_append]; omega), if_pos (by simp only [ByteArray.size_append]; omega), hw, piece_ok _ _ _ (by omega), Option.bind_some, if_pos (by simp only [ByteArray.size_append]; omega)]
theorem show_n : ∀ (n : Nat) (e : S38), cntE e ≤ n → n ≤ 1000000 → fitE e = true → ∃ k0, ∀ k, k0 ≤ k → show_expr.f k e.f0 e.f1 e.f2 e.f3 e.f4 = some (txt e, rkE e)
  | 0, ⟨a, b, c, f, l⟩, hn, hm, h => by simp only [cntE] at hn; omega
  | n + 1, ⟨a, b, c, f, l⟩, hn, hm, h => by
    have hsz := txt_size ⟨a, b, c, f, l⟩ h
    simp only [cntE] at hn
    rcases fit_cases a b c f l h with ⟨rfl, rfl, hb⟩ | ⟨rfl, rfl, hnm⟩ | ⟨rfl, x, rfl, hx⟩ | ⟨rfl, x, rfl, hx, h0, h1⟩ | ⟨rfl, x, y, rfl, hx, hy, h0, h1⟩
    · refine ⟨1, fun k hk => ?_⟩
      obtain ⟨k, rfl⟩ : ∃ j, k = j + 1 := ⟨k - 1, by omega⟩
      have hnt : num_Text.f b = some (bs (textB b)) := by unfold num_Text.f; rw [if_neg (by omega)]
      show show_expr.f (k + 1) 1 b c f [] = _
      rw [show_expr.f, if_pos rfl, hnt]
      rfl
    · refine ⟨1, fun k hk => ?_⟩
      obtain ⟨k, rfl⟩ : ∃ j, k = j + 1 := ⟨k - 1, by omega⟩
      show show_expr.f (k + 1) 2 b c f [] = _
      rw [show_expr.f, if_neg (by decide), if_pos rfl]
      rfl
    · simp only [cntL] at hn
      have hs := txt_size x hx
      obtain ⟨k1, hk1⟩ := show_n n x (by omega) (by omega) hx
      refine ⟨k1 + 4, fun k hk => ?_⟩
      obtain ⟨k, rfl⟩ : ∃ j, k = j + 4 := ⟨k - 4, by omega⟩
      have e1 : (⟨#[109, 91]⟩ : ByteArray).size = 2 := rfl
      have e2 : (⟨#[93]⟩ : ByteArray).size = 1 := rfl
      show show_expr.f (k + 4) 3 b c f [x] = _
      rw [show_expr.f, if_neg (by decide), if_neg (by decide), l0_one (k + 1) x _ _ 3 b c f (hk1 (k + 2) (by omega)), if_pos rfl, show_expr.j1, if_pos rfl, if_pos (by simp), show rd_T70 [⟨txt x, rkE x⟩] 0 = ⟨txt x, rkE x⟩ from rfl]
      dsimp only
      rw [if_pos (by omega), if_pos (by simp only [ByteArray.size_append]; omega)]
      rfl
    · simp only [cntL] at hn
      have hs := txt_size x hx
      obtain ⟨k1, hk1⟩ := show_n n x (by omega) (by omega) hx
      refine ⟨k1 + 5, fun k hk => ?_⟩
      obtain ⟨k, rfl⟩ : ∃ j, k = j + 5 := ⟨k - 5, by omega⟩
      have e1 := oneT_size f
      have e2 := brT_size (rkE x) 9 (txt x)
      show show_expr.f (k + 5) 4 b c f [x] = _
      rw [show_expr.f, if_neg (by decide), if_neg (by decide), l0_one (k + 2) x _ _ 4 b c f (hk1 (k + 3) (by omega)), if_neg (by decide), show_expr.j1, if_neg (by decide), if_pos rfl, show ((([⟨txt x, rkE x⟩] : List S70).length : Int) == 1) = true from rfl, show_expr.j2, if_pos rfl, one_ok, Option.bind_some, if_pos (by simp), show rd_T70 [⟨txt x, rkE x⟩] 0 = ⟨txt x, rkE x⟩ from rfl]
      dsimp only
      rw [piece_ok _ _ _ (by omega), Option.bind_some, if_pos (by omega)]
      rfl
    · simp only [cntL] at hn
      have hs := txt_size x hx
      have hs2 := txt_size y hy
      obtain ⟨k1, hk1⟩ := show_n n x (by omega) (by omega) hx
      obtain ⟨k2, hk2⟩ := show_n n y (by omega) (by omega) hy
      refine ⟨k1 + k2 + 66, fun k hk => ?_⟩
      obtain ⟨k, rfl⟩ : ∃ j, k = j + 6 := ⟨k - 6, by omega⟩
      show show_expr.f (k + 6) 5 b c f [x, y] = _
      have hl : (([⟨txt x, rkE x⟩, ⟨txt y, rkE y⟩] : List S70).length : Int) = 2 := rfl
      rw [show_expr.f, if_neg (by decide), if_neg (by decide), l0_two (k + 2) x y _ _ _ _ 5 b c f (hk1 (k + 4) (by omega)) (hk2 (k + 3) (by omega)) (by decide), show_expr.j1, if_neg (by decide), if_neg (by decide), show_expr.j2, if_neg (by decide), if_pos rfl, hl, if_pos rfl, if_pos (by decide), if_pos (by decide), show rd_T70 [⟨txt x, rkE x⟩, ⟨txt y, rkE y⟩] 0 = ⟨txt x, rkE x⟩ from rfl, show rd_T70 [⟨txt x, rkE x⟩, ⟨txt y, rkE y⟩] 1 = ⟨txt y, rkE y⟩ from rfl]
      dsimp only
      rw [two_ok k (by omega) f h0 h1 _ _ _ _ (by omega) (by omega), Option.bind_some]
      rfl
theorem ex_txt (e : S38) (hc : cntE e ≤ 1000000) (h : fitE e = true) : ∃ k0, ∀ k, k0 ≤ k → exT k e = some (txt e) := by
  obtain ⟨k0, hk⟩ := show_n 1000000 e hc (Nat.le_refl _) h
  refine ⟨k0, fun k h => ?_⟩
  unfold exT show_Expr.f
  rw [hk k h]
  rfl
end Go.Proofs.Ytobkdmmnbnpemaa.K
