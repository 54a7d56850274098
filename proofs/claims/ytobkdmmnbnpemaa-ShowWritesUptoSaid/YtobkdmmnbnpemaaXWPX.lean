/- The reference's Text of a number = the program's. Plain. -/
import Derived.Test.YtobkdmmnbnpemaaXWR4
import Derived.Test.YtobkdmmnbnpemaaXWT1
import Derived.Lib.EndianBits
import Derived.Test.YtobkdmmnbnpemaaXWPR0
import Derived.Test.YtobkdmmnbnpemaaXWY5
import Derived.Test.YtobkdmmnbnpemaaXWD1
namespace Go.Proofs.Ytobkdmmnbnpemaa.K
open Go.RowKit Go.Proofs.YtobkdmmnbnpemaaW.PrintWords Go.Proofs.YtobkdmmnbnpemaaW.PrintLast Go.Proofs.YtobkdmmnbnpemaaW.PrintMore
set_option linter.unusedVariables false
set_option linter.unusedSimpArgs false
theorem bit_or (a b : Int) (h0 : 0 ≤ a) (h1 : a < 9223372036854775808) (b0 : 0 ≤ b) (b1 : b < 2) : Go.bits .or .u64 (IntKind.u64.wrap (a * 2)) b = a * 2 + b := by
  rw [Go.wraps_u64 (a * 2) (by omega) (by omega)]
  exact Go.bits_join .u64 64 (by decide) Go.wraps_u64 1 (a * 2) b (by omega) (by omega) (by omega) b0 (by omega) (by omega)
theorem bit_and (x : Int) (h0 : 0 ≤ x) (h1 : x < 18446744073709551616) : Go.bits .and .u64 x 1 = x % 2 := by
  have h := Go.bits_mask .u64 64 (by decide) Go.wraps_u64 1 (by decide) x h0 (by omega)
  simpa using h
theorem shr_at (x : Int) (i : Nat) (hi : i ≤ 63) : shr .u64 x (IntKind.u64.wrap (i : Int)) = x / 2 ^ i := by
  rw [Go.wraps_u64 (i : Int) (by omega) (by omega)]
  unfold shr
  rw [Int.toNat_natCast, show min i (IntKind.bits .u64) = i from Nat.min_eq_left (by show i ≤ 64; omega)]
theorem long_l0 (x : Int) (hx0 : 0 ≤ x) (hx1 : x < 18446744073709551616) : ∀ (j : Nat), j ≤ 64 → ∀ q r : Int, 0 ≤ q → 0 ≤ r → r < 10 → q * 10 + r = x / 2 ^ j → outriderref01_Long.l0 (j + 1) x 10 q r ((j : Int) - 1) = some (x / 10, x % 10)
  | 0, hj, q, r, hq, hr0, hr1, h => by
    rw [outriderref01_Long.l0, if_neg (by omega)]
    have : q * 10 + r = x := by rw [h]; simp
    have e1 : q = x / 10 := by omega
    have e2 : r = x % 10 := by omega
    rw [e1, e2]
  | j + 1, hj, q, r, hq, hr0, hr1, h => by
    have ex : x / 2 ^ (j + 1) = x / 2 ^ j / 2 := by rw [Int.pow_succ, Int.ediv_ediv_of_nonneg (by exact Int.pow_nonneg (by decide))]
    have hlt : x / 2 ^ j ≤ x := Int.ediv_le_self _ hx0
    have hge : 0 ≤ x / 2 ^ j := Int.ediv_nonneg hx0 (Int.pow_nonneg (by decide))
    generalize hy : x / 2 ^ j = y at *
    have hs : shr .u64 x (IntKind.u64.wrap (j : Int)) = y := by rw [shr_at x j (by omega), hy]
    have hb : Go.bits .and .u64 (shr .u64 x (IntKind.u64.wrap (((j + 1 : Nat) : Int) - 1))) 1 = y % 2 := by
      rw [show (((j + 1 : Nat) : Int) - 1) = (j : Int) by omega, hs, bit_and y hge (by omega)]
    have hw1 : wrap64 (((j + 1 : Nat) : Int) - 1 - 1) = (j : Int) - 1 := by unfold wrap64; omega
    have hw2 : 0 ≤ IntKind.u64.wrap (((j + 1 : Nat) : Int) - 1) := by rw [Go.wraps_u64 _ (by omega) (by omega)]; omega
    rw [outriderref01_Long.l0, if_pos (by omega), if_pos hw2, if_neg (by omega), hb, bit_or r (y % 2) hr0 (by omega) (by omega) (by omega), hw1, bit_or q 1 hq (by omega) (by omega) (by omega), Go.wraps_u64 (q * 2) (by omega) (by omega)]
    by_cases c : r * 2 + y % 2 ≥ 10
    · rw [if_pos c, Go.wraps_u64 _ (by omega) (by omega)]
      exact long_l0 x hx0 hx1 j (by omega) (q * 2 + 1) (r * 2 + y % 2 - 10) (by omega) (by omega) (by omega) (by rw [hy]; omega)
    · rw [if_neg c]
      exact long_l0 x hx0 hx1 j (by omega) (q * 2) (r * 2 + y % 2) (by omega) (by omega) (by omega) (by rw [hy]; omega)
theorem long_ok (x : Int) (hx0 : 0 ≤ x) (hx1 : x < 18446744073709551616) (k : Nat) (hk : 65 ≤ k) : outriderref01_Long.f k x 10 = some (x / 10, x % 10) :=
  at_rounds (g := fun k => outriderref01_Long.f k x 10) (fun k => outriderref01_Long.mono _ _ k) hk (long_l0 x hx0 hx1 64 (Nat.le_refl _) 0 0 (by decide) (by decide) (by decide) (by rw [Int.ediv_eq_zero_of_lt hx0 (by omega)]; rfl))
theorem digit_bs (u : Nat) : strOfNums [(IntKind.u64.wrap (48 + ((u : Int) % 10))) % 256] = bs [dgB u] := by
  have e : (IntKind.u64.wrap (48 + ((u : Int) % 10))) % 256 = 48 + ((u : Int) % 10) := by rw [Go.wraps_u64 _ (by omega) (by omega)]; omega
  rw [e]
  have h10 : u % 10 < 10 := Nat.mod_lt _ (by decide)
  have e2 : (48 + ((u : Int) % 10)) = ((48 + u % 10 : Nat) : Int) := by omega
  rw [e2]
  unfold strOfNums dgB bs
  rfl
theorem bs_app (a b : List UInt8) : bs a ++ bs b = bs (a ++ b) := by
  apply ByteArray.ext
  simp [bs]
theorem size_bs (l : List UInt8) : (bs l).size = l.length := by rw [← lst_len, lst_bs]
theorem text_step (a0 : Int) (k : Nat) (hk : 65 ≤ k) (u : Nat) (hu : u < 18446744073709551616) (ds : List UInt8) (hl : ds.length ≤ 1000) (h : 0 < u ∨ ds = []) :
    outriderref01_Text.l0 (k + 1) a0 (u : Int) (bs ds) = outriderref01_Text.l0 k a0 ((u / 10 : Nat) : Int) (bs (dgB u :: ds)) := by
  have e1 : ((u : Int) / 10) = ((u / 10 : Nat) : Int) := by omega
  have hsz : (strOfNums [(IntKind.u64.wrap (48 + ((u : Int) % 10))) % 256]).size + (bs ds).size ≤ 9223372036854775807 := by
    rw [digit_bs, size_bs, size_bs]
    simp only [List.length_singleton]
    omega
  have hs : strOfNums [(IntKind.u64.wrap (48 + ((u : Int) % 10))) % 256] ++ bs ds = bs (dgB u :: ds) := by rw [digit_bs, bs_app]; rfl
  rw [outriderref01_Text.l0]
  by_cases c : (u : Int) > 0
  · rw [if_pos c, long_ok _ (by omega) (by omega) k hk, Option.bind_some, Option.bind_some]
    dsimp only
    rw [if_pos hsz, hs, e1]
  · have hd : ds = [] := by rcases h with z | z; omega; exact z
    rw [if_neg c, if_pos (by rw [toList_eq]; show lst (bs ds) = []; rw [lst_bs, hd]), long_ok _ (by omega) (by omega) k hk, Option.bind_some, Option.bind_some]
    dsimp only
    rw [if_pos hsz, hs, e1]
theorem text_end (a0 : Int) (ha : 0 ≤ a0) (k : Nat) (d : UInt8) (ds : List UInt8) : outriderref01_Text.l0 (k + 1) a0 ((0 : Nat) : Int) (bs (d :: ds)) = some (bs (d :: ds)) := by
  rw [outriderref01_Text.l0, if_neg (by omega), if_neg (by rw [toList_eq]; show ¬ lst (bs (d :: ds)) = []; rw [lst_bs]; simp), if_neg (by omega)]
theorem text_l0 (a0 : Int) (ha : 0 ≤ a0) : ∀ (n : Nat) (u : Nat) (ds : List UInt8), u < 18446744073709551616 → u < 10 ^ (n + 1) → ds.length + n ≤ 1000 → (0 < u ∨ ds = []) → ∃ k, (66 ≤ k ∧ k ≤ 67 + n) ∧ outriderref01_Text.l0 k a0 (u : Int) (bs ds) = some (bs (decR (n + 1) u ds))
  | 0, u, ds, hu, h10, hds, hz => by
    refine ⟨67, ⟨by omega, by omega⟩, ?_⟩
    have q : u / 10 = 0 := by omega
    rw [text_step a0 66 (by omega) u hu ds (by omega) hz, q, text_end a0 ha, decR, if_pos q]
  | n + 1, u, ds, hu, h10, hds, hz => by
    by_cases q : u / 10 = 0
    · refine ⟨67, ⟨by omega, by omega⟩, ?_⟩
      rw [text_step a0 66 (by omega) u hu ds (by omega) hz, q, text_end a0 ha, decR, if_pos q]
    · obtain ⟨k, hk, h⟩ := text_l0 a0 ha n (u / 10) (dgB u :: ds) (by omega) (by rw [Nat.pow_succ] at h10; omega) (by simp only [List.length_cons]; omega) (.inl (by omega))
      refine ⟨k + 1, ⟨by omega, by omega⟩, ?_⟩
      rw [text_step a0 k (by omega) u hu ds (by omega) hz, h, show decR (n + 1 + 1) u ds = decR (n + 1) (u / 10) (dgB u :: ds) from if_neg q]
theorem rtext_ok (a : Int) (ha : 0 ≤ a) : outriderref01_Text.f 100 a = some (bs (textB a)) := by
  obtain ⟨k, hk, h⟩ := text_l0 a ha 19 (sizeB a) [] (sizeB_lt a) (by have := sizeB_lt a; omega) (by simp) (.inr rfl)
  refine at_rounds (g := fun k => outriderref01_Text.f k a) (fun k => outriderref01_Text.mono _ k) (show k ≤ 100 by omega) ?_
  have e : outriderref01_size.f a = some ((sizeB a : Nat) : Int) := by
    unfold outriderref01_size.f sizeB
    rw [if_neg (by omega), if_neg (by omega)]
    congr 1
    rw [IntKind.wrap_u64]
    omega
  show outriderref01_Text.f k a = _
  unfold outriderref01_Text.f
  rw [e, Option.bind_some]
  unfold textB
  rw [if_neg (by omega)]
  exact h
theorem decR_len : ∀ (k u : Nat) (ds : List UInt8), (decR k u ds).length ≤ k + ds.length
  | 0, u, ds => by simp [decR]
  | k + 1, u, ds => by
    unfold decR
    split
    · simp only [List.length_cons]; omega
    · have := decR_len k (u / 10) (dgB u :: ds)
      simp only [List.length_cons] at this
      omega
theorem textB_len (a : Int) (ha : 0 ≤ a) : (textB a).length ≤ 20 := by
  unfold textB
  rw [if_neg (by omega)]
  have := decR_len 20 (sizeB a) []
  simpa using this
end Go.Proofs.Ytobkdmmnbnpemaa.K
namespace Go.Proofs.Ytobkdmmnbnpemaa.K
open Go.RowKit Go.Proofs.YtobkdmmnbnpemaaW.PrintWords Go.Proofs.YtobkdmmnbnpemaaW.PrintLast Go.Proofs.YtobkdmmnbnpemaaW.PrintMore
set_option linter.unusedVariables false
set_option linter.unusedSimpArgs false
def sgR (f : Int) : ByteArray × Int := (outriderref05_Sign.f f).getD (⟨#[]⟩, 0)
def rkE (e : S38) : Int := if e.f0 = 5 then (if e.f3 = 17 then 10 else if e.f3 = 18 then 10 else (sgR e.f3).2) else if e.f0 = 4 then 9 else 10
def brT (rk least : Int) (t : ByteArray) : ByteArray := if rk < least then (⟨#[40]⟩ ++ t) ++ ⟨#[41]⟩ else t
def oneT (f : Int) : ByteArray := if f = 19 then ⟨#[45]⟩ else if f = 20 then ⟨#[126]⟩ else ⟨#[33]⟩
def txtA (a b : Int) (c : ByteArray) (f : Int) (l : List S38) (ts : List ByteArray) : ByteArray :=
  if a = 1 then bs (textB b) else if a = 2 then c
  else match l, ts with
  | [x], [t] => if a = 3 then (⟨#[109, 91]⟩ ++ t) ++ ⟨#[93]⟩ else oneT f ++ brT (rkE x) 9 t
  | [x, y], [t, u] => if f = 17 then (((⟨#[109, 105, 110, 40]⟩ ++ t) ++ ⟨#[44, 32]⟩) ++ u) ++ ⟨#[41]⟩ else if f = 18 then (((⟨#[109, 97, 120, 40]⟩ ++ t) ++ ⟨#[44, 32]⟩) ++ u) ++ ⟨#[41]⟩
    else (((brT (rkE x) (sgR f).2 t ++ ⟨#[32]⟩) ++ (sgR f).1) ++ ⟨#[32]⟩) ++ brT (rkE y) ((sgR f).2 + 1) u
  | _, _ => ⟨#[]⟩
mutual
def txt : S38 → ByteArray
  | ⟨a, b, c, f, l⟩ => txtA a b c f l (txtL l)
def txtL : List S38 → List ByteArray
  | [] => []
  | x :: xs => txt x :: txtL xs
end
theorem signs_all : ∀ j : Fin 16, (match outriderref05_Sign.f ((j.val : Int) + 1) with | some (s, r) => decide (show_Sign.f 60 ((j.val : Int) + 1) = some (s, r)) && (decide (1 ≤ r) && (decide (r ≤ 8) && decide (s.size ≤ 2))) | none => false) = true := by decide +kernel
theorem sign_facts (f : Int) (h0 : 1 ≤ f) (h1 : f ≤ 16) : outriderref05_Sign.f f = some (sgR f) ∧ show_Sign.f 60 f = some (sgR f) ∧ 1 ≤ (sgR f).2 ∧ (sgR f).2 ≤ 8 ∧ (sgR f).1.size ≤ 2 := by
  have h := signs_all ⟨(f - 1).toNat, by omega⟩
  have e : (((f - 1).toNat : Nat) : Int) + 1 = f := by omega
  simp only [e] at h
  unfold sgR
  cases hs : outriderref05_Sign.f f with
  | none => rw [hs] at h; cases h
  | some p =>
    rw [hs] at h
    obtain ⟨s, r⟩ := p
    simp only [Bool.and_eq_true, decide_eq_true_eq] at h
    exact ⟨rfl, h.1, h.2.1, h.2.2.1, h.2.2.2⟩
theorem two_of {α : Type} : ∀ (l : List α), l.length = 2 → ∃ x y, l = [x, y]
  | [x, y], _ => ⟨x, y, rfl⟩
theorem fit_cases (a b : Int) (c : ByteArray) (f : Int) (l : List S38) (h : fitE ⟨a, b, c, f, l⟩ = true) :
    (a = 1 ∧ l = [] ∧ 0 ≤ b) ∨ (a = 2 ∧ l = [] ∧ nameB (lst c) = true) ∨ (a = 3 ∧ ∃ x, l = [x] ∧ fitE x = true) ∨ (a = 4 ∧ ∃ x, l = [x] ∧ fitE x = true ∧ 19 ≤ f ∧ f ≤ 21) ∨ (a = 5 ∧ ∃ x y, l = [x, y] ∧ fitE x = true ∧ fitE y = true ∧ 1 ≤ f ∧ f ≤ 18) := by
  simp only [fitE, Bool.and_eq_true, beq_iff_eq] at h
  obtain ⟨hw, hf, hl⟩ := h
  unfold fieldsB at hf
  simp only [Bool.and_eq_true] at hf
  obtain ⟨h1, h2, h3⟩ := hf
  unfold wantE at hw
  by_cases a1 : a = 1
  · subst a1
    rw [if_pos rfl] at hw
    refine .inl ⟨rfl, List.eq_nil_of_length_eq_zero (Option.some.inj hw).symm, ?_⟩
    unfold numB at h1
    rw [if_pos rfl] at h1
    exact of_decide_eq_true h1
  rw [if_neg a1] at hw
  by_cases a2 : a = 2
  · subst a2
    rw [if_pos rfl] at hw
    refine .inr (.inl ⟨rfl, List.eq_nil_of_length_eq_zero (Option.some.inj hw).symm, ?_⟩)
    unfold nmB at h2
    rw [if_pos rfl] at h2
    exact h2
  rw [if_neg a2] at hw
  by_cases a3 : a = 3
  · subst a3
    rw [if_pos rfl] at hw
    obtain ⟨x, rfl⟩ := List.length_eq_one_iff.1 (Option.some.inj hw).symm
    refine .inr (.inr (.inl ⟨rfl, x, rfl, ?_⟩))
    simpa [fitL] using hl
  rw [if_neg a3] at hw
  by_cases a4 : a = 4
  · subst a4
    rw [if_pos rfl] at hw
    obtain ⟨x, rfl⟩ := List.length_eq_one_iff.1 (Option.some.inj hw).symm
    unfold opB at h3
    rw [if_pos rfl] at h3
    simp only [Bool.and_eq_true, decide_eq_true_eq] at h3
    refine .inr (.inr (.inr (.inl ⟨rfl, x, rfl, ?_, h3.1, h3.2⟩)))
    simpa [fitL] using hl
  rw [if_neg a4] at hw
  by_cases a5 : a = 5
  · subst a5
    rw [if_pos rfl] at hw
    obtain ⟨x, y, rfl⟩ := two_of l (Option.some.inj hw).symm
    unfold opB at h3
    rw [if_neg (by decide), if_pos rfl] at h3
    simp only [Bool.and_eq_true, decide_eq_true_eq] at h3
    simp only [fitL, Bool.and_true, Bool.and_eq_true] at hl
    exact .inr (.inr (.inr (.inr ⟨rfl, x, y, rfl, hl.1, hl.2, h3.1, h3.2⟩)))
  · rw [if_neg a5] at hw
    cases hw
theorem name_size {c : ByteArray} (h : nameB (lst c) = true) : c.size ≤ 12 := by
  rw [← lst_len]
  unfold nameB at h
  split at h
  · cases h
  · rename_i e
    simp only [Bool.and_eq_true, decide_eq_true_eq] at h
    rw [e]
    exact h.1
theorem brT_size (rk least : Int) (t : ByteArray) : (brT rk least t).size ≤ t.size + 2 := by
  unfold brT
  split
  · simp only [ByteArray.size_append]
    have e1 : (⟨#[40]⟩ : ByteArray).size = 1 := rfl
    have e2 : (⟨#[41]⟩ : ByteArray).size = 1 := rfl
    omega
  · omega
theorem oneT_size (f : Int) : (oneT f).size = 1 := by unfold oneT; split; rfl; split <;> rfl
theorem txt_size_n : ∀ (n : Nat) (e : S38), cntE e ≤ n → fitE e = true → (txt e).size ≤ 20 * cntE e
  | 0, ⟨a, b, c, f, l⟩, hn, h => by simp only [cntE] at hn; omega
  | n + 1, ⟨a, b, c, f, l⟩, hn, h => by
    simp only [cntE] at hn
    rcases fit_cases a b c f l h with ⟨rfl, rfl, hb⟩ | ⟨rfl, rfl, hnm⟩ | ⟨rfl, x, rfl, hx⟩ | ⟨rfl, x, rfl, hx, h0, h1⟩ | ⟨rfl, x, y, rfl, hx, hy, h0, h1⟩
    · show (bs (textB b)).size ≤ _
      rw [size_bs]
      have := textB_len b hb
      simp only [cntE]
      omega
    · show c.size ≤ _
      have := name_size hnm
      simp only [cntE]
      omega
    · simp only [cntL] at hn
      have ih := txt_size_n n x (by omega) hx
      show ((⟨#[109, 91]⟩ ++ txt x) ++ ⟨#[93]⟩ : ByteArray).size ≤ _
      have e1 : (⟨#[109, 91]⟩ : ByteArray).size = 2 := rfl
      have e2 : (⟨#[93]⟩ : ByteArray).size = 1 := rfl
      simp only [ByteArray.size_append, cntE, cntL]
      omega
    · simp only [cntL] at hn
      have ih := txt_size_n n x (by omega) hx
      show (oneT f ++ brT (rkE x) 9 (txt x) : ByteArray).size ≤ _
      have e1 := oneT_size f
      have e2 := brT_size (rkE x) 9 (txt x)
      simp only [ByteArray.size_append, cntE, cntL]
      omega
    · simp only [cntL] at hn
      have ihx := txt_size_n n x (by omega) hx
      have ihy := txt_size_n n y (by omega) hy
      have e1 : (⟨#[109, 105, 110, 40]⟩ : ByteArray).size = 4 := rfl
      have e2 : (⟨#[44, 32]⟩ : ByteArray).size = 2 := rfl
      have e3 : (⟨#[41]⟩ : ByteArray).size = 1 := rfl
      have e4 : (⟨#[109, 97, 120, 40]⟩ : ByteArray).size = 4 := rfl
      have e5 : (⟨#[32]⟩ : ByteArray).size = 1 := rfl
      have e6 := brT_size (rkE x) (sgR f).2 (txt x)
      have e7 := brT_size (rkE y) ((sgR f).2 + 1) (txt y)
      show (if f = 17 then (((⟨#[109, 105, 110, 40]⟩ ++ txt x) ++ ⟨#[44, 32]⟩) ++ txt y) ++ ⟨#[41]⟩ else if f = 18 then (((⟨#[109, 97, 120, 40]⟩ ++ txt x) ++ ⟨#[44, 32]⟩) ++ txt y) ++ ⟨#[41]⟩
      else (((brT (rkE x) (sgR f).2 (txt x) ++ ⟨#[32]⟩) ++ (sgR f).1) ++ ⟨#[32]⟩) ++ brT (rkE y) ((sgR f).2 + 1) (txt y) : ByteArray).size ≤ _
      simp only [cntE, cntL]
      split
      · simp only [ByteArray.size_append]; omega
      split
      · simp only [ByteArray.size_append]; omega
      · have e8 := (sign_facts f h0 (by omega)).2.2.2.2
        simp only [ByteArray.size_append]
        omega
theorem txt_size (e : S38) (h : fitE e = true) : (txt e).size ≤ 20 * cntE e := txt_size_n _ e (Nat.le_refl _) h
end Go.Proofs.Ytobkdmmnbnpemaa.K
namespace Go.Proofs.Ytobkdmmnbnpemaa.K
open Go.RowKit Go.Proofs.YtobkdmmnbnpemaaW.PrintWords Go.Proofs.YtobkdmmnbnpemaaW.PrintLast Go.Proofs.YtobkdmmnbnpemaaW.PrintMore
set_option linter.unusedVariables false
set_option linter.unusedSimpArgs false
theorem piece_ok (t : ByteArray) (rk least : Int) (h : t.size ≤ 100000000) : show_piece_in.f t rk least = some (brT rk least t) := by
  unfold show_piece_in.f brT
  by_cases q : rk < least
  · have e1 : (⟨#[40]⟩ : ByteArray).size = 1 := rfl
    rw [if_pos q, if_pos q, if_pos (by omega), if_pos (by rw [ByteArray.size_append]; omega)]
  · rw [if_neg q, if_neg q]
theorem one_ok (f : Int) : show_one.f f = some (oneT f) := by
  unfold show_one.f oneT
  by_cases h : f = 19
  · rw [if_pos h, if_pos h]
  · rw [if_neg h, if_neg h]
    by_cases g : f = 20
    · rw [if_pos g, if_pos g]
    · rw [if_neg g, if_neg g]
theorem l0_one (k : Nat) (x : S38) (t : ByteArray) (r : Int) (a b : Int) (c : ByteArray) (f : Int) (h : show_expr.f (k + 1) x.f0 x.f1 x.f2 x.f3 x.f4 = some (t, r)) :
    show_expr.l0 (k + 2) [] [x] (([x] : List S38).length : Int) 0 a b c f [x] = if a = 3 then show_expr.j1 k [⟨t, r⟩] true a b c f [x] else show_expr.j1 k [⟨t, r⟩] false a b c f [x] := by
  have hw : wrap64 ((0 : Int) + 1) = 1 := by unfold wrap64; omega
  rw [show_expr.l0, if_pos (by simp), if_pos (by decide), if_pos (by simp), show rd_T38 [x] 0 = x from rfl, h, Option.bind_some, if_pos (by simp), hw, show_expr.l0, if_neg (by simp)]
  rfl
theorem l0_two (k : Nat) (x y : S38) (t : ByteArray) (r : Int) (u : ByteArray) (s : Int) (a b : Int) (c : ByteArray) (f : Int) (h : show_expr.f (k + 2) x.f0 x.f1 x.f2 x.f3 x.f4 = some (t, r)) (g : show_expr.f (k + 1) y.f0 y.f1 y.f2 y.f3 y.f4 = some (u, s)) (ha : a ≠ 3) :
    show_expr.l0 (k + 3) [] [x, y] (([x, y] : List S38).length : Int) 0 a b c f [x, y] = show_expr.j1 k [⟨t, r⟩, ⟨u, s⟩] false a b c f [x, y] := by
  have hw : wrap64 ((0 : Int) + 1) = 1 := by unfold wrap64; omega
  have hw2 : wrap64 ((1 : Int) + 1) = 2 := by unfold wrap64; omega
  have hl : (([x, y] : List S38).length : Int) = 2 := rfl
  rw [hl, show_expr.l0, if_pos (by decide), if_pos (by decide), hl, if_pos (by decide), show rd_T38 [x, y] 0 = x from rfl, h, Option.bind_some, if_pos (by simp), hw, show_expr.l0, if_pos (by decide), if_pos (by decide), hl, if_pos (by decide), show rd_T38 [x, y] 1 = y from rfl, g, Option.bind_some, if_pos (by simp), hw2, show_expr.l0, if_neg (by decide), if_neg ha]
  rfl
theorem two_ok (k : Nat) (hk : 60 ≤ k) (f : Int) (h0 : 1 ≤ f) (h1 : f ≤ 18) (t u : ByteArray) (r s : Int) (ht : t.size ≤ 20000000) (hu : u.size ≤ 20000000) :
    show_two.f k f t r u s = some ((if f = 17 then (((⟨#[109, 105, 110, 40]⟩ ++ t) ++ ⟨#[44, 32]⟩) ++ u) ++ ⟨#[41]⟩ else if f = 18 then (((⟨#[109, 97, 120, 40]⟩ ++ t) ++ ⟨#[44, 32]⟩) ++ u) ++ ⟨#[41]⟩ else (((brT r (sgR f).2 t ++ ⟨#[32]⟩) ++ (sgR f).1) ++ ⟨#[32]⟩) ++ brT s ((sgR f).2 + 1) u : ByteArray), (if f = 17 then 10 else if f = 18 then 10 else (sgR f).2)) := by
  have e1 : (⟨#[109, 105, 110, 40]⟩ : ByteArray).size = 4 := rfl
  have e2 : (⟨#[44, 32]⟩ : ByteArray).size = 2 := rfl
  have e3 : (⟨#[41]⟩ : ByteArray).size = 1 := rfl
  have e4 : (⟨#[109, 97, 120, 40]⟩ : ByteArray).size = 4 := rfl
  have e5 : (⟨#[32]⟩ : ByteArray).size = 1 := rfl
  unfold show_two.f
  by_cases q : f = 17
  · rw [if_pos q, if_pos q, if_pos q]
    rw [if_pos (by omega), if_pos (by simp only [ByteArray.size_append]; omega), if_pos (by simp only [ByteArray.size_append]; omega), if_pos (by simp only [ByteArray.size_append]; omega)]
  rw [if_neg q, if_neg q, if_neg q]
  by_cases q2 : f = 18
  · rw [if_pos q2, if_pos q2, if_pos q2]
    rw [if_pos (by omega), if_pos (by simp only [ByteArray.size_append]; omega), if_pos (by simp only [ByteArray.size_append]; omega), if_pos (by simp only [ByteArray.size_append]; omega)]
  rw [if_neg q2, if_neg q2, if_neg q2]
  obtain ⟨s1, s2, s3, s4, s5⟩ := sign_facts f h0 (by omega)
  have s6 : show_Sign.f k f = some (sgR f) := at_rounds (g := fun k => show_Sign.f k f) (fun k => show_Sign.mono _ k) hk s2
  have b1 := brT_size r (sgR f).2 t
  have b2 := brT_size s ((sgR f).2 + 1) u
  have hw : wrap64 ((sgR f).2 + 1) = (sgR f).2 + 1 := by unfold wrap64; omega
  rw [s6, Option.bind_some, piece_ok _ _ _ (by omega), Option.bind_some, if_pos (by omega), if_pos (by simp only [ByteArray.size_append]; omega), if_pos (by simp only [ByteArray.size_append]; omega), hw, piece_ok _ _ _ (by omega), Option.bind_some, if_pos (by simp only [ByteArray.size_append]; omega)]
theorem show_n : ∀ (n : Nat) (e : S38), cntE e ≤ n → n ≤ 1000000 → fitE e = true → ∀ k, 70 * cntE e ≤ k → show_expr.f k e.f0 e.f1 e.f2 e.f3 e.f4 = some (txt e, rkE e)
  | 0, ⟨a, b, c, f, l⟩, hn, hm, h => by simp only [cntE] at hn; omega
  | n + 1, ⟨a, b, c, f, l⟩, hn, hm, h => by
    have hsz := txt_size ⟨a, b, c, f, l⟩ h
    intro k hk
    simp only [cntE] at hn hk
    rcases fit_cases a b c f l h with ⟨rfl, rfl, hb⟩ | ⟨rfl, rfl, hnm⟩ | ⟨rfl, x, rfl, hx⟩ | ⟨rfl, x, rfl, hx, h0, h1⟩ | ⟨rfl, x, y, rfl, hx, hy, h0, h1⟩
    · obtain ⟨k, rfl⟩ : ∃ j, k = j + 1 := ⟨k - 1, by omega⟩
      have hnt : num_Text.f b = some (bs (textB b)) := by unfold num_Text.f; rw [if_neg (by omega)]
      show show_expr.f (k + 1) 1 b c f [] = _
      rw [show_expr.f, if_pos rfl, hnt]
      rfl
    · obtain ⟨k, rfl⟩ : ∃ j, k = j + 1 := ⟨k - 1, by omega⟩
      show show_expr.f (k + 1) 2 b c f [] = _
      rw [show_expr.f, if_neg (by decide), if_pos rfl]
      rfl
    · simp only [cntL] at hn hk
      have hs := txt_size x hx
      have hk1 := show_n n x (by omega) (by omega) hx
      obtain ⟨k, rfl⟩ : ∃ j, k = j + 4 := ⟨k - 4, by omega⟩
      have e1 : (⟨#[109, 91]⟩ : ByteArray).size = 2 := rfl
      have e2 : (⟨#[93]⟩ : ByteArray).size = 1 := rfl
      show show_expr.f (k + 4) 3 b c f [x] = _
      rw [show_expr.f, if_neg (by decide), if_neg (by decide), l0_one (k + 1) x _ _ 3 b c f (hk1 (k + 2) (by omega)), if_pos rfl, show_expr.j1, if_pos rfl, if_pos (by simp), show rd_T70 [⟨txt x, rkE x⟩] 0 = ⟨txt x, rkE x⟩ from rfl]
      dsimp only
      rw [if_pos (by omega), if_pos (by simp only [ByteArray.size_append]; omega)]
      rfl
    · simp only [cntL] at hn hk
      have hs := txt_size x hx
      have hk1 := show_n n x (by omega) (by omega) hx
      obtain ⟨k, rfl⟩ : ∃ j, k = j + 5 := ⟨k - 5, by omega⟩
      have e1 := oneT_size f
      have e2 := brT_size (rkE x) 9 (txt x)
      show show_expr.f (k + 5) 4 b c f [x] = _
      rw [show_expr.f, if_neg (by decide), if_neg (by decide), l0_one (k + 2) x _ _ 4 b c f (hk1 (k + 3) (by omega)), if_neg (by decide), show_expr.j1, if_neg (by decide), if_pos rfl, show ((([⟨txt x, rkE x⟩] : List S70).length : Int) == 1) = true from rfl, show_expr.j2, if_pos rfl, one_ok, Option.bind_some, if_pos (by simp), show rd_T70 [⟨txt x, rkE x⟩] 0 = ⟨txt x, rkE x⟩ from rfl]
      dsimp only
      rw [piece_ok _ _ _ (by omega), Option.bind_some, if_pos (by omega)]
      rfl
    · simp only [cntL] at hn hk
      have hs := txt_size x hx
      have hs2 := txt_size y hy
      have hk1 := show_n n x (by omega) (by omega) hx
      have hk2 := show_n n y (by omega) (by omega) hy
      obtain ⟨k, rfl⟩ : ∃ j, k = j + 6 := ⟨k - 6, by omega⟩
      show show_expr.f (k + 6) 5 b c f [x, y] = _
      have hl : (([⟨txt x, rkE x⟩, ⟨txt y, rkE y⟩] : List S70).length : Int) = 2 := rfl
      rw [show_expr.f, if_neg (by decide), if_neg (by decide), l0_two (k + 2) x y _ _ _ _ 5 b c f (hk1 (k + 4) (by omega)) (hk2 (k + 3) (by omega)) (by decide), show_expr.j1, if_neg (by decide), if_neg (by decide), show_expr.j2, if_neg (by decide), if_pos rfl, hl, if_pos rfl, if_pos (by decide), if_pos (by decide), show rd_T70 [⟨txt x, rkE x⟩, ⟨txt y, rkE y⟩] 0 = ⟨txt x, rkE x⟩ from rfl, show rd_T70 [⟨txt x, rkE x⟩, ⟨txt y, rkE y⟩] 1 = ⟨txt y, rkE y⟩ from rfl]
      dsimp only
      rw [two_ok k (by omega) f h0 h1 _ _ _ _ (by omega) (by omega), Option.bind_some]
      rfl
theorem ex_txt_at (e : S38) (hc : cntE e ≤ 1000000) (h : fitE e = true) (k : Nat) (hk : 70 * cntE e ≤ k) : exT k e = some (txt e) := by
  unfold exT show_Expr.f
  rw [show_n 1000000 e hc (Nat.le_refl _) h k hk]
  rfl
end Go.Proofs.Ytobkdmmnbnpemaa.K
namespace Go.Proofs.Ytobkdmmnbnpemaa.K
open Go.RowKit Go.Proofs.YtobkdmmnbnpemaaW.PrintWords Go.Proofs.YtobkdmmnbnpemaaW.PrintLast Go.Proofs.YtobkdmmnbnpemaaW.PrintMore
set_option linter.unusedVariables false
set_option linter.unusedSimpArgs false
theorem szd_ok {x : ByteArray} (h : x.size ≤ 1000000000) : szd x = some x := if_pos h
theorem sign_any (f : Int) : outriderref05_Sign.f f = some (sgR f) := by
  unfold sgR
  cases h : outriderref05_Sign.f f with
  | some p => rfl
  | none =>
    exfalso
    unfold outriderref05_Sign.f at h
    by_cases c1 : 1 ≤ f ∧ f ≤ 16
    · have := (sign_facts f c1.1 c1.2).1
      unfold outriderref05_Sign.f at this
      rw [h] at this
      cases this
    · have n : ∀ j : Int, 1 ≤ j → j ≤ 16 → ¬ f = j := fun j a b e => c1 (by omega)
      rw [if_neg (n 1 (by omega) (by omega)), if_neg (n 2 (by omega) (by omega)), if_neg (n 3 (by omega) (by omega)), if_neg (n 4 (by omega) (by omega)), if_neg (n 5 (by omega) (by omega)), if_neg (n 6 (by omega) (by omega)), if_neg (n 7 (by omega) (by omega)), if_neg (n 8 (by omega) (by omega)), if_neg (n 9 (by omega) (by omega)), if_neg (n 10 (by omega) (by omega)), if_neg (n 11 (by omega) (by omega)), if_neg (n 12 (by omega) (by omega)), if_neg (n 13 (by omega) (by omega)), if_neg (n 14 (by omega) (by omega)), if_neg (n 15 (by omega) (by omega)), if_neg (n 16 (by omega) (by omega))] at h
      cases h
theorem between_ok (x : S38) (hx : fitE x = true) : ∃ bt, outriderref05_between.f x.f0 x.f1 x.f2 x.f3 x.f4 = some bt ∧ (bt < 99 ↔ rkE x < 9) ∧ ∀ L, L ≤ 9 → (bt < L ↔ rkE x < L) := by
  obtain ⟨a, b, c, f, l⟩ := x
  unfold outriderref05_between.f rkE
  rw [sign_any, Option.bind_some]
  dsimp only
  rcases fit_cases a b c f l hx with ⟨rfl, rfl, hb⟩ | ⟨rfl, rfl, hnm⟩ | ⟨rfl, x, rfl, hx⟩ | ⟨rfl, x, rfl, hx, h0, h1⟩ | ⟨rfl, x, y, rfl, hx, hy, h0, h1⟩
  · exact ⟨99, rfl, by show (99 : Int) < 99 ↔ (10 : Int) < 9; omega, fun L hL => by show (99 : Int) < L ↔ (10 : Int) < L; omega⟩
  · exact ⟨99, rfl, by show (99 : Int) < 99 ↔ (10 : Int) < 9; omega, fun L hL => by show (99 : Int) < L ↔ (10 : Int) < L; omega⟩
  · exact ⟨99, rfl, by show (99 : Int) < 99 ↔ (10 : Int) < 9; omega, fun L hL => by show (99 : Int) < L ↔ (10 : Int) < L; omega⟩
  · exact ⟨99, rfl, by show (99 : Int) < 99 ↔ (9 : Int) < 9; omega, fun L hL => by show (99 : Int) < L ↔ (9 : Int) < L; omega⟩
  · rw [if_pos rfl, if_pos rfl]
    by_cases q : f = 17
    · subst q
      rw [if_pos rfl]
      exact ⟨99, rfl, by show (99 : Int) < 99 ↔ (10 : Int) < 9; omega, fun L hL => by show (99 : Int) < L ↔ (10 : Int) < L; omega⟩
    rw [if_neg q]
    by_cases q2 : f = 18
    · subst q2
      rw [if_pos rfl]
      exact ⟨99, rfl, by show (99 : Int) < 99 ↔ (10 : Int) < 9; omega, fun L hL => by show (99 : Int) < L ↔ (10 : Int) < L; omega⟩
    rw [if_neg q2]
    obtain ⟨_, _, s3, s4, _⟩ := sign_facts f h0 (by omega)
    rw [if_neg (by omega)]
    exact ⟨_, rfl, by omega, fun L hL => Iff.rfl⟩
theorem refB_ok (g : S38 → Option ByteArray) (x : S38) (hx : fitE x = true) (t : ByteArray) (hg : g x = some t) (ht : t.size ≤ 100000000) :
    refB g x 99 = some (brT (rkE x) 9 t) ∧ ∀ L, L ≤ 9 → refB g x L = some (brT (rkE x) L t) := by
  obtain ⟨bt, h1, h2, h3⟩ := between_ok x hx
  have e1 : (⟨#[40]⟩ : ByteArray).size = 1 := rfl
  have e2 : (⟨#[41]⟩ : ByteArray).size = 1 := rfl
  have hs : szd (⟨#[40]⟩ ++ t ++ ⟨#[41]⟩) = some (⟨#[40]⟩ ++ t ++ ⟨#[41]⟩) := szd_ok (by simp only [ByteArray.size_append]; omega)
  unfold refB brT
  rw [h1, Option.bind_some, hg]
  refine ⟨?_, fun L hL => ?_⟩
  · rw [Option.bind_some]
    by_cases q : bt < 99
    · rw [if_pos q, if_pos (h2.1 q), hs]
    · rw [if_neg q, if_neg (fun z => q (h2.2 z))]
  · rw [Option.bind_some, Option.bind_some]
    by_cases q : bt < L
    · rw [if_pos q, if_pos ((h3 L hL).1 q), hs]
    · rw [if_neg q, if_neg (fun z => q ((h3 L hL).2 z))]
theorem ref_txt : ∀ (d : Nat) (e : S38), deepE e ≤ d → cntE e ≤ 1000000 → fitE e = true → refE 100 d e = some (txt e)
  | 0, ⟨a, b, c, f, l⟩, hd, hc, h => by simp only [deepE] at hd; omega
  | d + 1, ⟨a, b, c, f, l⟩, hd, hc, h => by
    have hsz := txt_size ⟨a, b, c, f, l⟩ h
    simp only [cntE] at hc hsz
    simp only [deepE] at hd
    rw [refE]
    dsimp only
    rcases fit_cases a b c f l h with ⟨rfl, rfl, hb⟩ | ⟨rfl, rfl, hnm⟩ | ⟨rfl, x, rfl, hx⟩ | ⟨rfl, x, rfl, hx, h0, h1⟩ | ⟨rfl, x, y, rfl, hx, hy, h0, h1⟩
    · rw [if_pos rfl, rtext_ok b hb, Option.bind_some]
      exact szd_ok (by simp only [cntL] at hsz; exact Nat.le_trans hsz (by omega))
    · rw [if_neg (by decide), if_pos rfl]
      exact szd_ok (by have := name_size hnm; omega)
    · simp only [cntL, deepL] at hc hsz hd
      have hs := txt_size x hx
      have ih := ref_txt d x (by omega) (by omega) hx
      rw [if_neg (by decide), if_neg (by decide), if_neg (by simp), if_pos rfl, show rd_T38 [x] 0 = x from rfl, ih, Option.bind_some]
      exact szd_ok (Nat.le_trans hsz (by omega))
    · simp only [cntL, deepL] at hc hsz hd
      have hs := txt_size x hx
      have ih := ref_txt d x (by omega) (by omega) hx
      rw [if_neg (by decide), if_neg (by decide), if_neg (by simp), if_neg (by decide), if_pos rfl, show rd_T38 [x] 0 = x from rfl, (refB_ok _ x hx _ ih (by omega)).1, Option.bind_some]
      have e : (if f = 20 then (⟨#[126]⟩ : ByteArray) else if f = 19 then ⟨#[45]⟩ else ⟨#[33]⟩) = oneT f := by
        unfold oneT
        by_cases q : f = 20
        · rw [if_pos q, if_neg (by omega), if_pos q]
        · rw [if_neg q]
          by_cases q2 : f = 19
          · rw [if_pos q2, if_pos q2]
          · rw [if_neg q2, if_neg q2, if_neg q]
      rw [e]
      exact szd_ok (Nat.le_trans hsz (by omega))
    · simp only [cntL, deepL] at hc hsz hd
      have hs := txt_size x hx
      have hs2 := txt_size y hy
      have ih := ref_txt d x (by omega) (by omega) hx
      have ih2 := ref_txt d y (by omega) (by omega) hy
      have hsz' : (txtA 5 b c f [x, y] [txt x, txt y]).size ≤ 1000000000 := Nat.le_trans hsz (by omega)
      have htx : txt ⟨5, b, c, f, [x, y]⟩ = txtA 5 b c f [x, y] [txt x, txt y] := rfl
      rw [if_neg (by decide), if_neg (by decide), if_neg (by simp), if_neg (by decide), if_neg (by decide), if_neg (by simp), sign_any, Option.bind_some, show rd_T38 [x, y] 0 = x from rfl, show rd_T38 [x, y] 1 = y from rfl, htx]
      have hA : txtA 5 b c f [x, y] [txt x, txt y] = if f = 17 then (((⟨#[109, 105, 110, 40]⟩ ++ txt x) ++ ⟨#[44, 32]⟩) ++ txt y) ++ ⟨#[41]⟩ else if f = 18 then (((⟨#[109, 97, 120, 40]⟩ ++ txt x) ++ ⟨#[44, 32]⟩) ++ txt y) ++ ⟨#[41]⟩
        else (((brT (rkE x) (sgR f).2 (txt x) ++ ⟨#[32]⟩) ++ (sgR f).1) ++ ⟨#[32]⟩) ++ brT (rkE y) ((sgR f).2 + 1) (txt y) := rfl
      rw [hA] at hsz' ⊢
      by_cases q : f = 17
      · rw [if_pos q] at hsz' ⊢
        rw [if_pos q, ih, Option.bind_some, ih2, Option.bind_some]
        exact szd_ok hsz'
      rw [if_neg q] at hsz' ⊢
      rw [if_neg q]
      by_cases q2 : f = 18
      · rw [if_pos q2] at hsz' ⊢
        rw [if_pos q2, ih, Option.bind_some, ih2, Option.bind_some]
        exact szd_ok hsz'
      rw [if_neg q2] at hsz' ⊢
      obtain ⟨_, _, s3, s4, s5⟩ := sign_facts f h0 (by omega)
      rw [if_neg q2, if_pos ⟨by omega, by omega, by omega⟩, (refB_ok _ x hx _ ih (by omega)).2 _ (by omega), Option.bind_some, (refB_ok _ y hy _ ih2 (by omega)).2 _ (by omega), Option.bind_some]
      exact szd_ok hsz'
end Go.Proofs.Ytobkdmmnbnpemaa.K
