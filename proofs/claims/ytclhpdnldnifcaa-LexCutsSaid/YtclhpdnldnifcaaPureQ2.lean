/- The reference's numbers: any sums, products by ten, a text of digits alone. -/
import Derived.Test.YtclhpdnldnifcaaPureQ
namespace Go.Proofs.Ytclhpdnldnifcaa.K
open Go.RowKit Go.Proofs.YtclhpdnldnifcaaW.PrintWords Go.Proofs.YtclhpdnldnifcaaW.PrintLast Go.Proofs.YtclhpdnldnifcaaW.PrintMore
set_option linter.unusedVariables false

def In64 (a : Int) : Prop := -9223372036854775808 ≤ a ∧ a ≤ 9223372036854775807
theorem wrap_in (x : Int) : In64 (wrap64 x) := by unfold In64 wrap64; omega
theorem half_any (a : Int) : outriderref01_half.f a = some (a % 4294967296, a / 4294967296 % 4294967296) := by
  have e : IntKind.u64.wrap a = a % 18446744073709551616 := by rw [IntKind.wrap_u64]
  unfold outriderref01_half.f
  rw [e, mask32 _ (by omega) (by omega)]
  have e1 : a % 18446744073709551616 % 4294967296 = a % 4294967296 := by omega
  have e2 : a % 18446744073709551616 / 4294967296 = a / 4294967296 % 4294967296 := by omega
  rw [e1, e2]
theorem add_any (a b : Int) : outriderref01_add.f a b = some (wrap64 (a + b)) := by
  unfold outriderref01_add.f
  rw [half_any a, half_any b]
  simp only [Option.bind_some]
  have e1 : IntKind.u64.wrap (a % 4294967296 + b % 4294967296) = a % 4294967296 + b % 4294967296 := Go.wraps_u64 _ (by omega) (by omega)
  have e2 : IntKind.u64.wrap (a / 4294967296 % 4294967296 + b / 4294967296 % 4294967296) = a / 4294967296 % 4294967296 + b / 4294967296 % 4294967296 := Go.wraps_u64 _ (by omega) (by omega)
  rw [e1, e2]
  have e3 : IntKind.u64.wrap (a / 4294967296 % 4294967296 + b / 4294967296 % 4294967296 + (a % 4294967296 + b % 4294967296) / 4294967296) = a / 4294967296 % 4294967296 + b / 4294967296 % 4294967296 + (a % 4294967296 + b % 4294967296) / 4294967296 := Go.wraps_u64 _ (by omega) (by omega)
  rw [e3, whole_f _ _ (by omega) (by omega) (by omega) (by omega)]
  simp only [Option.bind_some]
  congr 1
  unfold wrap64
  omega
theorem bit_ten : ∀ i : Fin 64, outriderref01_bit.f 10 (i.val : Int) = some (i.val == 1 || i.val == 3) := by decide +kernel
theorem bit10 (i : Nat) (h : i < 64) : outriderref01_bit.f 10 (i : Int) = some (i == 1 || i == 3) := bit_ten ⟨i, h⟩
theorem w_eq (x y : Int) (h : x = y) (h0 : -9223372036854775808 ≤ y) (h1 : y ≤ 9223372036854775807) : wrap64 x = y := by
  subst h
  unfold wrap64
  omega
theorem w_suc (i : Nat) (h : i ≤ 140737488351232) : wrap64 ((i : Int) + 1) = ((i + 1 : Nat) : Int) := w_eq _ _ (by omega) (by omega) (by omega)
theorem mul_step (k : Nat) (i : Nat) (a n : Int) (h : i < 64) : outriderref01_mul.l0 (k + 1) a 10 n (i : Int) = (if (i == 1 || i == 3) = true then outriderref01_mul.l0 k (wrap64 (a + a)) 10 (wrap64 (n + a)) ((i + 1 : Nat) : Int) else outriderref01_mul.l0 k (wrap64 (a + a)) 10 n ((i + 1 : Nat) : Int)) := by
  rw [outriderref01_mul.l0, if_pos (by omega), bit10 i h]
  simp only [Option.bind_some, add_any]
  rw [w_suc i (by omega)]
theorem mul_tail : ∀ (d i : Nat) (a n : Int), i + d = 64 → 4 ≤ i → outriderref01_mul.l0 (d + 1) a 10 n (i : Int) = some n
  | 0, i, a, n, h, _ => by rw [outriderref01_mul.l0, if_neg (by omega)]
  | d + 1, i, a, n, h, h4 => by
    have hb : (i == 1 || i == 3) = false := by
      rw [beq_eq_false_iff_ne.2 (by omega), beq_eq_false_iff_ne.2 (by omega)]; rfl
    rw [mul_step _ i _ _ (by omega), hb, if_neg (by simp)]
    exact mul_tail d (i + 1) _ n (by omega) (by omega)
theorem mul10 (a : Int) (h0 : 0 ≤ a) (h1 : a * 10 ≤ 9223372036854775807) : outriderref01_mul.f 65 a 10 = some (a * 10) := by
  have hs : wrap64 (a + a) = 2 * a ∧ wrap64 (2 * a + 2 * a) = 4 * a ∧ wrap64 (4 * a + 4 * a) = 8 * a ∧ wrap64 (0 + 2 * a) = 2 * a ∧ wrap64 (2 * a + 8 * a) = a * 10 :=
    ⟨w_eq _ _ (by omega) (by omega) (by omega), w_eq _ _ (by omega) (by omega) (by omega), w_eq _ _ (by omega) (by omega) (by omega), w_eq _ _ (by omega) (by omega) (by omega), w_eq _ _ (by omega) (by omega) (by omega)⟩
  obtain ⟨s1, s2, s3, n1, n2⟩ := hs
  have hd : 0 < 64 ∧ 1 < 64 ∧ 2 < 64 ∧ 3 < 64 := by decide
  show outriderref01_mul.l0 (64 + 1) a 10 0 ((0 : Nat) : Int) = _
  rw [mul_step _ 0 _ _ hd.1, if_neg (by decide), s1]
  show outriderref01_mul.l0 (63 + 1) _ 10 0 ((1 : Nat) : Int) = _
  rw [mul_step _ 1 _ _ hd.2.1, if_pos (by decide), s2, n1]
  show outriderref01_mul.l0 (62 + 1) _ 10 _ ((2 : Nat) : Int) = _
  rw [mul_step _ 2 _ _ hd.2.2.1, if_neg (by decide), s3]
  show outriderref01_mul.l0 (61 + 1) _ 10 _ ((3 : Nat) : Int) = _
  rw [mul_step _ 3 _ _ hd.2.2.2, if_pos (by decide), n2]
  exact mul_tail 60 4 _ _ (by decide) (by decide)

/-! ### Digits, by their order -/
def valB : List UInt8 → Int
  | [] => 0
  | c :: l => (c8 c - 48) * 10 ^ l.length + valB l
theorem dig_in (c : UInt8) (h : digB c = true) : 48 ≤ c8 c ∧ c8 c ≤ 57 := by
  unfold digB isDig at h
  simpa using h
theorem val_in : ∀ l : List UInt8, l.all digB = true → 0 ≤ valB l ∧ valB l < 10 ^ l.length
  | [], _ => by simp [valB]
  | c :: l, h => by
    rw [List.all_cons, Bool.and_eq_true] at h
    obtain ⟨h1, h2⟩ := val_in l h.2
    obtain ⟨h3, h4⟩ := dig_in c h.1
    have hp : (0 : Int) < 10 ^ l.length := by omega
    have e : (10 : Int) ^ (c :: l).length = 10 ^ l.length * 10 := Int.pow_succ 10 l.length
    rw [e]
    unfold valB
    generalize hP : (10 : Int) ^ l.length = P at *
    have m1 : 0 ≤ (c8 c - 48) * P := Int.mul_nonneg (by omega) (by omega)
    have m2 : (c8 c - 48) * P ≤ 9 * P := Int.mul_le_mul_of_nonneg_right (by omega) (by omega)
    constructor <;> omega
theorem less_val : ∀ a b : List UInt8, a.length = b.length → a.all digB = true → b.all digB = true → Op.bytesLess a b = decide (valB a < valB b)
  | [], [], _, _, _ => by simp [Op.bytesLess, valB]
  | [], _ :: _, h, _, _ => by simp at h
  | _ :: _, [], h, _, _ => by simp at h
  | c :: a, d :: b, h, ha, hb => by
    rw [List.all_cons, Bool.and_eq_true] at ha hb
    have hl : a.length = b.length := by simpa using h
    have ih := less_val a b hl ha.2 hb.2
    obtain ⟨a1, a2⟩ := val_in a ha.2
    obtain ⟨b1, b2⟩ := val_in b hb.2
    unfold Op.bytesLess valB
    rw [ih, hl]
    rw [hl] at a2
    generalize (10 : Int) ^ b.length = P at *
    rcases Nat.lt_trichotomy c.toNat d.toNat with q | q | q
    · have h1 : c < d := q
      have m : (c8 c - 48) * P + P ≤ (d.toNat - 48) * P := by
        have : (c8 c - 48 + 1) * P ≤ (d.toNat - 48) * P := Int.mul_le_mul_of_nonneg_right (by unfold c8; omega) (by omega)
        rw [Int.add_mul] at this
        omega
      have : (c8 c - 48) * P + valB a < (c8 d - 48) * P + valB b := by
        have e : (c8 d - 48) * P = (d.toNat - 48) * P := rfl
        rw [e]; omega
      simp [h1, this]
    · have h1 : c = d := UInt8.toNat_inj.mp q
      subst h1
      have h2 : ¬ c < c := fun q => by have : c.toNat < c.toNat := q; omega
      simp only [h2, decide_false, Bool.false_or, beq_self_eq_true, Bool.true_and]
      rw [Bool.eq_iff_iff]
      simp only [decide_eq_true_eq]
      omega
    · have h1 : ¬ c < d := fun x => by have : c.toNat < d.toNat := x; omega
      have h2 : (c == d) = false := by rw [beq_eq_false_iff_ne]; intro x; rw [x] at q; omega
      have m : (c8 d - 48) * P + P ≤ (c.toNat - 48) * P := by
        have : (c8 d - 48 + 1) * P ≤ (c.toNat - 48) * P := Int.mul_le_mul_of_nonneg_right (by unfold c8; omega) (by omega)
        rw [Int.add_mul] at this
        omega
      have : ¬ (c8 c - 48) * P + valB a < (c8 d - 48) * P + valB b := by
        have e : (c8 c - 48) * P = (c.toNat - 48) * P := rfl
        rw [e]; omega
      simp [h1, h2, this]
theorem dv_val (t : ByteArray) : ∀ (l : List UInt8) (i : Nat), (lst t).drop i = l → i ≤ t.size → dv t t.size = dv t i * 10 ^ l.length + valB l
  | [], i, h, hi => by
    have e := drop_nil h hi
    subst e
    simp [valB]
  | c :: l, i, h, hi => by
    obtain ⟨h1, h2, h3⟩ := bt_drop h
    have ih := dv_val t l (i + 1) h3 (by omega)
    have e : dv t (i + 1) = dv t i * 10 + (bt t (i : Int) - 48) := rfl
    have e2 : (10 : Int) ^ (c :: l).length = 10 ^ l.length * 10 := Int.pow_succ 10 l.length
    have e3 : valB (c :: l) = (c8 c - 48) * 10 ^ l.length + valB l := rfl
    rw [ih, e, e2, e3, h2]
    rw [Int.add_mul, Int.mul_assoc, Int.mul_comm 10 (10 ^ l.length), Int.add_assoc]
theorem dv_all (t : ByteArray) : dv t t.size = valB (lst t) := by
  have := dv_val t (lst t) 0 rfl (Nat.zero_le _)
  rw [this]
  have : dv t 0 = 0 := rfl
  rw [this, Int.zero_mul, Int.zero_add]
theorem digs_of (t : ByteArray) (h : (lst t).all digB = true) : digs t := by
  intro i hi
  have hl : i < (lst t).length := by rw [lst_len]; exact hi
  rw [bt_get t i hl]
  exact List.all_eq_true.1 h _ (List.getElem_mem hl)
def mostB : ByteArray := ⟨#[57, 50, 50, 51, 51, 55, 50, 48, 51, 54, 56, 53, 52, 55, 55, 53, 56, 48, 55]⟩
theorem most_val : valB (lst mostB) = 9223372036854775807 := by decide +kernel
theorem most_dig : (lst mostB).all digB = true := by decide +kernel
/-- Greater than may be: more digits, or as many and later in the order. -/
theorem big_iff (t : ByteArray) (h : (lst t).all digB = true) (h1 : 1 ≤ t.size) (h0 : t.size = 1 ∨ bt t 0 ≠ 48) :
    (decide (19 < t.size) || (decide (t.size = 19) && Op.bytesLess (lst mostB) (lst t))) = decide (dv t t.size > 9223372036854775807) := by
  have hlen := lst_len t
  rw [dv_all]
  cases hl : lst t with
  | nil => rw [hl] at hlen; simp at hlen; omega
  | cons c l =>
    rw [hl] at hlen h
    have hb0 : bt t 0 = c8 c := (bt_drop (s := t) (i := 0) (c := c) (l := l) (by rw [List.drop_zero, hl])).2.1
    have hall := h
    rw [List.all_cons, Bool.and_eq_true] at h
    obtain ⟨v1, v2⟩ := val_in l h.2
    obtain ⟨v3, v4⟩ := val_in (c :: l) hall
    obtain ⟨d1, d2⟩ := dig_in c h.1
    simp only [List.length_cons] at hlen
    rcases Nat.lt_trichotomy t.size 19 with q | q | q
    · have e : decide (19 < t.size) = false := decide_eq_false (by omega)
      have e2 : decide (t.size = 19) = false := decide_eq_false (by omega)
      rw [e, e2]
      have hp : (10 : Int) ^ (c :: l).length ≤ 10 ^ 18 := by
        have : (10 : Nat) ^ (c :: l).length ≤ 10 ^ 18 := Nat.pow_le_pow_right (by omega) (by simp only [List.length_cons]; omega)
        exact_mod_cast this
      have h18 : (10 : Int) ^ 18 = 1000000000000000000 := by decide
      rw [h18] at hp
      have : ¬ valB (c :: l) > 9223372036854775807 := by omega
      rw [decide_eq_false this]
      rfl
    · have e : decide (19 < t.size) = false := decide_eq_false (by omega)
      have e2 : decide (t.size = 19) = true := decide_eq_true q
      have hm : (lst mostB).length = (c :: l).length := by simp only [List.length_cons]; rw [hlen, q]; rfl
      rw [e, e2, less_val _ _ hm most_dig hall, most_val]
      rfl
    · have e : decide (19 < t.size) = true := decide_eq_true q
      rw [e]
      have hc : 49 ≤ c8 c := by rcases h0 with x | x <;> omega
      have hp : (10 : Int) ^ 19 ≤ 10 ^ l.length := by
        have : (10 : Nat) ^ 19 ≤ 10 ^ l.length := Nat.pow_le_pow_right (by omega) (by omega)
        exact_mod_cast this
      have h19 : (10 : Int) ^ 19 = 10000000000000000000 := by decide
      rw [h19] at hp
      have hv : valB (c :: l) = (c8 c - 48) * 10 ^ l.length + valB l := rfl
      have hm : 1 * 10 ^ l.length ≤ (c8 c - 48) * 10 ^ l.length := Int.mul_le_mul_of_nonneg_right (by omega) (by omega)
      have : valB (c :: l) > 9223372036854775807 := by rw [hv]; omega
      rw [decide_eq_true this]
      rfl

/-! ### The reference's Parse, at digits alone -/
theorem mul_at (a : Int) (h0 : 0 ≤ a) (h1 : a * 10 ≤ 9223372036854775807) (K : Nat) (hK : 65 ≤ K) : outriderref01_mul.f K a 10 = some (a * 10) :=
  at_rounds (g := fun k => outriderref01_mul.f k a 10) (fun k => outriderref01_mul.mono _ _ k) hK (mul10 a h0 h1)
theorem rl1_step (t : ByteArray) (h : digs t) (hs : t.size ≤ 140737488351232) (hd : dv t t.size ≤ 9223372036854775807) (K i : Nat) (hK : 65 ≤ K) (hi : i < t.size) :
    outriderref01_Parse.l1 (K + 1) t t (dv t i) (i : Int) = outriderref01_Parse.l1 K t t (dv t (i + 1)) ((i + 1 : Nat) : Int) := by
  have hb := digs_at h i hi
  have h0 := dv_nonneg h i (by omega)
  have hm := dv_mono h (i + 1) (t.size - (i + 1)) (by omega)
  have ei : i + 1 + (t.size - (i + 1)) = t.size := by omega
  rw [ei] at hm
  have e : dv t i * 10 + (bt t (i : Int) - 48) = dv t (i + 1) := rfl
  have hmax : dv t i * 10 ≤ 9223372036854775807 := by omega
  have hv : -9223372036854775808 ≤ dv t (i + 1) ∧ dv t (i + 1) ≤ 9223372036854775807 := ⟨by omega, by omega⟩
  have hmul := mul_at (dv t i) h0 hmax K hK
  have em : (bt t (i : Int) - 48) % 256 = bt t (i : Int) - 48 := by omega
  have hlt : (i : Int) < (t.size : Int) := by omega
  have hnn : (0 : Int) ≤ (i : Int) := by omega
  have hle : i ≤ 140737488351232 := by omega
  have w4 : wrap64 (dv t i * 10 + (bt t (i : Int) - 48)) = dv t (i + 1) := w_eq _ _ e hv.1 hv.2
  rw [outriderref01_Parse.l1, if_pos hlt, hmul, Option.bind_some, if_pos hnn, em, add_any, Option.bind_some, w_suc i hle, w4]
theorem rl1 (t : ByteArray) (h : digs t) (hs : t.size ≤ 140737488351232) (hd : dv t t.size ≤ 9223372036854775807) (K : Nat) (hK : 65 ≤ K) : ∀ r i : Nat, i + r = t.size → outriderref01_Parse.l1 (K + 1 + r) t t (dv t i) (i : Int) = some (dv t t.size, 0) := by
  intro r
  induction r with
  | zero =>
    intro i hi
    have e : i = t.size := by omega
    subst e
    have hn : ¬ (t.size : Int) < (t.size : Int) := by omega
    rw [Nat.add_zero, outriderref01_Parse.l1, if_neg hn, if_pos rfl]
  | succ r ih =>
    intro i hi
    have e : K + 1 + (r + 1) = (K + 1 + r) + 1 := by omega
    rw [e, rl1_step t h hs hd _ i (by omega) (by omega)]
    exact ih (i + 1) (by omega)
theorem rl0 (t : ByteArray) (h : digs t) (hs : t.size ≤ 140737488351232) (K : Nat) : ∀ r i : Nat, i + r = t.size → outriderref01_Parse.l0 (r + 1 + K) t t (i : Int) = outriderref01_Parse.j4 K t t mostB
  | 0, i, hi => by
    have e : 0 + 1 + K = K + 1 := by omega
    rw [e, outriderref01_Parse.l0, if_neg (by omega), if_pos rfl, mostB]
  | r + 1, i, hi => by
    have hb := digs_at h i (by omega)
    have e : r + 1 + 1 + K = (r + 1 + K) + 1 := by omega
    rw [e, outriderref01_Parse.l0, if_pos (by omega), if_pos (by omega), if_neg (by omega), if_neg (by omega), w_suc i (by omega)]
    exact rl0 t h hs K r (i + 1) (by omega)
theorem rparse (t : ByteArray) (h1 : 1 ≤ t.size) (hs : t.size ≤ 140737488351232) (hall : (lst t).all digB = true) : ∃ k, outriderref01_Parse.f k t = some (parseP t) := by
  have h := digs_of t hall
  have hb := digs_at h 0 (by omega)
  have h45 : (bt t 0 == 45) = false := by rw [beq_eq_false_iff_ne]; intro e; have h0 : bt t ((0 : Nat) : Int) = 45 := e; omega
  have hne : ¬ (t.size : Int) = 0 := by omega
  have htl : t.toList = lst t := toList_eq t
  obtain ⟨K, hK⟩ : ∃ K, 65 ≤ K := ⟨65, Nat.le_refl _⟩
  refine ⟨(K + 1 + t.size + 1 + 1) + (t.size + 1) + 1 + 1 + 1, ?_⟩
  have e9 : (K + 1 + t.size + 1 + 1) + (t.size + 1) = t.size + 1 + (K + 1 + t.size + 1 + 1) := by omega
  unfold outriderref01_Parse.f
  rw [if_pos (by omega), if_pos (by omega), h45, outriderref01_Parse.j0, if_neg (by simp), outriderref01_Parse.j1, if_neg hne, if_pos (by omega)]
  unfold parseP
  have rest : (t.size = 1 ∨ bt t 0 ≠ 48) → outriderref01_Parse.l0 ((K + 1 + t.size + 1 + 1) + (t.size + 1)) t t 0 = some (if dv t t.size > 9223372036854775807 then (0, 11) else (dv t t.size, 0)) := by
    intro h0
    have hbig := big_iff t hall h1 h0
    have h19 : mostB.size = 19 := rfl
    rw [e9]
    refine (rl0 t h hs (K + 1 + t.size + 1 + 1) t.size 0 (by omega)).trans ?_
    have hml : mostB.toList = lst mostB := toList_eq mostB
    rw [outriderref01_Parse.j4, h19, hml, htl]
    have main : ∀ b : Bool, b = decide (dv t t.size > 9223372036854775807) → outriderref01_Parse.j5 (K + 1 + t.size + 1) t t b = some (if dv t t.size > 9223372036854775807 then (0, 11) else (dv t t.size, 0)) := by
      intro b hb
      rw [outriderref01_Parse.j5, hb]
      by_cases c : dv t t.size > 9223372036854775807
      · rw [decide_eq_true c, if_pos rfl, if_pos c]
      · rw [decide_eq_false c, if_neg (by simp), if_neg c]
        exact rl1 t h hs (by omega) K hK t.size 0 (by omega)
    by_cases c1 : (t.size : Int) > (19 : Nat)
    · rw [if_pos c1]
      refine main _ ?_
      rw [← hbig, decide_eq_true (show 19 < t.size by omega)]
      rfl
    · rw [if_neg c1]
      by_cases c2 : (t.size : Int) = (19 : Nat)
      · rw [if_pos c2]
        refine main _ ?_
        rw [← hbig, decide_eq_false (show ¬ 19 < t.size by omega), decide_eq_true (show t.size = 19 by omega)]
        rfl
      · rw [if_neg c2]
        refine main _ ?_
        rw [← hbig, decide_eq_false (show ¬ 19 < t.size by omega), decide_eq_false (show ¬ t.size = 19 by omega)]
        rfl
  by_cases c : bt t 0 = 48
  · rw [if_pos c]
    cases hl : lst t with
    | nil => have := lst_len t; rw [hl] at this; simp at this; omega
    | cons x m =>
      have hlen := lst_len t
      rw [hl] at hlen
      simp only [List.length_cons] at hlen
      have hx : bt t 0 = c8 x := (bt_drop (s := t) (i := 0) (c := x) (l := m) (by rw [List.drop_zero, hl])).2.1
      have hx2 : x = 48 := UInt8.toNat_inj.mp (by rw [hx] at c; unfold c8 at c; have : (48 : UInt8).toNat = 48 := rfl; omega)
      rw [htl, hl, hx2]
      by_cases c2 : 1 < t.size
      · have : ((48 :: m : List UInt8) != [48]) = true := by
          rw [bne_iff_ne]; intro e
          injection e with _ e
          rw [e] at hlen
          simp at hlen
          omega
        rw [this, if_pos ⟨c, c2⟩, outriderref01_Parse.j2, if_pos rfl]
      · have hm : m = [] := by
          cases m with
          | nil => rfl
          | cons => simp at hlen; omega
        have : ((48 :: m : List UInt8) != [48]) = false := by rw [hm]; rfl
        rw [this, if_neg (fun q => c2 q.2), outriderref01_Parse.j2, if_neg (by simp)]
        exact rest (Or.inl (by omega))
  · rw [if_neg c, if_neg (fun q => c q.1), outriderref01_Parse.j2, if_neg (by simp)]
    exact rest (Or.inr c)
end Go.Proofs.Ytclhpdnldnifcaa.K
