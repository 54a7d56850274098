/- The numbers of digits alone: what num.Parse tells of them. Plain numbers. -/
import Derived.Test.YtobkdmmnbnpemaaXRX2
namespace Go.Proofs.Ytobkdmmnbnpemaa.Lx
open Go.RowKit Go.Proofs.YtobkdmmnbnpemaaW.PrintWords Go.Proofs.YtobkdmmnbnpemaaW.PrintLast Go.Proofs.YtobkdmmnbnpemaaW.PrintMore
set_option linter.unusedVariables false
theorem toList_loop (s : ByteArray) : ∀ r i (acc : List UInt8), i + r = s.size → ByteArray.toList.loop s i acc = acc.reverse ++ s.data.toList.drop i
  | 0, i, acc, h => by
    unfold ByteArray.toList.loop
    rw [if_neg (by omega)]
    have : s.data.toList.length ≤ i := by rw [data_length]; omega
    rw [List.drop_eq_nil_of_le this, List.append_nil]
  | r + 1, i, acc, h => by
    unfold ByteArray.toList.loop
    rw [if_pos (by omega), toList_loop s r (i + 1) _ (by omega)]
    have hl : i < s.data.toList.length := by rw [data_length]; omega
    have hs : i < s.data.size := by rw [Array.length_toList] at hl; exact hl
    rw [List.drop_eq_getElem_cons hl, List.reverse_cons, List.append_assoc]
    have e : s.get! i = s.data.toList[i] := by
      show s.data[i]! = _
      rw [getElem!_pos s.data i hs]
      simp
    rw [e, List.singleton_append]
theorem toList_eq (s : ByteArray) : s.toList = s.data.toList := by
  unfold ByteArray.toList
  rw [toList_loop s s.size 0 [] (by omega)]
  rfl
theorem len_toList (s : ByteArray) : s.toList.length = s.size := by rw [toList_eq, data_length]
theorem sum_more (t : ByteArray) {r : Int × Bool} {k : Nat} (h : num_sum.l0 k t 0 (t.size : Int) 0 = some r) (K : Nat) (hK : k ≤ K) : num_sum.l0 K t 0 (t.size : Int) 0 = some r := by
  obtain ⟨j, rfl⟩ := Nat.le.dest hK
  exact more_rounds (g := fun k => num_sum.l0 k t 0 (t.size : Int) 0) (fun k => num_sum.mono_l k _ _ _ _) k j r h
def dv (t : ByteArray) : Nat → Int
  | 0 => 0
  | i + 1 => dv t i * 10 + (bt t (i : Int) - 48)
def digs (t : ByteArray) : Prop := ∀ i : Nat, i < t.size → isDig (bt t (i : Int)) = true
theorem digs_at {t : ByteArray} (h : digs t) (i : Nat) (hi : i < t.size) : 48 ≤ bt t (i : Int) ∧ bt t (i : Int) ≤ 57 := by
  have := h i hi
  unfold isDig at this
  simpa using this
theorem dv_nonneg {t : ByteArray} (h : digs t) : ∀ i, i ≤ t.size → 0 ≤ dv t i
  | 0, _ => Int.le_refl 0
  | i + 1, hi => by
    have := dv_nonneg h i (by omega)
    have := digs_at h i (by omega)
    unfold dv
    omega
theorem dv_mono {t : ByteArray} (h : digs t) (i : Nat) : ∀ r, i + r ≤ t.size → dv t i ≤ dv t (i + r)
  | 0, _ => Int.le_refl _
  | r + 1, hi => by
    have h1 := dv_mono h i r (by omega)
    have h2 := digs_at h (i + r) (by omega)
    have h3 := dv_nonneg h (i + r) (by omega)
    have e : dv t (i + (r + 1)) = dv t (i + r) * 10 + (bt t ((i + r : Nat) : Int) - 48) := rfl
    rw [e]
    omega
def parseP (t : ByteArray) : Int × Int :=
  if bt t 0 = 48 ∧ 1 < t.size then (0, 10) else if dv t t.size > 9223372036854775807 then (0, 11) else (dv t t.size, 0)
theorem sum_ok (t : ByteArray) (h : digs t) (hs : t.size ≤ 140737488351232) : ∀ r i : Nat, i + r = t.size → dv t i ≤ 18446744073709551615 →
    num_sum.l0 (r + 1) t (dv t i) (t.size : Int) (i : Int) = some (if dv t t.size ≤ 18446744073709551615 then (dv t t.size, true) else (0, false)) := by
  intro r
  induction r with
  | zero =>
    intro i hi hd
    have e : i = t.size := by omega
    subst e
    rw [num_sum.l0, if_neg (by omega), if_pos hd]
  | succ r ih =>
    intro i hi hd
    have hb := digs_at h i (by omega)
    have h0 := dv_nonneg h i (by omega)
    have hm := dv_mono h (i + 1) r (by omega)
    have e : dv t (i + 1) = dv t i * 10 + (bt t (i : Int) - 48) := rfl
    have ei : i + 1 + r = t.size := by omega
    rw [ei] at hm
    have em : (bt t (i : Int) - 48) % 256 = bt t (i : Int) - 48 := by omega
    rw [num_sum.l0, if_pos (by omega), if_pos (by omega), if_pos (by omega), em]
    by_cases c : dv t i > (18446744073709551615 - (bt t (i : Int) - 48)) / 10
    · rw [if_pos c, if_neg (by omega)]
    · rw [if_neg c]
      have hih := ih (i + 1) (by omega) (by omega)
      have w1 : IntKind.u64.wrap (dv t i * 10) = dv t i * 10 := IntWalk.u64_in _ (by omega)
      have w2 : IntKind.u64.wrap (dv t i * 10 + (bt t (i : Int) - 48)) = dv t i * 10 + (bt t (i : Int) - 48) := IntWalk.u64_in _ (by omega)
      have w3 : wrap64 ((i : Int) + 1) = ((i + 1 : Nat) : Int) := by unfold wrap64; omega
      rw [w1, w2, w3, ← e]
      exact hih
theorem parse_l0 (t : ByteArray) (h : digs t) (hs : t.size ≤ 140737488351232) (K : Nat) (hK : t.size + 1 < K) : ∀ r i : Nat, i + r = t.size →
    num_Parse.l0 (r + 1 + K) t false (t.size : Int) (i : Int) = (num_sum.f (K) t).bind fun b => if b.2 = true then num_Parse.j4 K false b.1 (decide (b.1 > 9223372036854775807)) else num_Parse.j4 K false b.1 (!b.2) := by
  intro r
  induction r with
  | zero =>
    intro i hi
    have e : 0 + 1 + K = K + 1 := by omega
    rw [e, num_Parse.l0, if_neg (by omega)]
    simp only [Bool.false_eq_true, if_false]
  | succ r ih =>
    intro i hi
    have hb := digs_at h i (by omega)
    have e : r + 1 + 1 + K = (r + 1 + K) + 1 := by omega
    have w3 : wrap64 ((i : Int) + 1) = ((i + 1 : Nat) : Int) := by unfold wrap64; omega
    rw [e, num_Parse.l0, if_pos (by omega), if_pos (by omega), if_pos (by omega), if_neg (by omega), if_neg (by omega), w3]
    exact ih (i + 1) (by omega)
theorem parse_ok (t : ByteArray) (h1 : 1 ≤ t.size) (hs : t.size ≤ 140737488351232) (h : digs t) : ∃ k, num_Parse.f k t = some (parseP t) := by
  have hne : ¬ t.toList = ([] : List UInt8) := by
    intro e
    have h9 : t.toList.length = 0 := by rw [e]; rfl
    rw [len_toList] at h9
    omega
  have hb := digs_at h 0 (by omega)
  have hsum : ∀ K, t.size + 1 < K → num_sum.f K t = some (if dv t t.size ≤ 18446744073709551615 then (dv t t.size, true) else (0, false)) := by
    intro K hK
    have := sum_ok t h hs t.size 0 (by omega) (by simp [dv])
    have hk : num_sum.l0 (t.size + 1) t 0 (t.size : Int) 0 = some (if dv t t.size ≤ 18446744073709551615 then (dv t t.size, true) else (0, false)) := this
    unfold num_sum.f
    exact sum_more t hk K (by omega)
  refine ⟨t.size + 1 + (t.size + 10) + 1 + 1 + 1, ?_⟩
  unfold num_Parse.f
  have h45 : (bt t 0 == 45) = false := by rw [beq_eq_false_iff_ne]; intro e; have h0 : bt t ((0 : Nat) : Int) = 45 := e; omega
  rw [if_neg hne, if_pos (by omega), h45, num_Parse.j0, if_neg (by simp), num_Parse.j1, if_neg hne, if_pos (by omega)]
  have hl0 := parse_l0 t h hs (t.size + 10) (by omega) t.size 0 (by omega)
  rw [hsum _ (by omega)] at hl0
  have hrest : num_Parse.l0 (t.size + 1 + (t.size + 10)) t false (t.size : Int) 0 = some (if dv t t.size > 9223372036854775807 then (0, 11) else (dv t t.size, 0)) := by
    refine (show _ = _ from hl0).trans ?_
    simp only [Option.bind_some]
    have hn := dv_nonneg h t.size (Nat.le_refl _)
    have e10 : t.size + 10 = (t.size + 9) + 1 := by omega
    by_cases c : dv t t.size ≤ 18446744073709551615
    · rw [if_pos c]
      simp only [if_true]
      rw [e10, num_Parse.j4]
      by_cases c2 : dv t t.size > 9223372036854775807
      · rw [if_pos c2, decide_eq_true c2, if_pos rfl]
      · rw [if_neg c2, decide_eq_false c2, if_neg (by simp), if_neg (by simp)]
        have : wrap64 (dv t t.size) = dv t t.size := by unfold wrap64; omega
        rw [this]
    · rw [if_neg c]
      simp only [Bool.false_eq_true, if_false, Bool.not_false]
      rw [e10, num_Parse.j4, if_pos rfl, if_pos (by omega)]
  unfold parseP
  by_cases c : bt t 0 = 48
  · rw [if_pos c]
    by_cases c2 : (t.size : Int) > 1
    · rw [if_pos c2, if_pos ⟨c, by omega⟩, num_Parse.j2, if_pos rfl]
    · rw [if_neg c2, if_neg (fun q => by have := q.2; omega), num_Parse.j2, if_neg (by simp)]
      exact hrest
  · rw [if_neg c, if_neg (fun q => c q.1), num_Parse.j2, if_neg (by simp)]
    exact hrest
end Go.Proofs.Ytobkdmmnbnpemaa.Lx
