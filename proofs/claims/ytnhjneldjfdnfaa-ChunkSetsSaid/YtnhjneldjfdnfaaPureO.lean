/- Once: what Next does to a dealer, for the law ChunkOnce: plain numbers. -/
import Derived.Test.YtnhjneldjfdnfaaPureC
import Derived.Test.YtnhjneldjfdnfaaLLeast
namespace Go.Proofs.Ytnhjneldjfdnfaa.K
open Go.RowKit

/-- Where the next chunk of a worker begins, how far it is, and is it done. -/
def D.lo (d : D) (x : Nat) : Int := if d.pol = 1 then d.from x else d.nx
def D.pr (d : D) (x : Nat) : Int := if d.pol = 1 then d.tn.getD x 0 else d.nx
def D.dn (d : D) (x : Nat) : Prop := d.n ≤ d.lo x

theorem from_mono (d d' : D) (hs : Same4 d d') (h : d.ok) (x : Nat) (ht : d.tn.getD x 0 ≤ d'.tn.getD x 0) : d.from x ≤ d'.from x := by
  obtain ⟨o1, o2, o3, o4, o5, o6, o7, o8, o9, o10, o11, o12⟩ := h
  obtain ⟨e1, e2, e3, e4⟩ := hs
  unfold D.from
  rw [e3, e4]
  have h1 : d.tn.getD x 0 * d.wk ≤ d'.tn.getD x 0 * d.wk := Int.mul_le_mul_of_nonneg_right ht (by omega)
  exact Int.mul_le_mul_of_nonneg_right (by omega) (by omega)

theorem from_succ (d : D) (x : Nat) (t : Int) (ht : d.tn.getD x 0 = t) (hx : x < d.tn.length) (h : d.ok) : d.from x + d.sz ≤ (d.turn x).from x := by
  obtain ⟨o1, o2, o3, o4, o5, o6, o7, o8, o9, o10, o11, o12⟩ := h
  have e1 : (d.turn x).tn.getD x 0 = t + 1 := by
    unfold D.turn
    rw [ht]
    simp [List.getD_eq_getElem?_getD, hx]
  have e2 : (d.turn x).wk = d.wk := rfl
  have e3 : (d.turn x).sz = d.sz := rfl
  unfold D.from
  rw [e1, e2, e3, ht]
  have e4 : ((t + 1) * d.wk + x) * d.sz = (t * d.wk + x) * d.sz + d.wk * d.sz := by
    rw [Int.add_mul t 1, Int.one_mul, Int.add_right_comm, Int.add_mul]
  have e5 : 1 * d.sz ≤ d.wk * d.sz := Int.mul_le_mul_of_nonneg_right o5 (by omega)
  omega

theorem turn_other (d : D) (x y : Nat) (h : y ≠ x) : (d.turn x).tn.getD y 0 = d.tn.getD y 0 := by
  unfold D.turn
  simp only [List.getD_eq_getElem?_getD]
  rw [List.getElem?_set_ne (fun q => h q.symm)]

/-- What Next does, all of it. -/
structure Step (d d' : D) (x f t : Int) (ok : Bool) : Prop where
  same : Same4 d d'
  inn : ok = true → 0 ≤ x ∧ x < d.wk
  from_ : ok = true → f = d.lo x.toNat
  to_ : ok = true → t ≤ d'.lo x.toNat
  lo : ∀ y : Nat, d.lo y ≤ d'.lo y
  pr : ∀ y : Nat, d.pr y ≤ d'.pr y
  more : 0 ≤ x → x < d.wk → d'.dn x.toNat ∨ d.pr x.toNat + 1 ≤ d'.pr x.toNat
  fresh : ok = true → ∀ a : Nat, f ≤ a → (a : Int) < t → d.got a = false

theorem next_step (d : D) (h : d.ok) (x : Int) : Step d (d.next x).1 x (d.next x).2.1 (d.next x).2.2.1 (d.next x).2.2.2 := by
  have hs := next_same d x
  unfold D.next at hs ⊢
  by_cases c : x < 0 ∨ d.wk ≤ x
  · rw [if_pos c] at hs ⊢
    exact ⟨hs, fun e => by simp at e, fun e => by simp at e, fun e => by simp at e, fun y => Int.le_refl _, fun y => Int.le_refl _, fun h1 h2 => by omega, fun e => by simp at e⟩
  · rw [if_neg c] at hs ⊢
    have o := h
    obtain ⟨o1, o2, o3, o4, o5, o6, o7, o8, o9, o10, o11, o12⟩ := o
    have hx : x.toNat < d.wk.toNat := by omega
    have hxl : x.toNat < d.tn.length := by omega
    by_cases hp : d.pol = 1
    · have htake : d.take x.toNat = if d.from x.toNat < d.n then (d.turn x.toNat, d.from x.toNat, mn2 d.n (d.from x.toNat + d.sz)) else (d, 0, 0) := by unfold D.take; rw [if_pos hp]
      by_cases c2 : d.from x.toNat < d.n
      · rw [if_pos c2] at htake
        have hlt : ¬ d.from x.toNat ≥ mn2 d.n (d.from x.toNat + d.sz) := by unfold mn2; split <;> omega
        rw [htake] at hs ⊢
        simp only at hs ⊢
        rw [if_neg hlt] at hs ⊢
        have hp' : (d.turn x.toNat).pol = 1 := hp
        have htn : ∀ y : Nat, d.tn.getD y 0 ≤ (d.turn x.toNat).tn.getD y 0 := by
          intro y
          by_cases e : y = x.toNat
          · subst e
            have e1 : (d.turn x.toNat).tn.getD x.toNat 0 = d.tn.getD x.toNat 0 + 1 := by
              unfold D.turn; simp [List.getD_eq_getElem?_getD, hxl]
            omega
          · rw [turn_other d _ _ e]; exact Int.le_refl _
        refine ⟨hs, fun _ => by omega, fun _ => by unfold D.lo; rw [if_pos hp], fun _ => ?_, fun y => ?_, fun y => ?_, fun _ _ => .inr ?_, fun _ a h1 h2 => ?_⟩
        · unfold D.lo
          rw [if_pos hp']
          have := from_succ d x.toNat _ rfl hxl h
          simp only
          unfold mn2
          split <;> omega
        · unfold D.lo
          rw [if_pos hp, if_pos hp']
          exact from_mono d _ hs h y (htn y)
        · unfold D.pr
          rw [if_pos hp, if_pos hp']
          exact htn y
        · unfold D.pr
          rw [if_pos hp, if_pos hp']
          unfold D.turn
          simp [List.getD_eq_getElem?_getD, hxl]
        · obtain ⟨t, ht⟩ := turn_nat d h x.toNat hx
          have hf := from_nat d h x.toNat t ht
          simp only at h1 h2
          rw [hf] at h1 h2
          have hM : mn2 d.n ((((t * d.wk.toNat + x.toNat) * d.sz.toNat : Nat) : Int) + d.sz) ≤ (((t * d.wk.toNat + x.toNat) * d.sz.toNat : Nat) : Int) + d.sz := by unfold mn2; split <;> omega
          have hc := (chunk_iff a d.sz.toNat (t * d.wk.toNat + x.toNat) (by omega)).2 ⟨by omega, by omega⟩
          have hw := (worker_iff (a / d.sz.toNat) d.wk.toNat t x.toNat hx).2 hc
          unfold D.got
          rw [if_pos hp, hw.1, hw.2, ht]
          exact decide_eq_false (Int.lt_irrefl _)
      · rw [if_neg c2] at htake
        rw [htake] at hs ⊢
        simp only [ge_iff_le, Int.le_refl, if_true] at hs ⊢
        exact ⟨hs, fun e => by simp at e, fun e => by simp at e, fun e => by simp at e, fun y => Int.le_refl _, fun y => Int.le_refl _, fun _ _ => .inl (by unfold D.dn D.lo; rw [if_pos hp]; omega), fun e => by simp at e⟩
    · rw [take_other d hp x.toNat] at hs ⊢
      have hm := many_pos d h
      have hnx : (d.some d.many).nx = mn2 d.n (d.nx + d.many) := rfl
      have hp' : ¬ (d.some d.many).pol = 1 := hp
      have hmm : d.nx ≤ mn2 d.n (d.nx + d.many) := by unfold mn2; split <;> omega
      simp only at hs ⊢
      by_cases c2 : d.nx ≥ (d.some d.many).nx
      · rw [if_pos c2] at hs ⊢
        refine ⟨hs, fun e => by simp at e, fun e => by simp at e, fun e => by simp at e, fun y => ?_, fun y => ?_, fun _ _ => .inl ?_, fun e => by simp at e⟩
        · unfold D.lo; rw [if_neg hp, if_neg hp', hnx]; exact hmm
        · unfold D.pr; rw [if_neg hp, if_neg hp', hnx]; exact hmm
        · unfold D.dn D.lo
          rw [if_neg hp', hnx]
          rw [hnx] at c2
          have : (d.some d.many).n = d.n := rfl
          rw [this]
          revert c2
          unfold mn2
          split <;> intro c2 <;> omega
      · rw [if_neg c2] at hs ⊢
        refine ⟨hs, fun _ => by omega, fun _ => by unfold D.lo; rw [if_neg hp], fun _ => by unfold D.lo; rw [if_neg hp']; exact Int.le_refl _, fun y => ?_, fun y => ?_, fun _ _ => .inr ?_, fun _ a h1 h2 => ?_⟩
        · unfold D.lo; rw [if_neg hp, if_neg hp', hnx]; exact hmm
        · unfold D.pr; rw [if_neg hp, if_neg hp', hnx]; exact hmm
        · unfold D.pr; rw [if_neg hp, if_neg hp']; simp only; omega
        · unfold D.got
          rw [if_neg hp]
          exact decide_eq_false (by simp only at h1; omega)

/-- How often worker y was asked among the first m asks that go round. -/
def cnt (k m y : Nat) : Nat := m / k + if y < m % k then 1 else 0
theorem cnt_succ (k m y : Nat) (hk : 0 < k) (hy : y < k) : cnt k (m + 1) y = cnt k m y + if m % k = y then 1 else 0 := by
  have h1 := Nat.div_add_mod m k
  have h2 := Nat.mod_lt m hk
  unfold cnt
  by_cases c : m % k + 1 < k
  · have e : m + 1 = (m % k + 1) + k * (m / k) := by omega
    have q1 : (m + 1) / k = m / k := by rw [e, Nat.add_mul_div_left _ _ hk, Nat.div_eq_of_lt c, Nat.zero_add]
    have q2 : (m + 1) % k = m % k + 1 := by rw [e, Nat.add_mul_mod_self_left, Nat.mod_eq_of_lt c]
    rw [q1, q2]
    generalize m % k = r at *
    by_cases a : y < r
    · rw [if_pos (by omega), if_pos a, if_neg (by omega)]
    · by_cases b : r = y
      · rw [if_pos (by omega), if_neg a, if_pos b]
      · rw [if_neg (by omega), if_neg a, if_neg b]
  · have e : m + 1 = 0 + k * (m / k + 1) := by rw [Nat.mul_add, Nat.mul_one]; omega
    have q1 : (m + 1) / k = m / k + 1 := by rw [e, Nat.add_mul_div_left _ _ hk, Nat.zero_div, Nat.zero_add]
    have q2 : (m + 1) % k = 0 := by rw [e, Nat.add_mul_mod_self_left, Nat.zero_mod]
    rw [q1, q2]
    generalize m % k = r at *
    by_cases a : y < r
    · rw [if_neg (by omega), if_pos a, if_neg (by omega)]
    · rw [if_neg (by omega), if_neg a, if_pos (by omega)]
theorem cnt_end (k q y : Nat) (hk : 0 < k) : cnt k (q * k) y = q := by
  unfold cnt
  rw [Nat.mul_mod_left, if_neg (by omega), Nat.mul_div_cancel _ hk, Nat.add_zero]

/-- Enough asked: each worker is done, or has come far. -/
def Far (d : D) (m : Nat) : Prop := ∀ y : Nat, y < d.wk.toNat → d.dn y ∨ (cnt d.wk.toNat m y : Int) ≤ d.pr y
theorem far_zero (d : D) (h : d.ok) : Far d 0 := by
  obtain ⟨o1, o2, o3, o4, o5, o6, o7, o8, o9, o10, o11, o12⟩ := h
  intro y hy
  right
  have e : cnt d.wk.toNat 0 y = 0 := by unfold cnt; simp
  rw [e]
  unfold D.pr
  split
  · have hl : y < d.tn.length := by omega
    have e : d.tn.getD y 0 = d.tn[y] := by simp [List.getD_eq_getElem?_getD, hl]
    rw [e]
    exact (o12 _ (List.getElem_mem hl)).1
  · exact o9
theorem dn_mono {d d' : D} {x f t : Int} {ok : Bool} (h : Step d d' x f t ok) (y : Nat) (hd : d.dn y) : d'.dn y := by
  have := h.lo y
  obtain ⟨_, e, _, _⟩ := h.same
  unfold D.dn at *
  omega
theorem far_any {d d' : D} {x f t : Int} {ok : Bool} (h : Step d d' x f t ok) (m : Nat) (hf : Far d m) : Far d' m := by
  intro y hy
  have e := h.same.2.2.1
  rw [e] at hy ⊢
  rcases hf y hy with a | a
  · exact .inl (dn_mono h y a)
  · have := h.pr y
    exact .inr (by omega)
theorem far_step {d d' : D} {f t : Int} {ok : Bool} (m : Nat) (h : Step d d' ((m % d.wk.toNat : Nat) : Int) f t ok) (hk : 1 ≤ d.wk) (hf : Far d m) : Far d' (m + 1) := by
  intro y hy
  have e := h.same.2.2.1
  rw [e] at hy ⊢
  have hc := cnt_succ d.wk.toNat m y (by omega) hy
  have hml := Nat.mod_lt m (show 0 < d.wk.toNat by omega)
  have hmore := h.more (by omega) (by omega)
  rw [Int.toNat_natCast] at hmore
  rcases hf y hy with a | a
  · exact .inl (dn_mono h y a)
  · by_cases q : m % d.wk.toNat = y
    · rw [if_pos q] at hc
      rw [q] at hmore
      rcases hmore with b | b
      · exact .inl b
      · exact .inr (by omega)
    · rw [if_neg q] at hc
      have := h.pr y
      exact .inr (by omega)
theorem far_all (d : D) (h : d.ok) (hf : Far d ((d.n.toNat + 1) * d.wk.toNat)) (a : Nat) (ha : (a : Int) < d.n) : d.got a = true := by
  have o := h
  obtain ⟨o1, o2, o3, o4, o5, o6, o7, o8, o9, o10, o11, o12⟩ := o
  have hk : 0 < d.wk.toNat := by omega
  have hd : ∀ y : Nat, y < d.wk.toNat → d.dn y := by
    intro y hy
    rcases hf y hy with b | b
    · exact b
    · rw [cnt_end _ _ _ hk] at b
      unfold D.dn D.lo
      unfold D.pr at b
      by_cases hp : d.pol = 1
      · rw [if_pos hp] at b ⊢
        obtain ⟨t, ht⟩ := turn_nat d h y hy
        rw [from_nat d h y t ht]
        rw [ht] at b
        have e1 : t * 1 ≤ t * d.wk.toNat := Nat.mul_le_mul_left _ (by omega)
        have e2 : (t * d.wk.toNat + y) * 1 ≤ (t * d.wk.toNat + y) * d.sz.toNat := Nat.mul_le_mul_left _ (by omega)
        omega
      · rw [if_neg hp] at b ⊢
        omega
  unfold D.got
  by_cases hp : d.pol = 1
  · rw [if_pos hp]
    have hy := Nat.mod_lt (a / d.sz.toNat) hk
    have hdy := hd _ hy
    obtain ⟨t, ht⟩ := turn_nat d h _ hy
    have hf := from_nat d h _ t ht
    unfold D.dn D.lo at hdy
    rw [if_pos hp, hf] at hdy
    rw [ht]
    refine decide_eq_true ?_
    have h1 := Nat.div_add_mod (a / d.sz.toNat) d.wk.toNat
    by_cases q : a / d.sz.toNat / d.wk.toNat < t
    · omega
    · exfalso
      have e1 : t * d.wk.toNat ≤ a / d.sz.toNat / d.wk.toNat * d.wk.toNat := Nat.mul_le_mul_right _ (by omega)
      have e2 : t * d.wk.toNat + a / d.sz.toNat % d.wk.toNat ≤ a / d.sz.toNat := by
        rw [Nat.mul_comm (a / d.sz.toNat / d.wk.toNat)] at e1
        omega
      have e3 := Nat.mul_le_mul_right d.sz.toNat e2
      have e4 := Nat.div_mul_le_self a d.sz.toNat
      omega
  · rw [if_neg hp]
    have := hd 0 hk
    unfold D.dn D.lo at this
    rw [if_neg hp] at this
    exact decide_eq_true (by omega)
theorem tail_eq (n wk : Int) (hn : 0 ≤ n) (hk : 0 ≤ wk) : (n + 1) * wk = (((n.toNat + 1) * wk.toNat : Nat) : Int) := by
  rw [Int.natCast_mul]
  have e1 : ((n.toNat + 1 : Nat) : Int) = n + 1 := by omega
  have e2 : ((wk.toNat : Nat) : Int) = wk := by omega
  rw [e1, e2]
/-- The row got while a chunk is marked. -/
def Gs (d : D) (n f c : Int) (G : List Int) : Prop := ∀ a : Nat, (a : Int) < n → G.getD a 0 = (if d.got a = true then 1 else 0) + (if f ≤ a ∧ (a : Int) < c then 1 else 0)
def Gd (d : D) (n : Int) (G : List Int) : Prop := ∀ a : Nat, (a : Int) < n → G.getD a 0 = if d.got a = true then 1 else 0
theorem gs_start {d : D} {n : Int} {G : List Int} (f : Int) (h : Gd d n G) : Gs d n f f G := by
  intro a ha
  rw [h a ha, if_neg (show ¬ (f ≤ a ∧ (a : Int) < f) by omega), Int.add_zero]
theorem gs_cell {d : D} {n f t : Int} {G : List Int} {m : Nat} (h : Gs d n f m G) (hfr : ∀ a : Nat, f ≤ a → (a : Int) < t → d.got a = false) (h1 : f ≤ m) (h2 : (m : Int) < t) (h3 : (m : Int) < n) : G.getD m 0 = 0 := by
  rw [h m h3, hfr m h1 h2, if_neg (by simp), if_neg (by omega)]
  rfl
theorem gs_step {d : D} {n f t : Int} {G : List Int} {m : Nat} (h : Gs d n f m G) (hfr : ∀ a : Nat, f ≤ a → (a : Int) < t → d.got a = false) (h1 : f ≤ m) (h2 : (m : Int) < t) (hl : m < G.length) : Gs d n f ((m : Int) + 1) (G.set m 1) := by
  intro a ha
  by_cases e : a = m
  · subst e
    have e1 : (G.set a 1).getD a 0 = 1 := by simp [List.getD_eq_getElem?_getD, hl]
    rw [e1, hfr a h1 h2, if_neg (by simp), if_pos (by omega)]
    rfl
  · have e1 : (G.set m 1).getD a 0 = G.getD a 0 := by
      simp only [List.getD_eq_getElem?_getD]
      rw [List.getElem?_set_ne (fun q => e q.symm)]
    rw [e1, h a ha]
    congr 1
    by_cases q : f ≤ a ∧ (a : Int) < m
    · rw [if_pos q, if_pos (by omega)]
    · rw [if_neg q, if_neg (by omega)]
theorem gs_end {d d' : D} {n f t : Int} {G : List Int} (h : Gs d n f t G) (hfr : ∀ a : Nat, f ≤ a → (a : Int) < t → d.got a = false)
    (hg : ∀ a : Nat, (a : Int) < n → d'.got a = (d.got a || (true && (decide (f ≤ a) && decide ((a : Int) < t))))) : Gd d' n G := by
  intro a ha
  rw [h a ha, hg a ha]
  by_cases q : f ≤ a ∧ (a : Int) < t
  · rw [hfr a q.1 q.2, if_pos q, decide_eq_true q.1, decide_eq_true q.2]
    simp
  · rw [if_neg q]
    have e : (decide (f ≤ (a : Int)) && decide ((a : Int) < t)) = false := by
      rw [Bool.and_eq_false_iff]
      simp only [decide_eq_false_iff_not]
      omega
    rw [e]
    simp
def Ld (d : D) (wk : Int) (L : List Int) : Prop := ∀ y : Nat, y < wk.toNat → L.getD y 0 ≤ d.lo y
theorem ld_any {d d' : D} {x f t wk : Int} {ok : Bool} {L : List Int} (h : Step d d' x f t ok) (hl : Ld d wk L) : Ld d' wk L := fun y hy => Int.le_trans (hl y hy) (h.lo y)
theorem ld_set {d d' : D} {x : Nat} {f t wk : Int} {L : List Int} (h : Step d d' x f t true) (hl : Ld d wk L) (hx : x < L.length) : Ld d' wk (L.set x t) := by
  intro y hy
  by_cases e : y = x
  · subst e
    have e1 : (L.set y t).getD y 0 = t := by simp [List.getD_eq_getElem?_getD, hx]
    rw [e1]
    have := h.to_ rfl
    rw [Int.toNat_natCast] at this
    exact this
  · have e1 : (L.set x t).getD y 0 = L.getD y 0 := by
      simp only [List.getD_eq_getElem?_getD]
      rw [List.getElem?_set_ne (fun q => e q.symm)]
    rw [e1]
    exact Int.le_trans (hl y hy) (h.lo y)
/-- Who asks at place i: those that came in, then one behind the other. -/
def askers (xs : List Int) (k : Nat) (m : Nat) : List Int := xs ++ (List.range m).map (fun j => ((j % k : Nat) : Int))
theorem askers_len (xs : List Int) (k m : Nat) : (askers xs k m).length = xs.length + m := by simp [askers]
theorem askers_succ (xs : List Int) (k m : Nat) : askers xs k m ++ [((m % k : Nat) : Int)] = askers xs k (m + 1) := by
  unfold askers
  rw [List.range_succ, List.map_append, List.append_assoc]
  rfl
theorem askers_at (xs : List Int) (k m i : Nat) (h1 : xs.length ≤ i) (h2 : i < xs.length + m) : (askers xs k m).getD i 0 = (((i - xs.length) % k : Nat) : Int) := by
  unfold askers
  rw [List.getD_eq_getElem?_getD, List.getElem?_append_right h1]
  simp only [List.getElem?_map]
  rw [List.getElem?_range (by omega)]
  rfl
theorem far_round {d d' : D} {xs : List Int} {k m i : Nat} {f t : Int} {ok : Bool} (hk : k = d.wk.toNat) (hw : 1 ≤ d.wk) (h : Step d d' ((askers xs k m).getD i 0) f t ok) (hi : i < xs.length + m) (hf : Far d (i - xs.length)) : Far d' (i + 1 - xs.length) := by
  by_cases c : xs.length ≤ i
  · rw [askers_at xs k m i c hi, hk] at h
    have e : i + 1 - xs.length = (i - xs.length) + 1 := by omega
    rw [e]
    exact far_step _ h hw hf
  · have e : i + 1 - xs.length = i - xs.length := by omega
    rw [e]
    exact far_any h _ hf
end Go.Proofs.Ytnhjneldjfdnfaa.K
