/- What the functions of package mem and of its document answer, in plain lists. -/
import Derived.Test.YthnkecficihgfaaK2
import Derived.Test.YthnkecficihgfaaO3
import Derived.IntWalk
namespace Go.Proofs.Ythnkecficihgfaa.PureA
open Go.RowKit Go.Proofs.YthnkecficihgfaaW.PrintWords Go.Proofs.YthnkecficihgfaaW.PrintMore Go.Proofs.Ythnkecficihgfaa.K

theorem w64 (x : Int) (h : -9223372036854775808 ≤ x ∧ x ≤ 9223372036854775807) : wrap64 x = x := IntWalk.wrap64_in x h

/-! ### reading -/
theorem rd_at (l : List Int) (i : Nat) (h : i < l.length) : rd l (i : Int) = l[i] := by simp [rd, List.getD_eq_getElem?_getD, h]
theorem rdT_at (l : List S47) (i : Nat) (h : i < l.length) : rd_T47 l (i : Int) = l[i] := by simp [rd_T47, List.getD_eq_getElem?_getD, h]
theorem rdT_mid (pre : List S47) (c : S47) (suf : List S47) : rd_T47 (pre ++ c :: suf) (pre.length : Int) = c := by simp [rd_T47, List.getD_eq_getElem?_getD]
theorem take_mid (pre : List S47) (c : S47) (suf : List S47) : (pre ++ c :: suf).take pre.length = pre := by simp
theorem take_snocT (l : List S47) (i : Nat) (h : i < l.length) : l.take (i + 1) = l.take i ++ [rd_T47 l (i : Int)] := by
  rw [rdT_at l i h, List.take_succ_eq_append_getElem h]

/-- The row told place by place. -/
def tab {α : Type} (n : Nat) (f : Nat → α) : List α := (List.range n).map f
theorem tab_len {α : Type} (n : Nat) (f : Nat → α) : (tab n f).length = n := by simp [tab]
theorem tab_snoc {α : Type} (n : Nat) (f : Nat → α) : tab n f ++ [f n] = tab (n + 1) f := by simp [tab, List.range_succ]
theorem tab_congr {α : Type} {n : Nat} {f g : Nat → α} (h : ∀ p, p < n → f p = g p) : tab n f = tab n g := by
  unfold tab
  exact List.map_congr_left (fun j hj => h j (by simpa using hj))
theorem tab_set {α : Type} (n : Nat) (f : Nat → α) (i : Nat) (v : α) : (tab n f).set i v = tab n (fun p => if p = i then v else f p) := by
  apply List.ext_getElem?
  intro j
  simp only [tab, List.getElem?_set, List.getElem?_map, List.length_map, List.length_range]
  by_cases h : j < n
  · by_cases e : i = j
    · subst e; simp [h]
    · have e' : ¬ j = i := fun x => e x.symm
      simp [h, e, e']
  · by_cases e : i = j
    · subst e; simp [h]
    · simp [h, e]
theorem tab_of (l : List Int) : tab l.length (fun p => rd l (p : Int)) = l := by
  apply List.ext_getElem (by simp [tab])
  intro i h1 h2
  simp [tab, rd_at l i h2]
theorem tab_rd (n : Nat) (f : Nat → Int) (p : Nat) (h : p < n) : rd (tab n f) (p : Int) = f p := by
  rw [rd_at _ _ (by rw [tab_len]; exact h)]
  simp [tab]
theorem tab_getD (n : Nat) (f : Nat → Bool) (p : Nat) (h : p < n) : (tab n f).getD p false = f p := by
  simp [tab, List.getD_eq_getElem?_getD, h]

/-! ### the last cell of a place -/
def lastL (cs : List S47) (p : Int) : Int × Bool := cs.foldl (fun acc c => if c.f0 = p then (c.f1, true) else acc) (0, false)
theorem lastL_nil (p : Int) : lastL [] p = (0, false) := rfl
theorem lastL_snoc (cs : List S47) (c : S47) (p : Int) : lastL (cs ++ [c]) p = if c.f0 = p then (c.f1, true) else lastL cs p := by simp [lastL, List.foldl_append]
theorem snoc_ind {P : List S47 → Prop} (h0 : P []) (h1 : ∀ l c, P l → P (l ++ [c])) (l : List S47) : P l := by
  have h : ∀ r : List S47, P r.reverse := by
    intro r
    induction r with
    | nil => exact h0
    | cons c r ih => rw [List.reverse_cons]; exact h1 _ _ ih
  have := h l.reverse
  rwa [List.reverse_reverse] at this
theorem lastL_zero (cs : List S47) (p : Int) : (lastL cs p).2 = false → (lastL cs p).1 = 0 := by
  induction cs using snoc_ind with
  | h0 => intro _; rfl
  | h1 cs c ih =>
    rw [lastL_snoc]
    by_cases e : c.f0 = p
    · rw [if_pos e]; intro h; simp at h
    · rw [if_neg e]; exact ih
theorem lastL_mem (cs : List S47) (p : Int) : (lastL cs p).2 = true → ∃ c ∈ cs, c.f0 = p := by
  induction cs using snoc_ind with
  | h0 => intro h; simp [lastL_nil] at h
  | h1 cs c ih =>
    rw [lastL_snoc]
    by_cases e : c.f0 = p
    · intro _; exact ⟨c, by simp, e⟩
    · rw [if_neg e]
      intro h
      obtain ⟨d, hd, e'⟩ := ih h
      exact ⟨d, by simp [hd], e'⟩

theorem last_l0 (cs : List S47) (p : Int) (hcs : cs.length ≤ 1000000) : ∀ j : Nat, j ≤ cs.length → Ev (fun k => outriderref13_last.l0 k cs p ((j : Int) - 1)) (lastL (cs.take j) p) := by
  intro j
  induction j with
  | zero =>
    intro _
    refine ⟨1, fun k hk => ?_⟩
    obtain ⟨k, rfl⟩ : ∃ m, k = m + 1 := ⟨k - 1, by omega⟩
    show outriderref13_last.l0 (k + 1) _ _ _ = _
    rw [outriderref13_last.l0, if_neg (by omega)]
    rfl
  | succ j ih =>
    intro hj
    have e : (((j + 1 : Nat) : Int) - 1) = (j : Int) := by omega
    rw [e, take_snocT cs j (by omega), lastL_snoc]
    by_cases c : (rd_T47 cs (j : Int)).f0 = p
    · rw [if_pos c]
      refine ⟨1, fun k hk => ?_⟩
      obtain ⟨k, rfl⟩ : ∃ m, k = m + 1 := ⟨k - 1, by omega⟩
      show outriderref13_last.l0 (k + 1) _ _ _ = _
      rw [outriderref13_last.l0, if_pos (by omega), if_pos (by omega), if_pos (by omega), if_pos c]
    · rw [if_neg c]
      refine Ev.step (fun k => ?_) (ih (by omega))
      rw [outriderref13_last.l0, if_pos (by omega), if_pos (by omega), if_pos (by omega), if_neg c, w64 _ (by omega)]

theorem last_val (cs : List S47) (p : Int) (hcs : cs.length ≤ 1000000) : Ev (fun k => outriderref13_last.f k cs p) (lastL cs p) := by
  have h := last_l0 cs p hcs cs.length (Nat.le_refl _)
  rw [List.take_length] at h
  refine Ev.congr (fun k => ?_) h
  unfold outriderref13_last.f
  rw [w64 _ (by omega)]

/-! ### rows that are the same -/
theorem row_l0 (l : List Int) (hl : l.length ≤ 1000000) (d : Nat) : ∀ i : Nat, i + d = l.length → Ev (fun k => outriderref07_Row.l0 k l l (i : Int)) true := by
  induction d with
  | zero =>
    intro i hi
    refine ⟨1, fun k hk => ?_⟩
    obtain ⟨k, rfl⟩ : ∃ m, k = m + 1 := ⟨k - 1, by omega⟩
    show outriderref07_Row.l0 (k + 1) _ _ _ = _
    rw [outriderref07_Row.l0, if_neg (by omega)]
  | succ d ih =>
    intro i hi
    refine Ev.step (fun k => ?_) (ih (i + 1) (by omega))
    rw [outriderref07_Row.l0, if_pos (by omega), if_pos (by omega), if_pos (by omega), if_pos rfl, w64 _ (by omega)]
    rfl
theorem row_same (l : List Int) (hl : l.length ≤ 1000000) : Ev (fun k => outriderref07_Row.f k l l) true := by
  refine Ev.congr (fun k => ?_) (row_l0 l hl l.length 0 (by omega))
  unfold outriderref07_Row.f
  rw [if_pos rfl]
  rfl
theorem same_l0 (l : List S47) (hl : l.length ≤ 1000000) (d : Nat) : ∀ i : Nat, i + d = l.length → Ev (fun k => outriderref13_Same.l0 k l l (i : Int)) true := by
  induction d with
  | zero =>
    intro i hi
    refine ⟨1, fun k hk => ?_⟩
    obtain ⟨k, rfl⟩ : ∃ m, k = m + 1 := ⟨k - 1, by omega⟩
    show outriderref13_Same.l0 (k + 1) _ _ _ = _
    rw [outriderref13_Same.l0, if_neg (by omega)]
  | succ d ih =>
    intro i hi
    refine Ev.step (fun k => ?_) (ih (i + 1) (by omega))
    rw [outriderref13_Same.l0, if_pos (by omega), if_pos (by omega), if_pos (by omega), if_neg (by simp), w64 _ (by omega)]
    rfl
theorem same_same (l : List S47) (hl : l.length ≤ 1000000) : Ev (fun k => outriderref13_Same.f k l l) true := by
  refine Ev.congr (fun k => ?_) (same_l0 l hl l.length 0 (by omega))
  unfold outriderref13_Same.f
  rw [if_pos rfl]
  rfl

/-! ### where two memories differ -/
def diffU (a b : List Int) : Nat → List S47
  | 0 => []
  | i + 1 => if rd a (i : Int) = rd b (i : Int) then diffU a b i else diffU a b i ++ [(⟨(i : Int), rd b (i : Int)⟩ : S47)]
theorem diffU_len (a b : List Int) : ∀ i, (diffU a b i).length ≤ i
  | 0 => by simp [diffU]
  | i + 1 => by
    have := diffU_len a b i
    unfold diffU
    split
    · omega
    · simp; omega
theorem diff_l0 (a b : List Int) (n : Nat) (ha : n ≤ a.length) (hb : n ≤ b.length) (hn : n ≤ 1000000) (d : Nat) :
    ∀ i : Nat, i + d = n → Ev (fun k => mem_Diff.l0 k a b (diffU a b i) (n : Int) (i : Int)) (diffU a b n) := by
  induction d with
  | zero =>
    intro i hi
    obtain rfl : i = n := by omega
    refine ⟨1, fun k hk => ?_⟩
    obtain ⟨k, rfl⟩ : ∃ m, k = m + 1 := ⟨k - 1, by omega⟩
    show mem_Diff.l0 (k + 1) _ _ _ _ _ = _
    rw [mem_Diff.l0, if_neg (by omega)]
  | succ d ih =>
    intro i hi
    refine Ev.step (fun k => ?_) (ih (i + 1) (by omega))
    have hl := diffU_len a b i
    rw [mem_Diff.l0, if_pos (by omega), if_pos (by omega), if_pos (by omega), if_pos (by omega), w64 _ (by omega)]
    have e : diffU a b (i + 1) = if rd a (i : Int) = rd b (i : Int) then diffU a b i else diffU a b i ++ [(⟨(i : Int), rd b (i : Int)⟩ : S47)] := rfl
    rw [e]
    by_cases c : rd a (i : Int) = rd b (i : Int)
    · rw [if_pos c, if_pos c]; rfl
    · rw [if_neg c, if_neg c, if_pos (by omega)]; rfl
theorem diff_val (a b : List Int) (ha : a.length ≤ 1000000) : Ev (fun k => mem_Diff.f k a b) (diffU a b (min a.length b.length)) := by
  refine Ev.congr (fun k => ?_) (diff_l0 a b (min a.length b.length) (by omega) (by omega) (by omega) _ 0 (Nat.zero_add _))
  unfold mem_Diff.f
  have : mn (a.length : Int) (b.length : Int) = ((min a.length b.length : Nat) : Int) := by unfold mn; split <;> omega
  rw [this]
  rfl
theorem rdiff_l0 (a b : List Int) (ha : a.length ≤ 1000000) (d : Nat) :
    ∀ i : Nat, i + d = min a.length b.length → Ev (fun k => outriderref13_Diff.l0 k a b (diffU a b i) (i : Int)) (diffU a b (min a.length b.length)) := by
  induction d with
  | zero =>
    intro i hi
    obtain rfl : i = min a.length b.length := by omega
    refine Ev.step (f := fun k => outriderref13_Diff.j1 k a b (diffU a b (min a.length b.length)) ((min a.length b.length : Nat) : Int) false) (fun k => ?_) ?_
    · rw [outriderref13_Diff.l0]
      by_cases c : ((min a.length b.length : Nat) : Int) < (a.length : Int)
      · rw [if_pos c, decide_eq_false (by omega)]
      · rw [if_neg c]
    · refine ⟨1, fun k hk => ?_⟩
      obtain ⟨k, rfl⟩ : ∃ m, k = m + 1 := ⟨k - 1, by omega⟩
      show outriderref13_Diff.j1 (k + 1) _ _ _ _ _ = _
      rw [outriderref13_Diff.j1, if_neg (by decide)]
  | succ d ih =>
    intro i hi
    refine Ev.step (f := fun k => outriderref13_Diff.j1 k a b (diffU a b i) (i : Int) true) (fun k => ?_) (Ev.step (fun k => ?_) (ih (i + 1) (by omega)))
    · rw [outriderref13_Diff.l0, if_pos (by omega), decide_eq_true (by omega)]
    · have hl := diffU_len a b i
      rw [outriderref13_Diff.j1, if_pos rfl, if_pos (by omega), if_pos (by omega), if_pos (by omega), w64 _ (by omega)]
      have e : diffU a b (i + 1) = if rd a (i : Int) = rd b (i : Int) then diffU a b i else diffU a b i ++ [(⟨(i : Int), rd b (i : Int)⟩ : S47)] := rfl
      rw [e]
      by_cases c : rd a (i : Int) = rd b (i : Int)
      · rw [if_pos c, if_pos c]; rfl
      · rw [if_neg c, if_neg c, if_pos (by omega)]; rfl
theorem rdiff_val (a b : List Int) (ha : a.length ≤ 1000000) : Ev (fun k => outriderref13_Diff.f k a b) (diffU a b (min a.length b.length)) := by
  refine Ev.congr (fun k => ?_) (rdiff_l0 a b ha _ 0 (Nat.zero_add _))
  rfl

/-! ### the words that are not 0 -/
def zeros (a : List Int) : List Int := List.replicate a.length 0
theorem rd_zeros (a : List Int) (i : Nat) : rd (zeros a) (i : Int) = 0 := by
  simp only [rd, zeros, Int.toNat_natCast, List.getD_eq_getElem?_getD, List.getElem?_replicate]
  split <;> rfl
theorem cells_l0 (a : List Int) (ha : a.length ≤ 1000000) (d : Nat) :
    ∀ i : Nat, i + d = a.length → Ev (fun k => mem_Cells.l0 k (diffU (zeros a) a i) a (a.length : Int) (i : Int)) (diffU (zeros a) a a.length) := by
  induction d with
  | zero =>
    intro i hi
    obtain rfl : i = a.length := by omega
    refine ⟨1, fun k hk => ?_⟩
    obtain ⟨k, rfl⟩ : ∃ m, k = m + 1 := ⟨k - 1, by omega⟩
    show mem_Cells.l0 (k + 1) _ _ _ _ = _
    rw [mem_Cells.l0, if_neg (by omega)]
  | succ d ih =>
    intro i hi
    refine Ev.step (fun k => ?_) (ih (i + 1) (by omega))
    have hl := diffU_len (zeros a) a i
    rw [mem_Cells.l0, if_pos (by omega), if_pos (by omega), if_pos (by omega), w64 _ (by omega)]
    have e : diffU (zeros a) a (i + 1) = if rd (zeros a) (i : Int) = rd a (i : Int) then diffU (zeros a) a i else diffU (zeros a) a i ++ [(⟨(i : Int), rd a (i : Int)⟩ : S47)] := rfl
    rw [e, rd_zeros]
    by_cases c : rd a (i : Int) = 0
    · rw [if_pos c, if_pos c.symm]; rfl
    · rw [if_neg c, if_pos (by omega), if_neg (fun h => c h.symm)]; rfl
theorem cells_val (a : List Int) (ha : a.length ≤ 1000000) : Ev (fun k => mem_Cells.f k a) (diffU (zeros a) a a.length) :=
  Ev.congr (fun _ => rfl) (cells_l0 a ha _ 0 (Nat.zero_add _))
theorem rcells_val (a : List Int) (ha : a.length ≤ 1000000) : Ev (fun k => outriderref13_Cells.f k a) (diffU (zeros a) a a.length) := by
  have h := rdiff_val (zeros a) a (by simp [zeros]; exact ha)
  rw [show min (zeros a).length a.length = a.length from by simp [zeros]] at h
  refine Ev.congr (fun k => ?_) (Ev.bind h (Ev.now _))
  unfold outriderref13_Cells.f
  rw [if_pos (by omega), if_pos (by omega)]
  rfl

end Go.Proofs.Ythnkecficihgfaa.PureA
