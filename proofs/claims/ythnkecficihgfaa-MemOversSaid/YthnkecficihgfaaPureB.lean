/- Put and Of, and the plain laws behind MemMakes, MemCells and MemBack. -/
import Derived.Test.YthnkecficihgfaaPureA
import Derived.Test.YthnkecficihgfaaKCells
import Derived.Test.YthnkecficihgfaaKMakes
import Derived.Test.YthnkecficihgfaaKBack
namespace Go.Proofs.Ythnkecficihgfaa.PureA
open Go.RowKit Go.Proofs.YthnkecficihgfaaW.PrintWords Go.Proofs.YthnkecficihgfaaW.PrintMore Go.Proofs.Ythnkecficihgfaa.K

/-! ### Put -/
def inR (n : Int) (c : S47) : Bool := decide (0 ≤ c.f0) && decide (c.f0 < n)
def mixF (m : List Int) (cs : List S47) (p : Nat) : Int := if (lastL cs p).2 = true then (lastL cs p).1 else rd m (p : Int)
def mixR (m : List Int) (cs : List S47) : List Int := tab m.length (mixF m cs)
def putR (m : List Int) (cs : List S47) : List Int × Int := if cs.all (inR m.length) = true then (mixR m cs, 0) else ([], 131)

theorem mix_nil (m : List Int) : mixR m [] = m := by
  have : mixR m [] = tab m.length (fun p => rd m (p : Int)) := tab_congr (fun p _ => by simp [mixF, lastL_nil])
  rw [this, tab_of]
theorem mix_snoc (m : List Int) (cs : List S47) (c : S47) (h0 : 0 ≤ c.f0) (_h1 : c.f0 < m.length) : (mixR m cs).set c.f0.toNat c.f1 = mixR m (cs ++ [c]) := by
  unfold mixR
  rw [tab_set]
  refine tab_congr (fun p _ => ?_)
  unfold mixF
  rw [lastL_snoc]
  by_cases e : p = c.f0.toNat
  · have : c.f0 = (p : Int) := by omega
    rw [if_pos e, if_pos this]
    simp
  · have : ¬ c.f0 = (p : Int) := by omega
    rw [if_neg e, if_neg this]

theorem put_l0 (m : List Int) (cs : List S47) (hcs : cs.length ≤ 1000000) (suf : List S47) : ∀ pre, pre ++ suf = cs →
    Ev (fun k => mem_Put.l0 k (mixR m pre) cs (cs.length : Int) (pre.length : Int)) (if suf.all (inR m.length) = true then (mixR m cs, 0) else ([], 131)) := by
  induction suf with
  | nil =>
    intro pre e
    rw [List.append_nil] at e
    subst e
    refine ⟨1, fun k hk => ?_⟩
    obtain ⟨k, rfl⟩ : ∃ m, k = m + 1 := ⟨k - 1, by omega⟩
    show mem_Put.l0 (k + 1) _ _ _ _ = _
    rw [mem_Put.l0, if_neg (by omega)]
    rfl
  | cons c suf ih =>
    intro pre e
    have hlen : cs.length = pre.length + (suf.length + 1) := by rw [← e]; simp
    have hrd : rd_T47 cs (pre.length : Int) = c := by rw [← e]; exact rdT_mid pre c suf
    have hml : (mixR m pre).length = m.length := tab_len _ _
    by_cases c0 : 0 ≤ c.f0 ∧ c.f0 < m.length
    · have hb : inR m.length c = true := by simp [inR, c0]
      have h := ih (pre ++ [c]) (by rw [← e]; simp)
      rw [List.all_cons, hb, Bool.true_and]
      refine Ev.step (fun k => ?_) h
      rw [mem_Put.l0, if_pos (by omega), if_pos (by omega), if_pos (by omega), hrd, hml, if_neg (by omega), if_neg (by omega), if_pos c0.1, if_pos c0.2, mix_snoc m pre c c0.1 c0.2, w64 _ (by omega)]
      simp
    · have hb : inR m.length c = false := by
        simp only [inR, Bool.and_eq_false_iff, decide_eq_false_iff_not]; omega
      rw [List.all_cons, hb, Bool.false_and, if_neg (by decide)]
      refine ⟨1, fun k hk => ?_⟩
      obtain ⟨k, rfl⟩ : ∃ m, k = m + 1 := ⟨k - 1, by omega⟩
      show mem_Put.l0 (k + 1) _ _ _ _ = _
      rw [mem_Put.l0, if_pos (by omega), if_pos (by omega), if_pos (by omega), hrd, hml]
      by_cases c1 : c.f0 < 0
      · rw [if_pos c1]
      · rw [if_neg c1, if_pos (by omega)]
theorem put_val (m : List Int) (cs : List S47) (hm : m.length ≤ 1000000) (hcs : cs.length ≤ 1000000) : Ev (fun k => mem_Put.f k m cs) (putR m cs) := by
  have h := put_l0 m cs hcs cs [] rfl
  rw [mix_nil] at h
  refine Ev.congr (fun k => ?_) h
  unfold mem_Put.f
  rw [if_pos (by simp; omega), List.nil_append]
  rfl

theorem rput_l1 (m : List Int) (cs : List S47) (hm : m.length ≤ 1000000) (hcs : cs.length ≤ 1000000) (d : Nat) :
    ∀ i : Nat, i + d = m.length → Ev (fun k => outriderref13_Put.l1 k m cs (tab i (mixF m cs)) (i : Int)) (mixR m cs, 0) := by
  induction d with
  | zero =>
    intro i hi
    obtain rfl : i = m.length := by omega
    refine ⟨1, fun k hk => ?_⟩
    obtain ⟨k, rfl⟩ : ∃ m, k = m + 1 := ⟨k - 1, by omega⟩
    show outriderref13_Put.l1 (k + 1) _ _ _ _ = _
    rw [outriderref13_Put.l1, if_neg (by omega)]
    rfl
  | succ d ih =>
    intro i hi
    have hl := last_val cs (i : Int) hcs
    have hs := tab_snoc i (mixF m cs)
    refine Ev.step (fun k => ?_) (Ev.bind (f := fun k t => if t.2 = true then outriderref13_Put.l1 k m cs (tab i (mixF m cs) ++ [t.1]) ((i + 1 : Nat) : Int) else outriderref13_Put.l1 k m cs (tab i (mixF m cs) ++ [rd m (i : Int)]) ((i + 1 : Nat) : Int)) hl ?_)
    · rw [outriderref13_Put.l1, if_pos (by omega)]
      congr 1
      funext t
      by_cases c : t.2 = true
      · rw [if_pos c, if_pos c, tab_len, if_pos (by omega), w64 _ (by omega)]
        rfl
      · rw [if_neg c, if_neg c, tab_len, if_pos (by omega), if_pos (by omega), w64 _ (by omega)]
        rfl
    · have h := ih (i + 1) (by omega)
      rw [← hs] at h
      unfold mixF at h ⊢
      by_cases c : (lastL cs (i : Int)).2 = true
      · simp only [if_pos c] at h ⊢
        exact h
      · simp only [if_neg c] at h ⊢
        exact h
theorem rput_l0 (m : List Int) (cs : List S47) (hm : m.length ≤ 1000000) (hcs : cs.length ≤ 1000000) (suf : List S47) : ∀ pre, pre ++ suf = cs →
    Ev (fun k => outriderref13_Put.l0 k m cs (pre.length : Int)) (if suf.all (inR m.length) = true then (mixR m cs, 0) else ([], 131)) := by
  induction suf with
  | nil =>
    intro pre e
    rw [List.append_nil] at e
    subst e
    refine Ev.step (fun k => ?_) (rput_l1 m pre hm hcs m.length 0 (Nat.zero_add _))
    rw [outriderref13_Put.l0, if_neg (by omega)]
    rfl
  | cons c suf ih =>
    intro pre e
    have hlen : cs.length = pre.length + (suf.length + 1) := by rw [← e]; simp
    have hrd : rd_T47 cs (pre.length : Int) = c := by rw [← e]; exact rdT_mid pre c suf
    by_cases c0 : 0 ≤ c.f0 ∧ c.f0 < m.length
    · have hb : inR m.length c = true := by simp [inR, c0]
      have h := ih (pre ++ [c]) (by rw [← e]; simp)
      rw [List.all_cons, hb, Bool.true_and]
      refine Ev.step (fun k => ?_) h
      rw [outriderref13_Put.l0, if_pos (by omega), if_pos (by omega), hrd, if_neg (by omega), if_neg (by omega), w64 _ (by omega)]
      simp
    · have hb : inR m.length c = false := by
        simp only [inR, Bool.and_eq_false_iff, decide_eq_false_iff_not]; omega
      rw [List.all_cons, hb, Bool.false_and, if_neg (by decide)]
      refine ⟨1, fun k hk => ?_⟩
      obtain ⟨k, rfl⟩ : ∃ m, k = m + 1 := ⟨k - 1, by omega⟩
      show outriderref13_Put.l0 (k + 1) _ _ _ = _
      rw [outriderref13_Put.l0, if_pos (by omega), if_pos (by omega), hrd]
      by_cases c1 : c.f0 < 0
      · rw [if_pos c1]
      · rw [if_neg c1, if_pos (by omega)]
theorem rput_val (m : List Int) (cs : List S47) (hm : m.length ≤ 1000000) (hcs : cs.length ≤ 1000000) : Ev (fun k => outriderref13_Put.f k m cs) (putR m cs) :=
  Ev.congr (fun _ => rfl) (rput_l0 m cs hm hcs cs [] rfl)

/-! ### Of -/
theorem tab_const {α : Type} (n : Nat) (v : α) : tab n (fun _ => v) = List.replicate n v := by
  apply List.ext_getElem
  · simp [tab]
  · intro i h1 h2
    simp [tab]
def ofV (n : Int) : List S47 → List S47 → List Int × Int
  | pre, [] => (tab n.toNat (fun p => (lastL pre (p : Int)).1), 0)
  | pre, c :: suf => if c.f0 < 0 then ([], 131) else if c.f0 ≥ n then ([], 131) else if (lastL pre c.f0).2 = true then ([], 61) else ofV n (pre ++ [c]) suf
def ofS (n : Int) (cs : List S47) : List Int × Int := if n < 1 then ([], 130) else if n > 64 then ([], 130) else ofV n [] cs

theorem ofL_val (n : Int) (hn : n ≤ 64) (suf : List S47) : ∀ pre, ofL n suf (tab 64 (fun p => (lastL pre (p : Int)).2)) (tab n.toNat (fun p => (lastL pre (p : Int)).1)) = ofV n pre suf := by
  induction suf with
  | nil => intro pre; rfl
  | cons c suf ih =>
    intro pre
    unfold ofL ofV
    by_cases c1 : c.f0 < 0
    · rw [if_pos c1, if_pos c1]
    · rw [if_neg c1, if_neg c1]
      by_cases c2 : c.f0 ≥ n
      · rw [if_pos c2, if_pos c2]
      · rw [if_neg c2, if_neg c2]
        have e0 : ((c.f0.toNat : Nat) : Int) = c.f0 := by omega
        rw [tab_getD 64 _ _ (by omega), e0]
        by_cases c3 : (lastL pre c.f0).2 = true
        · rw [if_pos c3, if_pos c3]
        · rw [if_neg c3, if_neg c3, tab_set, tab_set, ← ih (pre ++ [c])]
          congr 1
          · refine tab_congr (fun p _ => ?_)
            rw [lastL_snoc]
            by_cases e : p = c.f0.toNat
            · rw [if_pos e, if_pos (by omega)]
            · rw [if_neg e, if_neg (by omega)]
          · refine tab_congr (fun p _ => ?_)
            rw [lastL_snoc]
            by_cases e : p = c.f0.toNat
            · rw [if_pos e, if_pos (by omega)]
            · rw [if_neg e, if_neg (by omega)]
theorem of_val (n : Int) (cs : List S47) : ofR n cs = ofS n cs := by
  unfold ofR ofS
  by_cases c1 : n < 1
  · rw [if_pos c1, if_pos c1]
  · rw [if_neg c1, if_neg c1]
    by_cases c2 : n > 64
    · rw [if_pos c2, if_pos c2]
    · rw [if_neg c2, if_neg c2, ← ofL_val n (by omega) cs []]
      rw [← tab_const 64 false, ← tab_const n.toNat (0 : Int)]
      rfl

theorem rof_l1 (n : Int) (cs : List S47) (hn : n ≤ 64) (hcs : cs.length ≤ 1000000) (d : Nat) :
    ∀ i : Nat, i + d = n.toNat → Ev (fun k => outriderref13_Of.l1 k n cs (tab i (fun p => (lastL cs (p : Int)).1)) (i : Int)) (tab n.toNat (fun p => (lastL cs (p : Int)).1), 0) := by
  induction d with
  | zero =>
    intro i hi
    obtain rfl : i = n.toNat := by omega
    refine ⟨1, fun k hk => ?_⟩
    obtain ⟨k, rfl⟩ : ∃ m, k = m + 1 := ⟨k - 1, by omega⟩
    show outriderref13_Of.l1 (k + 1) _ _ _ _ = _
    rw [outriderref13_Of.l1, if_neg (by omega)]
  | succ d ih =>
    intro i hi
    have hl := last_val cs (i : Int) hcs
    refine Ev.step (fun k => ?_) (Ev.bind (f := fun k t => outriderref13_Of.l1 k n cs (tab i (fun p => (lastL cs (p : Int)).1) ++ [t.1]) ((i + 1 : Nat) : Int)) hl ?_)
    · rw [outriderref13_Of.l1, if_pos (by omega)]
      congr 1
      funext t
      rw [tab_len, if_pos (by omega), w64 _ (by omega)]
      rfl
    · have := ih (i + 1) (by omega)
      rw [← tab_snoc] at this
      exact this
theorem rof_l0 (n : Int) (cs : List S47) (hn : n ≤ 64) (hcs : cs.length ≤ 1000000) (suf : List S47) : ∀ pre, pre ++ suf = cs →
    Ev (fun k => outriderref13_Of.l0 k n cs (pre.length : Int)) (ofV n pre suf) := by
  induction suf with
  | nil =>
    intro pre e
    rw [List.append_nil] at e
    subst e
    refine Ev.step (fun k => ?_) (rof_l1 n pre hn hcs n.toNat 0 (Nat.zero_add _))
    rw [outriderref13_Of.l0, if_neg (by omega)]
    rfl
  | cons c suf ih =>
    intro pre e
    have hlen : cs.length = pre.length + (suf.length + 1) := by rw [← e]; simp
    have hrd : rd_T47 cs (pre.length : Int) = c := by rw [← e]; exact rdT_mid pre c suf
    have htk : cs.take pre.length = pre := by rw [← e]; exact take_mid pre c suf
    unfold ofV
    refine Ev.step (f := fun k => outriderref13_Of.j2 k n cs (pre.length : Int) (decide (c.f0 < 0 ∨ c.f0 ≥ n))) (fun k => ?_) ?_
    · rw [outriderref13_Of.l0, if_pos (by omega), if_pos (by omega), hrd]
      by_cases c1 : c.f0 < 0
      · rw [if_pos c1, decide_eq_true (.inl c1)]
      · rw [if_neg c1]
        by_cases c2 : c.f0 ≥ n
        · rw [decide_eq_true c2, decide_eq_true (.inr c2)]
        · rw [decide_eq_false c2, decide_eq_false (by omega)]
    · by_cases c1 : c.f0 < 0 ∨ c.f0 ≥ n
      · rw [decide_eq_true c1]
        refine ⟨1, fun k hk => ?_⟩
        obtain ⟨k, rfl⟩ : ∃ m, k = m + 1 := ⟨k - 1, by omega⟩
        show outriderref13_Of.j2 (k + 1) _ _ _ _ = _
        rw [outriderref13_Of.j2, if_pos rfl]
        by_cases c2 : c.f0 < 0
        · rw [if_pos c2]
        · rw [if_neg c2, if_pos (by omega)]
      · rw [decide_eq_false c1, if_neg (by omega), if_neg (by omega)]
        have hl := last_val pre c.f0 (by omega)
        refine Ev.step (fun k => ?_) (Ev.bind (f := fun k t => if t.2 = true then some (([] : List Int), 61) else outriderref13_Of.l0 k n cs ((pre.length + 1 : Nat) : Int)) hl ?_)
        · rw [outriderref13_Of.j2, if_neg (by decide), if_pos (by omega), if_pos (by omega), if_pos (by omega), hrd, Int.toNat_natCast, htk, w64 _ (by omega)]
          rfl
        · by_cases c3 : (lastL pre c.f0).2 = true
          · simp only [if_pos c3]
            exact Ev.now _
          · simp only [if_neg c3]
            have h := ih (pre ++ [c]) (by rw [← e]; simp)
            simpa using h
theorem rof_val (n : Int) (cs : List S47) (hcs : cs.length ≤ 1000000) : Ev (fun k => outriderref13_Of.f k n cs) (ofS n cs) := by
  unfold ofS
  by_cases c1 : n < 1
  · rw [if_pos c1]
    refine ⟨1, fun k hk => ?_⟩
    obtain ⟨k, rfl⟩ : ∃ m, k = m + 1 := ⟨k - 1, by omega⟩
    show outriderref13_Of.f (k + 1) _ _ = _
    unfold outriderref13_Of.f
    rw [if_pos c1, outriderref13_Of.j0, if_pos rfl]
  · rw [if_neg c1]
    by_cases c2 : n > 64
    · rw [if_pos c2]
      refine ⟨1, fun k hk => ?_⟩
      obtain ⟨k, rfl⟩ : ∃ m, k = m + 1 := ⟨k - 1, by omega⟩
      show outriderref13_Of.f (k + 1) _ _ = _
      unfold outriderref13_Of.f
      rw [if_neg c1, decide_eq_true c2, outriderref13_Of.j0, if_pos rfl]
    · rw [if_neg c2]
      have h := rof_l0 n cs (by omega) hcs cs [] rfl
      refine Ev.congr (g := fun k => outriderref13_Of.f k n cs) (f := fun k => outriderref13_Of.j0 k n cs false) (fun k => ?_) (Ev.step (fun k => ?_) h)
      · unfold outriderref13_Of.f
        rw [if_neg c1, decide_eq_false c2]
      · rw [outriderref13_Of.j0, if_neg (by decide)]
        rfl

/-! ### the example -/
theorem alive_val : Ev (fun k => outriderlaw13_alive.f k) true := by
  unfold outriderlaw13_alive.f
  have hd := diff_val [1, 2, 3] [1, 4] (by simp)
  have e : diffU [1, 2, 3] [1, 4] (min ([1, 2, 3] : List Int).length ([1, 4] : List Int).length) = [⟨1, 4⟩] := by rfl
  rw [e] at hd
  have e2 : mem_Of.f 3 [(⟨1, 5⟩ : S47)] = some ([0, 5, 0], 0) := by decide +kernel
  rw [e2]
  simp only [Option.bind_some]
  exact Ev.bind hd ⟨0, fun _ _ => by rfl⟩
theorem alive' : Ev (fun k => (outriderlaw13_alive.f k).bind fun t => some t) true := Ev.bind alive_val (Ev.now true)


/-! ### sizes -/
theorem mix_len (m : List Int) (cs : List S47) : (mixR m cs).length = m.length := tab_len _ _
theorem put_len (m : List Int) (cs : List S47) : (putR m cs).1.length ≤ m.length := by
  unfold putR
  by_cases c : cs.all (inR m.length) = true
  · rw [if_pos c, mix_len]; omega
  · rw [if_neg c]; simp
theorem ofV_len (n : Int) (suf : List S47) : ∀ pre, (ofV n pre suf).1.length ≤ n.toNat := by
  induction suf with
  | nil => intro pre; simp [ofV, tab_len]
  | cons c suf ih =>
    intro pre
    unfold ofV
    split
    · simp
    · split
      · simp
      · split
        · simp
        · exact ih _
theorem ofS_len (n : Int) (cs : List S47) : (ofS n cs).1.length ≤ 64 := by
  unfold ofS
  by_cases c1 : n < 1
  · rw [if_pos c1]; simp
  · rw [if_neg c1]
    by_cases c2 : n > 64
    · rw [if_pos c2]; simp
    · rw [if_neg c2]
      have := ofV_len n cs []
      omega

/-! ### the laws -/
theorem makes (n : Int) (cs : List S47) : ∃ k, outriderlaw13_MemMakes.f k n cs = some true := by
  refine Ev.rounds ?_
  unfold outriderlaw13_MemMakes.f
  by_cases c : (cs.length : Int) > 300
  · simp only [if_pos c]
    exact Ev.now true
  · simp only [if_neg c]
    unfold mem_Of.f
    simp only [Option.bind_some]
    rw [of_val]
    have hl := ofS_len n cs
    refine Ev.bind (rof_val n cs (by omega)) (Ev.bind (row_same _ (by omega)) ?_)
    simp only [if_true]
    exact alive'

theorem cells (a b : List Int) (cs : List S47) : ∃ k, outriderlaw13_MemCells.f k a b cs = some true := by
  refine Ev.rounds ?_
  have hbig : ∀ c : Bool, (c = false → a.length ≤ 1000 ∧ b.length ≤ 1000 ∧ cs.length ≤ 300) → Ev (fun k => outriderlaw13_MemCells.j0 k a b cs c) true := by
    intro c hc
    cases c with
    | true =>
      refine ⟨1, fun k hk => ?_⟩
      obtain ⟨k, rfl⟩ : ∃ m, k = m + 1 := ⟨k - 1, by omega⟩
      show outriderlaw13_MemCells.j0 (k + 1) _ _ _ _ = _
      rw [outriderlaw13_MemCells.j0, if_pos rfl]
    | false =>
      obtain ⟨h1, h2, h3⟩ := hc rfl
      have hp := put_len a cs
      have hd1 := diffU_len (zeros a) a a.length
      have hd2 := diffU_len a b (min a.length b.length)
      refine Ev.step (f := ?F) (fun k => ?h1) ?h2
      case h1 =>
        rw [outriderlaw13_MemCells.j0, if_neg (by decide)]
      case h2 =>
        simp only [Option.bind_some, List.nil_append, List.length_nil, Nat.zero_add, if_pos (show a.length < 17592186044416 by omega)]
        refine Ev.bind (put_val a cs (by omega) (by omega)) ?_
        refine Ev.bind (rput_val a cs (by omega) (by omega)) ?_
        refine Ev.bind (cells_val a (by omega)) ?_
        refine Ev.bind (rcells_val a (by omega)) ?_
        refine Ev.bind (same_same (diffU (zeros a) a a.length) (by omega)) ?_
        simp only [if_true]
        refine Ev.bind (diff_val a b (by omega)) ?_
        refine Ev.bind (rdiff_val a b (by omega)) ?_
        refine Ev.bind (same_same (diffU a b (min a.length b.length)) (by omega)) ?_
        simp only [if_true]
        refine Ev.bind (row_same _ (by omega)) ?_
        simp only [if_true]
        refine Ev.bind (row_same a (by omega)) ?_
        simp only [if_true]
        exact alive'
  unfold outriderlaw13_MemCells.f
  by_cases c1 : (a.length : Int) > 1000
  · simp only [if_pos c1]; exact hbig true (fun h => by cases h)
  · simp only [if_neg c1]
    by_cases c2 : (b.length : Int) > 1000
    · simp only [if_pos c2]; exact hbig true (fun h => by cases h)
    · simp only [if_neg c2]
      exact hbig _ (fun h => by have := of_decide_eq_false h; omega)


/-! ### the way back -/
theorem last_diff (a b : List Int) : ∀ (i p : Nat), lastL (diffU a b i) (p : Int) = if p < i ∧ rd a (p : Int) ≠ rd b (p : Int) then (rd b (p : Int), true) else (0, false) := by
  intro i
  induction i with
  | zero => intro p; simp [diffU, lastL_nil]
  | succ i ih =>
    intro p
    have e : diffU a b (i + 1) = if rd a (i : Int) = rd b (i : Int) then diffU a b i else diffU a b i ++ [(⟨(i : Int), rd b (i : Int)⟩ : S47)] := rfl
    rw [e]
    by_cases c : rd a (i : Int) = rd b (i : Int)
    · rw [if_pos c, ih p]
      by_cases h : p = i
      · subst h
        rw [if_neg (by omega), if_neg (fun h => h.2 c)]
      · by_cases h1 : p < i ∧ rd a (p : Int) ≠ rd b (p : Int)
        · rw [if_pos h1, if_pos ⟨by omega, h1.2⟩]
        · rw [if_neg h1, if_neg (fun h2 => h1 ⟨by omega, h2.2⟩)]
    · rw [if_neg c, lastL_snoc]
      by_cases h : p = i
      · subst h
        rw [if_pos rfl, if_pos ⟨by omega, c⟩]
      · rw [if_neg (fun h2 => h (by simp only at h2; omega)), ih p]
        by_cases h1 : p < i ∧ rd a (p : Int) ≠ rd b (p : Int)
        · rw [if_pos h1, if_pos ⟨by omega, h1.2⟩]
        · rw [if_neg h1, if_neg (fun h2 => h1 ⟨by omega, h2.2⟩)]
theorem diff_in (a b : List Int) : ∀ (i : Nat), ∀ c ∈ diffU a b i, 0 ≤ c.f0 ∧ c.f0 < i := by
  intro i
  induction i with
  | zero => intro c hc; simp [diffU] at hc
  | succ i ih =>
    intro c hc
    have e : diffU a b (i + 1) = if rd a (i : Int) = rd b (i : Int) then diffU a b i else diffU a b i ++ [(⟨(i : Int), rd b (i : Int)⟩ : S47)] := rfl
    rw [e] at hc
    by_cases q : rd a (i : Int) = rd b (i : Int)
    · rw [if_pos q] at hc
      have := ih c hc
      omega
    · rw [if_neg q] at hc
      rcases List.mem_append.1 hc with h | h
      · have := ih c h
        omega
      · simp only [List.mem_singleton] at h
        subst h
        simp only
        omega
theorem ofV_ok (n : Int) (suf : List S47) : ∀ pre, (ofV n pre suf).2 = 0 → ofV n pre suf = (tab n.toNat (fun p => (lastL (pre ++ suf) (p : Int)).1), 0) := by
  induction suf with
  | nil => intro pre _; rw [List.append_nil]; rfl
  | cons c suf ih =>
    intro pre
    unfold ofV
    by_cases c1 : c.f0 < 0
    · rw [if_pos c1]; intro h; simp at h
    · rw [if_neg c1]
      by_cases c2 : c.f0 ≥ n
      · rw [if_pos c2]; intro h; simp at h
      · rw [if_neg c2]
        by_cases c3 : (lastL pre c.f0).2 = true
        · rw [if_pos c3]; intro h; simp at h
        · rw [if_neg c3]
          intro h
          rw [ih _ h]
          simp
theorem ofV_snoc (n : Int) (c : S47) (h0 : 0 ≤ c.f0) (h1 : c.f0 < n) (suf : List S47) : ∀ pre, (ofV n pre suf).2 = 0 → (lastL (pre ++ suf) c.f0).2 = false → (ofV n pre (suf ++ [c])).2 = 0 := by
  induction suf with
  | nil =>
    intro pre _ hf
    rw [List.append_nil] at hf
    show (ofV n pre [c]).2 = 0
    unfold ofV
    rw [if_neg (by omega), if_neg (by omega), hf, if_neg (by decide)]
    rfl
  | cons d suf ih =>
    intro pre
    show (ofV n pre (d :: suf)).2 = 0 → _ → (ofV n pre (d :: (suf ++ [c]))).2 = 0
    unfold ofV
    by_cases c1 : d.f0 < 0
    · rw [if_pos c1]; intro h; simp at h
    · rw [if_neg c1, if_neg c1]
      by_cases c2 : d.f0 ≥ n
      · rw [if_pos c2]; intro h; simp at h
      · rw [if_neg c2, if_neg c2]
        by_cases c3 : (lastL pre d.f0).2 = true
        · rw [if_pos c3]; intro h; simp at h
        · rw [if_neg c3, if_neg c3]
          intro h hf
          exact ih (pre ++ [d]) h (by simpa using hf)
theorem of_diff (a b : List Int) (n : Nat) : ∀ i : Nat, i ≤ n → (ofV (n : Int) [] (diffU a b i)).2 = 0 := by
  intro i
  induction i with
  | zero => intro _; rfl
  | succ i ih =>
    intro hi
    have e : diffU a b (i + 1) = if rd a (i : Int) = rd b (i : Int) then diffU a b i else diffU a b i ++ [(⟨(i : Int), rd b (i : Int)⟩ : S47)] := rfl
    rw [e]
    by_cases c : rd a (i : Int) = rd b (i : Int)
    · rw [if_pos c]; exact ih (by omega)
    · rw [if_neg c]
      refine ofV_snoc (n : Int) _ (by simp only; omega) (by simp only; omega) _ [] (ih (by omega)) ?_
      rw [List.nil_append]
      simp only
      rw [last_diff, if_neg (by omega)]
theorem diff_self (a : List Int) : ∀ i, diffU a a i = []
  | 0 => rfl
  | i + 1 => by
    have e : diffU a a (i + 1) = if rd a (i : Int) = rd a (i : Int) then diffU a a i else diffU a a i ++ [(⟨(i : Int), rd a (i : Int)⟩ : S47)] := rfl
    rw [e, if_pos rfl]
    exact diff_self a i

theorem back (a b : List Int) : ∃ k, outriderlaw13_MemBack.f k a b = some true := by
  refine Ev.rounds ?_
  have hbig : ∀ c : Bool, (c = false → 1 ≤ a.length ∧ a.length ≤ 64 ∧ a.length = b.length) → Ev (fun k => outriderlaw13_MemBack.j0 k a b c) true := by
    intro c hc
    cases c with
    | true =>
      refine ⟨1, fun k hk => ?_⟩
      obtain ⟨k, rfl⟩ : ∃ m, k = m + 1 := ⟨k - 1, by omega⟩
      show outriderlaw13_MemBack.j0 (k + 1) _ _ _ = _
      rw [outriderlaw13_MemBack.j0, if_pos rfl]
    | false =>
      obtain ⟨h1, h2, h3⟩ := hc rfl
      have hmin : min a.length b.length = a.length := by omega
      have hof : mem_Of.f (a.length : Int) (diffU (zeros a) a a.length) = some (a, 0) := by
        unfold mem_Of.f
        rw [of_val]
        unfold ofS
        rw [if_neg (by omega), if_neg (by omega), ofV_ok _ _ _ (of_diff (zeros a) a a.length a.length (Nat.le_refl _)), List.nil_append]
        have : tab ((a.length : Int)).toNat (fun p => (lastL (diffU (zeros a) a a.length) (p : Int)).1) = a := by
          rw [Int.toNat_natCast]
          have h := tab_of a
          rw [← h]
          conv => lhs; rw [h]
          refine tab_congr (fun p hp => ?_)
          rw [last_diff, rd_zeros]
          by_cases c : (0 : Int) ≠ rd a (p : Int)
          · rw [if_pos ⟨hp, c⟩]
          · rw [if_neg (fun h => c h.2)]
            omega
        rw [this]
      have hput : putR a (diffU a b a.length) = (b, 0) := by
        unfold putR
        have hall : (diffU a b a.length).all (inR a.length) = true := by
          rw [List.all_eq_true]
          intro c hc
          have := diff_in a b a.length c hc
          simp [inR, this]
        rw [if_pos hall]
        have : mixR a (diffU a b a.length) = b := by
          have h := tab_of b
          rw [← h]
          conv => lhs; rw [h]
          unfold mixR
          rw [← h3]
          refine tab_congr (fun p hp => ?_)
          unfold mixF
          by_cases c : rd a (p : Int) ≠ rd b (p : Int)
          · have hl : lastL (diffU a b a.length) (p : Int) = (rd b (p : Int), true) := by rw [last_diff, if_pos ⟨hp, c⟩]
            rw [hl]
            simp
          · have hl : lastL (diffU a b a.length) (p : Int) = (0, false) := by rw [last_diff, if_neg (fun h => c h.2)]
            rw [hl]
            have : rd a (p : Int) = rd b (p : Int) := by omega
            simp [this]
        rw [this]
      have hd1 := diffU_len a b a.length
      refine Ev.step (f := ?F) (fun k => ?h1) ?h2
      case h1 =>
        rw [outriderlaw13_MemBack.j0, if_neg (by decide)]
      case h2 =>
        refine Ev.bind (cells_val a (by omega)) ?_
        rw [hof]
        simp only [Option.bind_some]
        have hdv := diff_val a b (by omega)
        rw [hmin] at hdv
        refine Ev.bind hdv ?_
        have hpv := put_val a (diffU a b a.length) (by omega) (by omega)
        rw [hput] at hpv
        refine Ev.bind hpv ?_
        simp only [if_true]
        refine Ev.bind (row_same a (by omega)) ?_
        simp only [if_true]
        refine Ev.bind (row_same b (by omega)) ?_
        simp only [if_true]
        have hds := diff_val a a (by omega)
        rw [diff_self] at hds
        refine Ev.bind hds ?_
        simp only [List.length_nil]
        exact alive'
  unfold outriderlaw13_MemBack.f
  by_cases c1 : (a.length : Int) < 1
  · simp only [if_pos c1]; exact hbig true (fun h => by cases h)
  · simp only [if_neg c1]
    by_cases c2 : (a.length : Int) > 64
    · simp only [if_pos c2]; exact hbig true (fun h => by cases h)
    · simp only [if_neg c2]
      exact hbig _ (fun h => by have := bne_eq_false_iff_eq.1 h; omega)

end Go.Proofs.Ythnkecficihgfaa.PureA
