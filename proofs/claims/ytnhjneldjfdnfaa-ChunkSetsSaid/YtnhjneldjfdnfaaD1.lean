/- The dealer: made. -/
import Derived.Test.YtnhjneldjfdnfaaK0
import Derived.Lib.Hide
import Derived.StillTailTactics
import Derived.IntWalk
import Derived.Laws.EntriesVeiled
namespace Go.Proofs.Ytnhjneldjfdnfaa.K
open Go.RowKit Go.Proofs.YtnhjneldjfdnfaaW.PrintWords Go.Proofs.YtnhjneldjfdnfaaW.PrintLast Go.Proofs.YtnhjneldjfdnfaaW.PrintMore
attribute [local go_sem] max2_int min2_int max_two min_two max_three min_three max_four min_four
set_option linter.unusedVariables false
set_option linter.unusedSimpArgs false

/-- A dealer: its policy, how many ages, workers, the chunks' size, the first age that was not dealt out, the workers' turns. -/
structure D where
  pol : Int
  n : Int
  wk : Int
  sz : Int
  nx : Int
  tn : List Int
def D.ok (d : D) : Prop := 1 ≤ d.pol ∧ d.pol ≤ 3 ∧ 0 ≤ d.n ∧ d.n ≤ 200 ∧ 1 ≤ d.wk ∧ d.wk ≤ 8 ∧ 1 ≤ d.sz ∧ d.sz ≤ 200 ∧ 0 ≤ d.nx ∧ d.nx ≤ d.n ∧ (d.tn.length : Int) = d.wk ∧ ∀ t ∈ d.tn, 0 ≤ t ∧ t ≤ d.n
def fno (p : Int) : Nat := if p = 1 then 17 else if p = 2 then 18 else 19
def fv (p : Int) (b : Nat) : Value := .func (Fn.func (fno p)) #[.pointer (some ⟨b, 0, none⟩)] #[]
def dcells (d : D) (b bt ct : Nat) : Array Value := #[fv d.pol b, .int .i64 d.n, .int .i64 d.wk, .int .i64 d.sz, .int .i64 d.nx, .slice (some ⟨bt, 0, none⟩) d.tn.length ct]
structure DH (w : World) (base b bt ct : Nat) (d : D) : Prop where
  cells : w.heap[b]? = some (.cells (dcells d b bt ct) 53 (0, 0))
  turns : Kd.R (Kd.int .i64) 3 w base (fun _ => True) (.slice (some ⟨bt, 0, none⟩) d.tn.length ct) d.tn
  ok : d.ok
  low : base ≤ b
  lowt : base ≤ bt

def newErr (p sz wk n : Int) : Int := if p < 1 ∨ 3 < p then 160 else if sz < 1 ∨ 200 < sz then 161 else if wk < 1 ∨ 8 < wk then 162 else if n < 0 ∨ 200 < n then 151 else 0
def newD (p sz wk n : Int) : D := ⟨p, n, wk, sz, 0, List.replicate wk.toNat 0⟩

def NewPost (p sz wk n : Int) (w : World) (e : Ending) (w' : World) : Prop :=
  ∃ b bt ct : Nat, e = .returned (.tuple #[.pointer (some ⟨b, 0, none⟩), .int .i64 0]) ∧ DH w' w.heap.size b bt ct (newD p sz wk n) ∧ Below w.heap.size w w'

theorem new_close {w w5 : World} {p sz wk n : Int} {At : Option Addr} {ct : Nat} (h0 : 1 ≤ p ∧ p ≤ 3) (h1 : 1 ≤ sz) (h2 : sz ≤ 200) (h3 : 1 ≤ wk) (h4 : wk ≤ 8) (h5 : 0 ≤ n) (h6 : n ≤ 200)
    (HO : Kd.R (Kd.int .i64) 3 w5 w.heap.size (fun _ => True) (.slice At wk.toNat ct) (List.replicate wk.toNat 0)) (HB : Below w.heap.size w w5) :
    NewPost p sz wk n w (.returned (.tuple #[.pointer (some ⟨w5.heap.size, 0, none⟩), .int .i64 0])) (w5.alloc (.cells #[.func (Fn.func (fno p)) #[.pointer (some ⟨w5.heap.size, 0, none⟩)] #[], .int .i64 n, .int .i64 wk, .int .i64 sz, .int .i64 0, .slice At wk.toNat ct] 53 (0, 0))) := by
  obtain ⟨g, cap, e, hb, hl, cells, hc⟩ := Kd.R_form HO (by simp; omega)
  injection e with e1 e2 e3
  subst e1
  refine ⟨w5.heap.size, g, ct, rfl, ⟨?_, ?_, ?_, below_size HB, hb⟩, below_alloc HB _⟩
  · have hn : (newD p sz wk n).tn.length = wk.toNat := by simp [newD]
    unfold dcells
    rw [hn]
    exact blk_new w5 _
  · have hn : (newD p sz wk n).tn.length = wk.toNat := by simp [newD]
    rw [hn]
    exact Kd.R_alloc HO _
  · refine ⟨h0.1, h0.2, h5, h6, h3, h4, h1, h2, Int.le_refl 0, h5, ?_, ?_⟩
    · simp [newD]; omega
    · intro t ht
      have := List.eq_of_mem_replicate ht
      simp only [newD]
      omega

set_option maxHeartbeats 1000000 in
theorem new_1 (sz wk n : Int) (w : World) (h1 : 1 ≤ sz) (h2 : sz ≤ 200) (h3 : 1 ≤ wk) (h4 : wk ≤ 8) (h5 : 0 ≤ n) (h6 : n ≤ 200) :
    Calls Try.prog 7 #[.int .i64 1, .int .i64 sz, .int .i64 wk, .int .i64 n] w (NewPost 1 sz wk n w) := by
  have HB := Aside0.mk (Below.refl w.heap.size w)
  have a1 : ¬ sz < 1 := by omega
  have a2 : ¬ 200 < sz := by omega
  have a3 : ¬ wk < 1 := by omega
  have a4 : ¬ 8 < wk := by omega
  have a5 : ¬ n < 0 := by omega
  have a6 : ¬ 200 < n := by omega
  have a7 : 0 ≤ wk := by omega
  go_enter Try.func7, Try.ntmps7
  go_wp2_with (first | ((with_reducible refine gate_dst (N := 39) rfl ?_); refine Kd.R_make (Kd.int .i64) _ 3 rfl (N := 39) rfl 23 _ _ rfl wk rfl rfl Try.underlying23 (.int .i64 0) 8 info3 rfl (by decide) (by omega) 0 (ok := fun _ => True) (okp := fun _ => True) rfl (fun _ hk => hk) trivial (by omega) (by omega) (Below.refl _ _) (Nat.le_refl _) ?_; intro v6 w5 ho6 hb hg_ hnew_; obtain ⟨At, ct, et⟩ := Kd.R_slice ho6; subst et; clear hg_ hnew_; have n0_ := Aside0.mk ho6; have n1_ := Aside0.mk hb; clear HB ho6 hb; have HO := n0_; have HB := n1_; clear n0_ n1_))
  go_ret2
  have HO' := HO.out
  rw [List.length_replicate] at HO'
  exact new_close (p := 1) (by omega) h1 h2 h3 h4 h5 h6 HO' HB.out

set_option maxHeartbeats 1000000 in
theorem new_2 (sz wk n : Int) (w : World) (h1 : 1 ≤ sz) (h2 : sz ≤ 200) (h3 : 1 ≤ wk) (h4 : wk ≤ 8) (h5 : 0 ≤ n) (h6 : n ≤ 200) :
    Calls Try.prog 7 #[.int .i64 2, .int .i64 sz, .int .i64 wk, .int .i64 n] w (NewPost 2 sz wk n w) := by
  have HB := Aside0.mk (Below.refl w.heap.size w)
  have a1 : ¬ sz < 1 := by omega
  have a2 : ¬ 200 < sz := by omega
  have a3 : ¬ wk < 1 := by omega
  have a4 : ¬ 8 < wk := by omega
  have a5 : ¬ n < 0 := by omega
  have a6 : ¬ 200 < n := by omega
  have a7 : 0 ≤ wk := by omega
  go_enter Try.func7, Try.ntmps7
  go_wp2_with (first | ((with_reducible refine gate_dst (N := 39) rfl ?_); refine Kd.R_make (Kd.int .i64) _ 3 rfl (N := 39) rfl 23 _ _ rfl wk rfl rfl Try.underlying23 (.int .i64 0) 8 info3 rfl (by decide) (by omega) 0 (ok := fun _ => True) (okp := fun _ => True) rfl (fun _ hk => hk) trivial (by omega) (by omega) (Below.refl _ _) (Nat.le_refl _) ?_; intro v6 w5 ho6 hb hg_ hnew_; obtain ⟨At, ct, et⟩ := Kd.R_slice ho6; subst et; clear hg_ hnew_; have n0_ := Aside0.mk ho6; have n1_ := Aside0.mk hb; clear HB ho6 hb; have HO := n0_; have HB := n1_; clear n0_ n1_))
  go_ret2
  have HO' := HO.out
  rw [List.length_replicate] at HO'
  exact new_close (p := 2) (by omega) h1 h2 h3 h4 h5 h6 HO' HB.out

set_option maxHeartbeats 1000000 in
theorem new_3 (sz wk n : Int) (w : World) (h1 : 1 ≤ sz) (h2 : sz ≤ 200) (h3 : 1 ≤ wk) (h4 : wk ≤ 8) (h5 : 0 ≤ n) (h6 : n ≤ 200) :
    Calls Try.prog 7 #[.int .i64 3, .int .i64 sz, .int .i64 wk, .int .i64 n] w (NewPost 3 sz wk n w) := by
  have HB := Aside0.mk (Below.refl w.heap.size w)
  have a1 : ¬ sz < 1 := by omega
  have a2 : ¬ 200 < sz := by omega
  have a3 : ¬ wk < 1 := by omega
  have a4 : ¬ 8 < wk := by omega
  have a5 : ¬ n < 0 := by omega
  have a6 : ¬ 200 < n := by omega
  have a7 : 0 ≤ wk := by omega
  go_enter Try.func7, Try.ntmps7
  go_wp2_with (first | ((with_reducible refine gate_dst (N := 39) rfl ?_); refine Kd.R_make (Kd.int .i64) _ 3 rfl (N := 39) rfl 23 _ _ rfl wk rfl rfl Try.underlying23 (.int .i64 0) 8 info3 rfl (by decide) (by omega) 0 (ok := fun _ => True) (okp := fun _ => True) rfl (fun _ hk => hk) trivial (by omega) (by omega) (Below.refl _ _) (Nat.le_refl _) ?_; intro v6 w5 ho6 hb hg_ hnew_; obtain ⟨At, ct, et⟩ := Kd.R_slice ho6; subst et; clear hg_ hnew_; have n0_ := Aside0.mk ho6; have n1_ := Aside0.mk hb; clear HB ho6 hb; have HO := n0_; have HB := n1_; clear n0_ n1_))
  go_ret2
  have HO' := HO.out
  rw [List.length_replicate] at HO'
  exact new_close (p := 3) (by omega) h1 h2 h3 h4 h5 h6 HO' HB.out

theorem new_ok (p sz wk n : Int) (w : World) (h : newErr p sz wk n = 0) :
    Calls Try.prog 7 #[.int .i64 p, .int .i64 sz, .int .i64 wk, .int .i64 n] w (NewPost p sz wk n w) := by
  unfold newErr at h
  by_cases c1 : p < 1 ∨ 3 < p
  · rw [if_pos c1] at h; omega
  · rw [if_neg c1] at h
    by_cases c2 : sz < 1 ∨ 200 < sz
    · rw [if_pos c2] at h; omega
    · rw [if_neg c2] at h
      by_cases c3 : wk < 1 ∨ 8 < wk
      · rw [if_pos c3] at h; omega
      · rw [if_neg c3] at h
        by_cases c4 : n < 0 ∨ 200 < n
        · rw [if_pos c4] at h; omega
        · obtain rfl | rfl | rfl : p = 1 ∨ p = 2 ∨ p = 3 := by omega
          · exact new_1 sz wk n w (by omega) (by omega) (by omega) (by omega) (by omega) (by omega)
          · exact new_2 sz wk n w (by omega) (by omega) (by omega) (by omega) (by omega) (by omega)
          · exact new_3 sz wk n w (by omega) (by omega) (by omega) (by omega) (by omega) (by omega)

def NewBad (p sz wk n : Int) (w : World) (e : Ending) (w' : World) : Prop := e = .returned (.tuple #[.pointer none, .int .i64 (newErr p sz wk n)]) ∧ w = w'
set_option maxHeartbeats 1000000 in
theorem new_bad (p sz wk n : Int) (w : World) (h : newErr p sz wk n ≠ 0) :
    Calls Try.prog 7 #[.int .i64 p, .int .i64 sz, .int .i64 wk, .int .i64 n] w (NewBad p sz wk n w) := by
  unfold NewBad
  unfold newErr at h ⊢
  generalize hx : (if p < 1 ∨ 3 < p then (160 : Int) else if sz < 1 ∨ 200 < sz then 161 else if wk < 1 ∨ 8 < wk then 162 else if n < 0 ∨ 200 < n then 151 else 0) = x at *
  have HX := Lib.hid hx
  clear hx
  have hne := Lib.hid h
  clear h
  by_cases c1 : p < 1
  · have e := HX.out
    rw [if_pos (.inl c1)] at e
    subst e
    go_enter Try.func7, Try.ntmps7
    go_wp2
    go_ret2
    exact ⟨rfl, rfl⟩
  · by_cases c1' : 3 < p
    · have e := HX.out
      rw [if_pos (.inr c1')] at e
      subst e
      go_enter Try.func7, Try.ntmps7
      go_wp2
      go_ret2
      exact ⟨rfl, rfl⟩
    · by_cases c2 : sz < 1
      · have e := HX.out
        rw [if_neg (by omega), if_pos (.inl c2)] at e
        subst e
        go_enter Try.func7, Try.ntmps7
        go_wp2
        go_ret2
        exact ⟨rfl, rfl⟩
      · by_cases c2' : 200 < sz
        · have e := HX.out
          rw [if_neg (by omega), if_pos (.inr c2')] at e
          subst e
          go_enter Try.func7, Try.ntmps7
          go_wp2
          go_ret2
          exact ⟨rfl, rfl⟩
        · by_cases c3 : wk < 1
          · have e := HX.out
            rw [if_neg (by omega), if_neg (by omega), if_pos (.inl c3)] at e
            subst e
            go_enter Try.func7, Try.ntmps7
            go_wp2
            go_ret2
            exact ⟨rfl, rfl⟩
          · by_cases c3' : 8 < wk
            · have e := HX.out
              rw [if_neg (by omega), if_neg (by omega), if_pos (.inr c3')] at e
              subst e
              go_enter Try.func7, Try.ntmps7
              go_wp2
              go_ret2
              exact ⟨rfl, rfl⟩
            · by_cases c4 : n < 0
              · have e := HX.out
                rw [if_neg (by omega), if_neg (by omega), if_neg (by omega), if_pos (.inl c4)] at e
                subst e
                go_enter Try.func7, Try.ntmps7
                go_wp2
                go_ret2
                exact ⟨rfl, rfl⟩
              · by_cases c4' : 200 < n
                · have e := HX.out
                  rw [if_neg (by omega), if_neg (by omega), if_neg (by omega), if_pos (.inr c4')] at e
                  subst e
                  go_enter Try.func7, Try.ntmps7
                  go_wp2
                  go_ret2
                  exact ⟨rfl, rfl⟩
                · have e := HX.out
                  rw [if_neg (by omega), if_neg (by omega), if_neg (by omega), if_neg (by omega)] at e
                  exact absurd e.symm hne.out

def mn2 (a b : Int) : Int := if b < a then b else a
def D.some (d : D) (many : Int) : D := { d with nx := mn2 d.n (d.nx + many) }
def SomePost (base b bt ct : Nat) (d : D) (many : Int) (w : World) (e : Ending) (w' : World) : Prop :=
  e = .returned (.agg #[.int .i64 d.nx, .int .i64 (d.some many).nx]) ∧ DH w' base b bt ct (d.some many) ∧ w.grownBy w' (some b)

end Go.Proofs.Ytnhjneldjfdnfaa.K
