/- The dealer: the next so many, and how the chunks are found. -/
import Derived.Test.YtnhjneldjfdnfaaD1
import Derived.BigQuiet
namespace Go.Proofs.Ytnhjneldjfdnfaa.K
open Go.RowKit Go.Proofs.YtnhjneldjfdnfaaW.PrintWords Go.Proofs.YtnhjneldjfdnfaaW.PrintLast Go.Proofs.YtnhjneldjfdnfaaW.PrintMore
attribute [local go_sem] max2_int min2_int max_two min_two max_three min_three max_four min_four
set_option linter.unusedVariables false
set_option linter.unusedSimpArgs false

theorem grown_set (w : World) (g i : Nat) (u : Value) : w.grownBy (w.setCell ⟨g, i, none⟩ u) (some g) :=
  ⟨rfl, rfl, rfl, by simp, fun k _ hk => Below.heap_setCell w ⟨g, i, none⟩ u k (fun e => hk (by rw [e]))⟩
theorem grown_drew {w w' : World} {row : Option Nat} (h : w.grownBy w' row) : w.grownBy w'.drew row := ⟨h.os, h.tape, h.output, h.size, h.block⟩
theorem grown_drewN {w w' : World} {row : Option Nat} (h : w.grownBy w' row) (n : Nat) : w.grownBy (w'.drewN n) row := ⟨h.os, h.tape, h.output, h.size, h.block⟩

theorem mem_ok {d : D} (h : d.ok) (x : Int) (h0 : 0 ≤ x) (h1 : x ≤ d.n) : ({ d with nx := x } : D).ok := by
  obtain ⟨o1, o2, o3, o4, o5, o6, o7, o8, o9, o10, o11, o12⟩ := h
  exact ⟨o1, o2, o3, o4, o5, o6, o7, o8, h0, h1, o11, o12⟩
theorem dh_next {w : World} {base b bt ct : Nat} {d : D} (h : DH w base b bt ct d) (x : Int) (h0 : 0 ≤ x) (h1 : x ≤ d.n) :
    DH (w.setCell ⟨b, 4, none⟩ (.int .i64 x)) base b bt ct { d with nx := x } := by
  refine ⟨?_, ?_, mem_ok h.ok x h0 h1, h.low, h.lowt⟩
  · exact blk_put h.cells 4 _ rfl
  · exact Kd.R_mono (Kd.R_far (p := ⟨b, 4, none⟩) (Kd.R_types h.turns h.cells (by decide)) (fun _ hk => hk.2) (.int .i64 x)) (fun _ _ => trivial)
theorem dh_alloc {w : World} {base b bt ct : Nat} {d : D} (h : DH w base b bt ct d) (o : Obj) : DH (w.alloc o) base b bt ct d :=
  ⟨blk_alloc h.cells o, Kd.R_alloc h.turns o, h.ok, h.low, h.lowt⟩
theorem dh_drew {w : World} {base b bt ct : Nat} {d : D} (h : DH w base b bt ct d) : DH w.drew base b bt ct d :=
  ⟨blk_drew h.cells, Kd.R_drew h.turns, h.ok, h.low, h.lowt⟩
theorem dh_drewN {w : World} {base b bt ct : Nat} {d : D} (h : DH w base b bt ct d) (n : Nat) : DH (w.drewN n) base b bt ct d :=
  ⟨blk_drewN h.cells n, Kd.R_drewN h.turns n, h.ok, h.low, h.lowt⟩

def SpanPost (base b bt ct : Nat) (d' : D) (f t : Int) (w : World) (e : Ending) (w' : World) : Prop :=
  e = .returned (.agg #[.int .i64 f, .int .i64 t]) ∧ DH w' base b bt ct d' ∧ ∃ w1, w.grownBy w1 (some bt) ∧ w1.grownBy w' (some b)

set_option maxHeartbeats 1000000 in
theorem some_calls (base b bt ct : Nat) (d : D) (many : Int) (w : World) (h : DH w base b bt ct d) (hm : 0 ≤ many) (hm2 : many ≤ 1000) :
    Calls Try.prog 21 #[.pointer (some ⟨b, 0, none⟩), .int .i64 many] w (SomePost base b bt ct d many w) := by
  obtain ⟨pol, n, wk, sz, nx, tn⟩ := d
  have c1 : w.cell? ⟨b, 1, none⟩ = some (.int .i64 n) := (blk_cell h.cells 1).trans rfl
  have c4 : w.cell? ⟨b, 4, none⟩ = some (.int .i64 nx) := (blk_cell h.cells 4).trans rfl
  have f4 := blk_frozen h.cells 4
  have hb := blk_lt h.cells
  obtain ⟨o1, o2, o3, o4, o5, o6, o7, o8, o9, o10, o11, o12⟩ := h.ok
  clear o11 o12 o1 o2 o5 o6 o7 o8
  simp only at o3 o4 o9 o10
  have HH := Aside0.mk h
  clear h
  by_cases k : nx + many < n
  · have e : (D.some ⟨pol, n, wk, sz, nx, tn⟩ many) = ⟨pol, n, wk, sz, nx + many, tn⟩ := by unfold D.some mn2; simp only [if_pos k]
    have HE := Lib.hid e
    clear e
    go_enter Try.func21, Try.ntmps21
    go_wp2
    refine bodyPost_ret (v := .agg #[.int .i64 nx, .int .i64 (nx + many)]) (by simp [results, Try.results21, go_sem]) rfl ?_
    unfold SomePost
    rw [HE.out]
    exact ⟨rfl, dh_alloc (dh_next HH.out (nx + many) (by omega) (by simp only; omega)) _, (grown_set w b 4 _).trans (World.grownBy_alloc _ _ _)⟩
  · have e : (D.some ⟨pol, n, wk, sz, nx, tn⟩ many) = ⟨pol, n, wk, sz, n, tn⟩ := by unfold D.some mn2; simp only [if_neg k]
    have HE := Lib.hid e
    clear e
    go_enter Try.func21, Try.ntmps21
    go_wp2
    refine bodyPost_ret (v := .agg #[.int .i64 nx, .int .i64 n]) (by simp [results, Try.results21, go_sem]) rfl ?_
    unfold SomePost
    rw [HE.out]
    exact ⟨rfl, dh_alloc (dh_next HH.out n (by omega) (by simp only; omega)) _, (grown_set w b 4 _).trans (World.grownBy_alloc _ _ _)⟩

theorem grown_refl (w : World) (row : Option Nat) : w.grownBy w row := ⟨rfl, rfl, rfl, Nat.le_refl _, fun _ _ _ => rfl⟩
/-- A write into what is newer than a world. -/
theorem grown_new {w w1 : World} {row : Option Nat} (h : w.grownBy w1 row) {r : Nat} (hr : w.heap.size ≤ r) (i : Nat) (u : Value) : w.grownBy (w1.setCell ⟨r, i, none⟩ u) row :=
  ⟨h.os, h.tape, h.output, Nat.le_trans h.size (by simp), fun k hk hne => (Below.heap_setCell w1 ⟨r, i, none⟩ u k (by simp only; omega)).trans (h.block k hk hne)⟩
theorem dh_lt {w : World} {base b bt ct : Nat} {d : D} (h : DH w base b bt ct d) : b < w.heap.size ∧ bt < w.heap.size ∧ b ≠ bt := by
  have hl := h.ok.2.2.2.2.1
  have ht := h.ok.2.2.2.2.2.2.2.2.2.2.1
  obtain ⟨g, cap, e, _, hg, cells, hc⟩ := Kd.R_form h.turns (by omega)
  injection e with e1 _ _
  injection e1 with e1
  injection e1 with e1 _ _
  subst e1
  exact ⟨blk_lt h.cells, hg, blk_ne h.cells hc (by decide)⟩
theorem dh_far {w : World} {base b bt ct : Nat} {d : D} (h : DH w base b bt ct d) {r : Nat} (h1 : r ≠ b) (h2 : r ≠ bt) (i : Nat) (u : Value) : DH (w.setCell ⟨r, i, none⟩ u) base b bt ct d :=
  ⟨blk_far h.cells (fun e => h1 e.symm) u, Kd.R_grown1 h.turns rfl (grown_set w r i u) (fun e => by simp [Value.ownBlock] at e; exact h2 e), h.ok, h.low, h.lowt⟩

set_option maxHeartbeats 1000000 in
theorem dynamic_calls (base b bt ct : Nat) (d : D) (x : Int) (w : World) (h : DH w base b bt ct d) :
    Calls Try.prog 18 #[.pointer (some ⟨b, 0, none⟩), .int .i64 x] w (SpanPost base b bt ct (d.some d.sz) d.nx (d.some d.sz).nx w) := by
  have c3 : w.cell? ⟨b, 3, none⟩ = some (.int .i64 d.sz) := (blk_cell h.cells 3).trans rfl
  obtain ⟨hb, hbt, _⟩ := dh_lt h
  obtain ⟨o1, o2, o3, o4, o5, o6, o7, o8, o9, o10, o11, o12⟩ := h.ok
  have HH := Aside0.mk h
  clear h o11 o12 o1 o2 o3 o4 o5 o6 o9 o10
  have hs := Lib.hid (fun W hW => some_calls base b bt ct d d.sz W hW (by omega) (by omega))
  go_enter Try.func18, Try.ntmps18
  go_wp2_with fail
  refine (hs.out _ (dh_alloc HH.out _)).mono ?_
  intro e w1 hp
  obtain ⟨he, hd, hg⟩ := hp
  subst he
  have hcl : w1.heap[w.heap.size]? = some (.cells #[.int .i64 0, .int .i64 0] 32 (0, 0)) := blk_grown (blk_new w _) hg (fun e => by injection e with e; omega)
  have r0 : w1.cell? ⟨w.heap.size, 0, none⟩ = some (.int .i64 0) := (blk_cell hcl 0).trans rfl
  have r1 : w1.cell? ⟨w.heap.size, 1, none⟩ = some (.int .i64 0) := (blk_cell hcl 1).trans rfl
  have q0 := blk_frozen hcl 0
  have q1 := blk_frozen hcl 1
  have HD := Aside0.mk hd
  have HG := Aside0.mk (((World.grownBy_alloc w _ (some b)).trans hg))
  clear hcl hd hg HH hs
  generalize (d.some d.sz).nx = to_ at *
  go_wp2
  refine bodyPost_ret (v := .agg #[.int .i64 d.nx, .int .i64 to_]) (by simp [results, Try.results18, go_sem, r0, r1]) rfl ?_
  refine ⟨rfl, dh_far (dh_far HD.out (by omega) (by omega) _ _) (by omega) (by omega) _ _, w, grown_refl w _, grown_new (grown_new HG.out (Nat.le_refl _) _ _) (Nat.le_refl _) _ _⟩

/-- Guided: how many are dealt out next. -/
def D.part (d : D) : Int := (d.n - d.nx + 2 * d.wk - 1) / (2 * d.wk)
def D.gsz (d : D) : Int := if d.sz < d.part then d.part else d.sz

set_option maxHeartbeats 1000000 in
theorem guided_calls (base b bt ct : Nat) (d : D) (x : Int) (w : World) (h : DH w base b bt ct d) :
    Calls Try.prog 19 #[.pointer (some ⟨b, 0, none⟩), .int .i64 x] w (SpanPost base b bt ct (d.some d.gsz) d.nx (d.some d.gsz).nx w) := by
  have c1 : w.cell? ⟨b, 1, none⟩ = some (.int .i64 d.n) := (blk_cell h.cells 1).trans rfl
  have c2 : w.cell? ⟨b, 2, none⟩ = some (.int .i64 d.wk) := (blk_cell h.cells 2).trans rfl
  have c3 : w.cell? ⟨b, 3, none⟩ = some (.int .i64 d.sz) := (blk_cell h.cells 3).trans rfl
  have c4 : w.cell? ⟨b, 4, none⟩ = some (.int .i64 d.nx) := (blk_cell h.cells 4).trans rfl
  obtain ⟨hb, hbt, _⟩ := dh_lt h
  obtain ⟨o1, o2, o3, o4, o5, o6, o7, o8, o9, o10, o11, o12⟩ := h.ok
  have HH := Aside0.mk h
  have hp0 : 0 ≤ d.part := Int.ediv_nonneg (by omega) (by omega)
  have hp1 : d.part ≤ 300 := by
    have h0_ : 0 ≤ d.n - d.nx + 2 * d.wk - 1 := by omega
    have := Int.ediv_le_self (2 * d.wk) h0_
    have e : d.part = (d.n - d.nx + 2 * d.wk - 1) / (2 * d.wk) := rfl
    omega
  have hs := Lib.hid (fun W hW => some_calls base b bt ct d d.gsz W hW (by unfold D.gsz; split <;> omega) (by unfold D.gsz; split <;> omega))
  have hpart : d.part = (d.n - d.nx + 2 * d.wk - 1) / (2 * d.wk) := rfl
  have hg : d.gsz = if d.sz < d.part then d.part else d.sz := rfl
  have HP := Lib.hid hpart
  have HG := Lib.hid hg
  clear h o11 o12 o1 o2 hpart hg
  go_enter Try.func19, Try.ntmps19
  go_wp2
  go_quiet (fail)
  go_wp2
  generalize hW : ((w.alloc (.cells #[.int .i64 0, .int .i64 0] 32 (0, 0))).drewN _) = w2
  have HH2 := Aside0.mk (show DH w2 base b bt ct d by rw [← hW]; exact dh_drewN (dh_alloc HH.out _) _)
  have HG2 := Aside0.mk (show w.grownBy w2 (some b) by rw [← hW]; exact grown_drewN (World.grownBy_alloc w _ _) _)
  have hcl2 : w2.heap[w.heap.size]? = some (.cells #[.int .i64 0, .int .i64 0] 32 (0, 0)) := by rw [← hW]; exact blk_drewN (blk_new w _) _
  have HC2 := Aside0.mk hcl2
  have e2 : w2.cell? ⟨b, 2, none⟩ = some (.int .i64 d.wk) := (blk_cell HH2.out.cells 2).trans rfl
  have e3 : w2.cell? ⟨b, 3, none⟩ = some (.int .i64 d.sz) := (blk_cell HH2.out.cells 3).trans rfl
  clear hW hcl2 c1 c2 c3 c4
  have w1 : IntKind.i64.wrap (2 * d.wk) = 2 * d.wk := IntWalk.i64_in _ (by omega)
  have w2_ : IntKind.i64.wrap (d.n - d.nx + 2 * d.wk) = d.n - d.nx + 2 * d.wk := IntWalk.i64_in _ (by omega)
  have w3 : IntKind.i64.wrap (d.n - d.nx + 2 * d.wk - 1) = d.n - d.nx + 2 * d.wk - 1 := IntWalk.i64_in _ (by omega)
  have w4 : IntKind.i64.wrap ((d.n - d.nx + 2 * d.wk - 1).tdiv (2 * d.wk)) = d.part := by
    rw [IntWalk.i64_quo _ _ (by omega)]; exact HP.out.symm
  have w5 : ¬ (2 * d.wk = 0) := by omega
  have w6 : (if d.sz < d.part then d.part else d.sz) = d.gsz := HG.out.symm
  go_still_tail 20, (by kernel_rfl)
  go_wp2_with fail
  refine (hs.out _ (dh_drew HH2.out)).mono ?_
  intro e w9 hp
  obtain ⟨he, hd, hg⟩ := hp
  subst he
  have hsz := HG2.out.size
  have hcl : w9.heap[w.heap.size]? = some (.cells #[.int .i64 0, .int .i64 0] 32 (0, 0)) := blk_grown (blk_drew HC2.out) hg (fun e => by injection e with e; omega)
  have r0 : w9.cell? ⟨w.heap.size, 0, none⟩ = some (.int .i64 0) := (blk_cell hcl 0).trans rfl
  have r1 : w9.cell? ⟨w.heap.size, 1, none⟩ = some (.int .i64 0) := (blk_cell hcl 1).trans rfl
  have q0 := blk_frozen hcl 0
  have q1 := blk_frozen hcl 1
  have HD := Aside0.mk hd
  have HGG := Aside0.mk ((grown_drew HG2.out).trans hg)
  clear hcl hd hg HH HH2 HG2 HC2 hs w1 w2_ w3 w4 w5 w6 HP HG e2 e3 hsz hp0 hp1
  generalize (d.some d.gsz).nx = to_ at *
  go_wp2
  refine bodyPost_ret (v := .agg #[.int .i64 d.nx, .int .i64 to_]) (by simp [results, Try.results19, go_sem, r0, r1]) rfl ?_
  refine ⟨rfl, dh_far (dh_far HD.out (by omega) (by omega) _ _) (by omega) (by omega) _ _, w, grown_refl w _, grown_new (grown_new HGG.out (Nat.le_refl _) _ _) (Nat.le_refl _) _ _⟩

theorem dh_turn {w : World} {base b bt ct : Nat} {d : D} (h : DH w base b bt ct d) (x : Nat) (v : Int) (h0 : 0 ≤ v) (h1 : v ≤ d.n) :
    DH (w.setCell ⟨bt, x, none⟩ (.int .i64 v)) base b bt ct { d with tn := d.tn.set x v } := by
  obtain ⟨_, _, hne⟩ := dh_lt h
  refine ⟨?_, ?_, ?_, h.low, h.lowt⟩
  · have := blk_far (p := ⟨bt, x, none⟩) h.cells hne (.int .i64 v)
    unfold dcells at this ⊢
    rw [List.length_set]
    exact this
  · have := (Kd.R_putg h.turns (x : Int) v).1
    simp only [Int.toNat_natCast] at this
    rw [List.length_set]
    exact this
  · obtain ⟨o1, o2, o3, o4, o5, o6, o7, o8, o9, o10, o11, o12⟩ := h.ok
    refine ⟨o1, o2, o3, o4, o5, o6, o7, o8, o9, o10, by rw [List.length_set]; exact o11, fun t ht => ?_⟩
    rcases List.mem_or_eq_of_mem_set ht with ht | ht
    · exact o12 t ht
    · subst ht; exact ⟨h0, h1⟩

/-- Static: where the next chunk of worker x begins. -/
def D.from (d : D) (x : Nat) : Int := (d.tn.getD x 0 * d.wk + x) * d.sz
def D.turn (d : D) (x : Nat) : D := { d with tn := d.tn.set x (d.tn.getD x 0 + 1) }

set_option maxHeartbeats 1000000 in
theorem static_none (base b bt ct : Nat) (d : D) (x : Nat) (w : World) (h : DH w base b bt ct d) (hx : (x : Int) < d.wk) (hf : d.n ≤ d.from x) :
    Calls Try.prog 17 #[.pointer (some ⟨b, 0, none⟩), .int .i64 x] w (SpanPost base b bt ct d 0 0 w) := by
  have c1 : w.cell? ⟨b, 1, none⟩ = some (.int .i64 d.n) := (blk_cell h.cells 1).trans rfl
  have c2 : w.cell? ⟨b, 2, none⟩ = some (.int .i64 d.wk) := (blk_cell h.cells 2).trans rfl
  have c3 : w.cell? ⟨b, 3, none⟩ = some (.int .i64 d.sz) := (blk_cell h.cells 3).trans rfl
  have c5 : w.cell? ⟨b, 5, none⟩ = some (.slice (some ⟨bt, 0, none⟩) d.tn.length ct) := (blk_cell h.cells 5).trans rfl
  obtain ⟨hb, hbt, _⟩ := dh_lt h
  obtain ⟨o1, o2, o3, o4, o5, o6, o7, o8, o9, o10, o11, o12⟩ := h.ok
  have hx0 : (0 : Int) ≤ x := by omega
  have hxl : (x : Int) < (d.tn.length : Int) := by omega
  obtain ⟨t1, t2⟩ := Kd.R_celln 0 h.turns (x : Int) hx0 hxl
  simp only [Int.toNat_natCast] at t1
  have ht : rdOf 0 d.tn (x : Int) = d.tn.getD x 0 := by simp [rdOf]
  rw [ht] at t1
  have hmem : 0 ≤ d.tn.getD x 0 ∧ d.tn.getD x 0 ≤ d.n := by
    have hl : x < d.tn.length := by omega
    have e : d.tn.getD x 0 = d.tn[x] := by simp [List.getD_eq_getElem?_getD, hl]
    rw [e]
    exact o12 _ (List.getElem_mem hl)
  have hfr : d.from x = (d.tn.getD x 0 * d.wk + x) * d.sz := rfl
  have m0 : 0 ≤ d.tn.getD x 0 * d.wk := Int.mul_nonneg hmem.1 (by omega)
  have m1 : d.tn.getD x 0 * d.wk ≤ 200 * 8 := Int.mul_le_mul (by omega) o6 (by omega) (by omega)
  have m2 : 0 ≤ (d.tn.getD x 0 * d.wk + x) * d.sz := Int.mul_nonneg (by omega) (by omega)
  have m3 : (d.tn.getD x 0 * d.wk + x) * d.sz ≤ 1700 * 200 := Int.mul_le_mul (by omega) o8 (by omega) (by omega)
  have HH := Aside0.mk h
  clear h t2 ht hmem o11 o12 o1 o2 o9 o10
  generalize d.tn.getD x 0 = tx at *
  have w1 : IntKind.i64.wrap (tx * d.wk) = tx * d.wk := IntWalk.i64_in _ (by omega)
  have w2_ : IntKind.i64.wrap (tx * d.wk + x) = tx * d.wk + x := IntWalk.i64_in _ (by omega)
  have w3 : IntKind.i64.wrap ((tx * d.wk + x) * d.sz) = (tx * d.wk + x) * d.sz := IntWalk.i64_in _ (by omega)
  rw [hfr] at hf
  clear hfr m0 m1 m2 m3
  go_enter Try.func17, Try.ntmps17
  go_wp2
  go_quiet (fail)
  go_wp2
  refine bodyPost_ret (v := .agg #[.int .i64 0, .int .i64 0]) (by simp [results, Try.results17, go_sem]) rfl ?_
  refine ⟨rfl, dh_far (dh_far (dh_drewN (dh_alloc HH.out _) _) (by omega) (by omega) _ _) (by omega) (by omega) _ _, w, grown_refl w _, grown_new (grown_new (grown_drewN (World.grownBy_alloc w _ _) _) (Nat.le_refl _) _ _) (Nat.le_refl _) _ _⟩

set_option maxHeartbeats 1000000 in
theorem static_some (base b bt ct : Nat) (d : D) (x : Nat) (w : World) (h : DH w base b bt ct d) (hx : (x : Int) < d.wk) (hf : d.from x < d.n) :
    Calls Try.prog 17 #[.pointer (some ⟨b, 0, none⟩), .int .i64 x] w (SpanPost base b bt ct (d.turn x) (d.from x) (mn2 d.n (d.from x + d.sz)) w) := by
  have c1 : w.cell? ⟨b, 1, none⟩ = some (.int .i64 d.n) := (blk_cell h.cells 1).trans rfl
  have c2 : w.cell? ⟨b, 2, none⟩ = some (.int .i64 d.wk) := (blk_cell h.cells 2).trans rfl
  have c3 : w.cell? ⟨b, 3, none⟩ = some (.int .i64 d.sz) := (blk_cell h.cells 3).trans rfl
  have c5 : w.cell? ⟨b, 5, none⟩ = some (.slice (some ⟨bt, 0, none⟩) d.tn.length ct) := (blk_cell h.cells 5).trans rfl
  obtain ⟨hb, hbt, _⟩ := dh_lt h
  obtain ⟨o1, o2, o3, o4, o5, o6, o7, o8, o9, o10, o11, o12⟩ := h.ok
  have hx0 : (0 : Int) ≤ x := by omega
  have hxl : (x : Int) < (d.tn.length : Int) := by omega
  obtain ⟨t1, t2⟩ := Kd.R_celln 0 h.turns (x : Int) hx0 hxl
  simp only [Int.toNat_natCast] at t1
  have ht : rdOf 0 d.tn (x : Int) = d.tn.getD x 0 := by simp [rdOf]
  rw [ht] at t1
  have hmem : 0 ≤ d.tn.getD x 0 ∧ d.tn.getD x 0 ≤ d.n := by
    have hl : x < d.tn.length := by omega
    have e : d.tn.getD x 0 = d.tn[x] := by simp [List.getD_eq_getElem?_getD, hl]
    rw [e]
    exact o12 _ (List.getElem_mem hl)
  have hfr : d.from x = (d.tn.getD x 0 * d.wk + x) * d.sz := rfl
  have m0 : 0 ≤ d.tn.getD x 0 * d.wk := Int.mul_nonneg hmem.1 (by omega)
  have m1 : d.tn.getD x 0 * d.wk ≤ 200 * 8 := Int.mul_le_mul (by omega) o6 (by omega) (by omega)
  have m2 : 0 ≤ (d.tn.getD x 0 * d.wk + x) * d.sz := Int.mul_nonneg (by omega) (by omega)
  have m3 : (d.tn.getD x 0 * d.wk + x) * d.sz ≤ 1700 * 200 := Int.mul_le_mul (by omega) o8 (by omega) (by omega)
  have HH := Aside0.mk h
  have htx0 := hmem.1
  clear h ht hmem o11 o12 o1 o2 o9 o10
  have hturn : d.turn x = { d with tn := d.tn.set x (d.tn.getD x 0 + 1) } := rfl
  have HTU := Lib.hid hturn
  clear hturn
  simp only [Int.toNat_natCast] at t2
  generalize htx : d.tn.getD x 0 = tx at *
  clear htx
  have w1 : IntKind.i64.wrap (tx * d.wk) = tx * d.wk := IntWalk.i64_in _ (by omega)
  have w2_ : IntKind.i64.wrap (tx * d.wk + x) = tx * d.wk + x := IntWalk.i64_in _ (by omega)
  have w3 : IntKind.i64.wrap ((tx * d.wk + x) * d.sz) = (tx * d.wk + x) * d.sz := IntWalk.i64_in _ (by omega)
  have HF := Lib.hid hfr
  rw [hfr] at hf
  have htl : tx ≤ (tx * d.wk + x) * d.sz := by
    have q1 : tx * 1 ≤ tx * d.wk := Int.mul_le_mul_of_nonneg_left o5 htx0
    have q2 : (tx * d.wk + x) * 1 ≤ (tx * d.wk + x) * d.sz := Int.mul_le_mul_of_nonneg_left o7 (by omega)
    omega
  have htn : tx < d.n := by omega
  have w4 : IntKind.i64.wrap (tx + 1) = tx + 1 := IntWalk.i64_in _ (by omega)
  clear hfr m0 m1 m3 htl
  go_enter Try.func17, Try.ntmps17
  go_wp2
  go_quiet (fail)
  go_wp2
  generalize hW : (((w.alloc (.cells #[.int .i64 0, .int .i64 0] 32 (0, 0))).drewN _).setCell ⟨bt, x, none⟩ (.int .i64 (tx + 1))) = W2
  have HD2 := Aside0.mk (show DH W2 base b bt ct (d.turn x) by rw [← hW, HTU.out]; exact dh_turn (dh_drewN (dh_alloc HH.out _) _) x (tx + 1) (by omega) (by omega))
  have HG2 := Aside0.mk (show w.grownBy W2 (some bt) by rw [← hW]; exact (grown_drewN (World.grownBy_alloc w _ (some bt)) _).trans (grown_set _ bt x _))
  have hcl : W2.heap[w.heap.size]? = some (.cells #[.int .i64 0, .int .i64 0] 32 (0, 0)) := by
    rw [← hW]
    exact blk_far (blk_drewN (blk_new w _) _) (by simp only; omega) _
  have r0 : W2.cell? ⟨w.heap.size, 0, none⟩ = some (.int .i64 0) := (blk_cell hcl 0).trans rfl
  have r1 : W2.cell? ⟨w.heap.size, 1, none⟩ = some (.int .i64 0) := (blk_cell hcl 1).trans rfl
  have q0 := blk_frozen hcl 0
  have q1 := blk_frozen hcl 1
  have e1 : W2.cell? ⟨b, 1, none⟩ = some (.int .i64 d.n) := (blk_cell HD2.out.cells 1).trans rfl
  have e3 : W2.cell? ⟨b, 3, none⟩ = some (.int .i64 d.sz) := (blk_cell HD2.out.cells 3).trans rfl
  clear hW hcl c1 c2 c3 c5 t1 t2
  have w5 : IntKind.i64.wrap ((tx * d.wk + x) * d.sz + d.sz) = (tx * d.wk + x) * d.sz + d.sz := IntWalk.i64_in _ (by omega)
  have hmn : mn2 d.n (d.from x + d.sz) = if (tx * d.wk + x) * d.sz + d.sz < d.n then (tx * d.wk + x) * d.sz + d.sz else d.n := by rw [HF.out]; rfl
  generalize mn2 d.n (d.from x + d.sz) = M at *
  have w6 : (if (tx * d.wk + x) * d.sz + d.sz < d.n then (tx * d.wk + x) * d.sz + d.sz else d.n) = M := hmn.symm
  clear hmn
  have hfx := Lib.hid (show d.from x = (tx * d.wk + x) * d.sz from HF.out)
  generalize d.from x = F at *
  go_still_tail 13, (by kernel_rfl)
  go_wp2
  refine bodyPost_ret (v := .agg #[.int .i64 ((tx * d.wk + x) * d.sz), .int .i64 M]) (by simp [results, Try.results17, go_sem, r0, r1]) rfl ?_
  unfold SpanPost
  rw [hfx.out]
  exact ⟨rfl, dh_far (dh_far (dh_drew HD2.out) (by omega) (by omega) _ _) (by omega) (by omega) _ _, _, grown_new (grown_new (grown_drew HG2.out) (Nat.le_refl _) _ _) (Nat.le_refl _) _ _, grown_refl _ _⟩
end Go.Proofs.Ytnhjneldjfdnfaa.K
