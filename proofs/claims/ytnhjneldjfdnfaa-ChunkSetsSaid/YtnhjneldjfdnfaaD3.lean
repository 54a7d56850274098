/- The dealer: the next chunk of a worker. -/
import Derived.Test.YtnhjneldjfdnfaaD2
namespace Go.Proofs.Ytnhjneldjfdnfaa.K
open Go.RowKit Go.Proofs.YtnhjneldjfdnfaaW.PrintWords Go.Proofs.YtnhjneldjfdnfaaW.PrintLast Go.Proofs.YtnhjneldjfdnfaaW.PrintMore
attribute [local go_sem] max2_int min2_int max_two min_two max_three min_three max_four min_four
set_option linter.unusedVariables false
set_option linter.unusedSimpArgs false

/-- What take answers: the dealer behind it, and the span. -/
def D.take (d : D) (x : Nat) : D × Int × Int :=
  if d.pol = 1 then (if d.from x < d.n then (d.turn x, d.from x, mn2 d.n (d.from x + d.sz)) else (d, 0, 0))
  else if d.pol = 2 then (d.some d.sz, d.nx, (d.some d.sz).nx) else (d.some d.gsz, d.nx, (d.some d.gsz).nx)
theorem take_calls (base b bt ct : Nat) (d : D) (x : Nat) (w : World) (h : DH w base b bt ct d) (hx : (x : Int) < d.wk) :
    Calls Try.prog (fno d.pol) #[.pointer (some ⟨b, 0, none⟩), .int .i64 x] w (SpanPost base b bt ct (d.take x).1 (d.take x).2.1 (d.take x).2.2 w) := by
  unfold fno D.take
  by_cases c1 : d.pol = 1
  · simp only [if_pos c1]
    by_cases c2 : d.from x < d.n
    · simp only [if_pos c2]; exact static_some base b bt ct d x w h hx c2
    · simp only [if_neg c2]; exact static_none base b bt ct d x w h hx (by omega)
  · simp only [if_neg c1]
    by_cases c2 : d.pol = 2
    · simp only [if_pos c2]; exact dynamic_calls base b bt ct d x w h
    · simp only [if_neg c2]; exact guided_calls base b bt ct d x w h

/-- Next: the dealer behind it, the span, and is there one. -/
def D.next (d : D) (x : Int) : D × Int × Int × Bool :=
  if x < 0 ∨ d.wk ≤ x then (d, 0, 0, false)
  else if (d.take x.toNat).2.1 ≥ (d.take x.toNat).2.2 then ((d.take x.toNat).1, 0, 0, false) else ((d.take x.toNat).1, (d.take x.toNat).2.1, (d.take x.toNat).2.2, true)

/-- New blocks, and writes to two blocks alone. -/
structure Fr (w w' : World) (b bt : Nat) : Prop where
  os : w'.os = w.os
  tape : w'.tape = w.tape
  output : w'.output = w.output
  size : w.heap.size ≤ w'.heap.size
  block : ∀ k, k < w.heap.size → k ≠ b → k ≠ bt → w'.heap[k]? = w.heap[k]?
theorem fr_of {w w1 w' : World} {b bt : Nat} (h1 : w.grownBy w1 (some bt)) (h2 : w1.grownBy w' (some b)) : Fr w w' b bt :=
  ⟨h2.os.trans h1.os, h2.tape.trans h1.tape, h2.output.trans h1.output, Nat.le_trans h1.size h2.size, fun k hk n1 n2 => (h2.block k (Nat.lt_of_lt_of_le hk h1.size) (fun e => by injection e with e; exact n1 e)).trans (h1.block k hk (fun e => by injection e with e; exact n2 e))⟩
theorem fr_new {w w1 : World} {b bt : Nat} (h : Fr w w1 b bt) {r : Nat} (hr : w.heap.size ≤ r) (i : Nat) (u : Value) : Fr w (w1.setCell ⟨r, i, none⟩ u) b bt :=
  ⟨h.os, h.tape, h.output, Nat.le_trans h.size (by simp), fun k hk n1 n2 => (Below.heap_setCell w1 ⟨r, i, none⟩ u k (by simp only; omega)).trans (h.block k hk n1 n2)⟩
theorem fr_alloc {w w1 : World} {b bt : Nat} (h : Fr w w1 b bt) (o : Obj) : Fr w (w1.alloc o) b bt :=
  ⟨h.os, h.tape, h.output, Nat.le_trans h.size (by simp), fun k hk n1 n2 => (Below.heap_alloc w1 o k (Nat.lt_of_lt_of_le hk h.size)).trans (h.block k hk n1 n2)⟩
theorem fr_below {w0 w w1 : World} {b bt : Nat} (h : Below w0.heap.size w0 w) (hf : Fr w w1 b bt) (hb : w0.heap.size ≤ b) (hbt : w0.heap.size ≤ bt) : Below w0.heap.size w0 w1 :=
  ⟨hf.os.trans h.os, hf.tape.trans h.tape, hf.output.trans h.output, Nat.le_trans h.size hf.size, fun k hk => (hf.block k (Nat.lt_of_lt_of_le hk h.size) (by omega) (by omega)).trans (h.block k hk)⟩

def NextPost (base b bt ct : Nat) (d : D) (x : Int) (w : World) (e : Ending) (w' : World) : Prop :=
  e = .returned (.tuple #[.agg #[.int .i64 (d.next x).2.1, .int .i64 (d.next x).2.2.1], .bool (d.next x).2.2.2]) ∧ DH w' base b bt ct (d.next x).1 ∧ Fr w w' b bt

set_option maxHeartbeats 1000000 in
theorem next_far (base b bt ct : Nat) (d : D) (x : Int) (w : World) (h : DH w base b bt ct d) (hx : x < 0 ∨ d.wk ≤ x) :
    Calls Try.prog 9 #[.pointer (some ⟨b, 0, none⟩), .int .i64 x] w (NextPost base b bt ct d x w) := by
  have hr : d.next x = (d, 0, 0, false) := by unfold D.next; rw [if_pos hx]
  have HR := Lib.hid hr
  clear hr
  have c2 : w.cell? ⟨b, 2, none⟩ = some (.int .i64 d.wk) := (blk_cell h.cells 2).trans rfl
  obtain ⟨hb, hbt, _⟩ := dh_lt h
  have HH := Aside0.mk h
  clear h
  by_cases k : x < 0
  · go_enter Try.func9, Try.ntmps9
    go_wp2
    refine bodyPost_ret (v := .tuple #[.agg #[.int .i64 0, .int .i64 0], .bool false]) (by simp [results, Try.results9, go_sem]) rfl ?_
    unfold NextPost
    rw [HR.out]
    exact ⟨rfl, dh_alloc HH.out _, fr_of (grown_refl _ _) (World.grownBy_alloc _ _ _)⟩
  · have k2 : d.wk ≤ x := by omega
    go_enter Try.func9, Try.ntmps9
    go_wp2
    refine bodyPost_ret (v := .tuple #[.agg #[.int .i64 0, .int .i64 0], .bool false]) (by simp [results, Try.results9, go_sem]) rfl ?_
    unfold NextPost
    rw [HR.out]
    exact ⟨rfl, dh_alloc HH.out _, fr_of (grown_refl _ _) (World.grownBy_alloc _ _ _)⟩

set_option maxHeartbeats 1000000 in
theorem next_in (base b bt ct : Nat) (d : D) (x : Nat) (w : World) (h : DH w base b bt ct d) (hx : (x : Int) < d.wk) :
    Calls Try.prog 9 #[.pointer (some ⟨b, 0, none⟩), .int .i64 x] w (NextPost base b bt ct d x w) := by
  have hr : d.next x = if (d.take x).2.1 ≥ (d.take x).2.2 then ((d.take x).1, 0, 0, false) else ((d.take x).1, (d.take x).2.1, (d.take x).2.2, true) := by
    unfold D.next; rw [if_neg (by omega)]; rfl
  have HR := Lib.hid hr
  clear hr
  have c0 : w.cell? ⟨b, 0, none⟩ = some (fv d.pol b) := (blk_cell h.cells 0).trans rfl
  have c2 : w.cell? ⟨b, 2, none⟩ = some (.int .i64 d.wk) := (blk_cell h.cells 2).trans rfl
  unfold fv at c0
  obtain ⟨hb, hbt, _⟩ := dh_lt h
  have HT := Lib.hid (fun W hW => take_calls base b bt ct d x W hW hx)
  have hfn : fno d.pol = 17 ∨ fno d.pol = 18 ∨ fno d.pol = 19 := by
    unfold fno
    by_cases q : d.pol = 1
    · rw [if_pos q]; omega
    · rw [if_neg q]
      by_cases q2 : d.pol = 2
      · rw [if_pos q2]; omega
      · rw [if_neg q2]; omega
  generalize fno d.pol = fn at *
  have HH := Aside0.mk h
  clear h
  have hx0 : 0 ≤ (x : Int) := by omega
  have hx1 : ¬ (x : Int) < 0 := by omega
  have hx2 : ¬ d.wk ≤ (x : Int) := by omega
  rcases hfn with rfl | rfl | rfl
  · go_enter Try.func9, Try.ntmps9
    go_wp2_with fail
    refine (HT.out _ (dh_alloc HH.out _)).mono ?_
    intro e w9 hp
    obtain ⟨he, hd, w8, hg1, hg2⟩ := hp
    subst he
    have hs1 : w.heap.size < w8.heap.size := by have := hg1.size; simp at this; omega
    have hcl : w9.heap[w.heap.size]? = some (.cells #[.int .i64 0, .int .i64 0] 32 (0, 0)) := blk_grown (blk_grown (blk_new w _) hg1 (fun e => by injection e with e; omega)) hg2 (fun e => by injection e with e; omega)
    have r0 : w9.cell? ⟨w.heap.size, 0, none⟩ = some (.int .i64 0) := (blk_cell hcl 0).trans rfl
    have r1 : w9.cell? ⟨w.heap.size, 1, none⟩ = some (.int .i64 0) := (blk_cell hcl 1).trans rfl
    have q0 := blk_frozen hcl 0
    have q1 := blk_frozen hcl 1
    have HD := Aside0.mk hd
    have HG1 := Aside0.mk ((World.grownBy_alloc w (.cells #[.int .i64 0, .int .i64 0] 32 (0, 0)) (some bt)).trans hg1)
    have HG2 := Aside0.mk hg2
    have hs9 : w.heap.size < w9.heap.size := Nat.lt_of_lt_of_le hs1 hg2.size
    clear hcl hd hg1 hg2 HH HT
    generalize (d.take x).1 = d' at *
    generalize (d.take x).2.1 = f at *
    generalize (d.take x).2.2 = t at *
    by_cases k : f ≥ t
    · have hr := HR.out
      rw [if_pos k] at hr
      have HR' := Lib.hid hr
      clear HR hr
      have k' : t ≤ f := k
      go_wp2
      refine bodyPost_ret (v := .tuple #[.agg #[.int .i64 0, .int .i64 0], .bool false]) (by simp [results, Try.results9, go_sem, r0, r1, hs9]) rfl ?_
      unfold NextPost
      rw [HR'.out]
      exact ⟨rfl, dh_alloc (dh_far (dh_far HD.out (by omega) (by omega) _ _) (by omega) (by omega) _ _) _, fr_alloc (fr_new (fr_new (fr_of HG1.out HG2.out) (Nat.le_refl _) _ _) (Nat.le_refl _) _ _) _⟩
    · have hr := HR.out
      rw [if_neg k] at hr
      have HR' := Lib.hid hr
      clear HR hr
      have k' : ¬ t ≤ f := k
      go_wp2
      refine bodyPost_ret (v := .tuple #[.agg #[.int .i64 f, .int .i64 t], .bool true]) (by simp [results, Try.results9, go_sem, r0, r1, hs9]) rfl ?_
      unfold NextPost
      rw [HR'.out]
      exact ⟨rfl, dh_alloc (dh_far (dh_far HD.out (by omega) (by omega) _ _) (by omega) (by omega) _ _) _, fr_alloc (fr_new (fr_new (fr_of HG1.out HG2.out) (Nat.le_refl _) _ _) (Nat.le_refl _) _ _) _⟩
  · go_enter Try.func9, Try.ntmps9
    go_wp2_with fail
    refine (HT.out _ (dh_alloc HH.out _)).mono ?_
    intro e w9 hp
    obtain ⟨he, hd, w8, hg1, hg2⟩ := hp
    subst he
    have hs1 : w.heap.size < w8.heap.size := by have := hg1.size; simp at this; omega
    have hcl : w9.heap[w.heap.size]? = some (.cells #[.int .i64 0, .int .i64 0] 32 (0, 0)) := blk_grown (blk_grown (blk_new w _) hg1 (fun e => by injection e with e; omega)) hg2 (fun e => by injection e with e; omega)
    have r0 : w9.cell? ⟨w.heap.size, 0, none⟩ = some (.int .i64 0) := (blk_cell hcl 0).trans rfl
    have r1 : w9.cell? ⟨w.heap.size, 1, none⟩ = some (.int .i64 0) := (blk_cell hcl 1).trans rfl
    have q0 := blk_frozen hcl 0
    have q1 := blk_frozen hcl 1
    have HD := Aside0.mk hd
    have HG1 := Aside0.mk ((World.grownBy_alloc w (.cells #[.int .i64 0, .int .i64 0] 32 (0, 0)) (some bt)).trans hg1)
    have HG2 := Aside0.mk hg2
    have hs9 : w.heap.size < w9.heap.size := Nat.lt_of_lt_of_le hs1 hg2.size
    clear hcl hd hg1 hg2 HH HT
    generalize (d.take x).1 = d' at *
    generalize (d.take x).2.1 = f at *
    generalize (d.take x).2.2 = t at *
    by_cases k : f ≥ t
    · have hr := HR.out
      rw [if_pos k] at hr
      have HR' := Lib.hid hr
      clear HR hr
      have k' : t ≤ f := k
      go_wp2
      refine bodyPost_ret (v := .tuple #[.agg #[.int .i64 0, .int .i64 0], .bool false]) (by simp [results, Try.results9, go_sem, r0, r1, hs9]) rfl ?_
      unfold NextPost
      rw [HR'.out]
      exact ⟨rfl, dh_alloc (dh_far (dh_far HD.out (by omega) (by omega) _ _) (by omega) (by omega) _ _) _, fr_alloc (fr_new (fr_new (fr_of HG1.out HG2.out) (Nat.le_refl _) _ _) (Nat.le_refl _) _ _) _⟩
    · have hr := HR.out
      rw [if_neg k] at hr
      have HR' := Lib.hid hr
      clear HR hr
      have k' : ¬ t ≤ f := k
      go_wp2
      refine bodyPost_ret (v := .tuple #[.agg #[.int .i64 f, .int .i64 t], .bool true]) (by simp [results, Try.results9, go_sem, r0, r1, hs9]) rfl ?_
      unfold NextPost
      rw [HR'.out]
      exact ⟨rfl, dh_alloc (dh_far (dh_far HD.out (by omega) (by omega) _ _) (by omega) (by omega) _ _) _, fr_alloc (fr_new (fr_new (fr_of HG1.out HG2.out) (Nat.le_refl _) _ _) (Nat.le_refl _) _ _) _⟩
  · go_enter Try.func9, Try.ntmps9
    go_wp2_with fail
    refine (HT.out _ (dh_alloc HH.out _)).mono ?_
    intro e w9 hp
    obtain ⟨he, hd, w8, hg1, hg2⟩ := hp
    subst he
    have hs1 : w.heap.size < w8.heap.size := by have := hg1.size; simp at this; omega
    have hcl : w9.heap[w.heap.size]? = some (.cells #[.int .i64 0, .int .i64 0] 32 (0, 0)) := blk_grown (blk_grown (blk_new w _) hg1 (fun e => by injection e with e; omega)) hg2 (fun e => by injection e with e; omega)
    have r0 : w9.cell? ⟨w.heap.size, 0, none⟩ = some (.int .i64 0) := (blk_cell hcl 0).trans rfl
    have r1 : w9.cell? ⟨w.heap.size, 1, none⟩ = some (.int .i64 0) := (blk_cell hcl 1).trans rfl
    have q0 := blk_frozen hcl 0
    have q1 := blk_frozen hcl 1
    have HD := Aside0.mk hd
    have HG1 := Aside0.mk ((World.grownBy_alloc w (.cells #[.int .i64 0, .int .i64 0] 32 (0, 0)) (some bt)).trans hg1)
    have HG2 := Aside0.mk hg2
    have hs9 : w.heap.size < w9.heap.size := Nat.lt_of_lt_of_le hs1 hg2.size
    clear hcl hd hg1 hg2 HH HT
    generalize (d.take x).1 = d' at *
    generalize (d.take x).2.1 = f at *
    generalize (d.take x).2.2 = t at *
    by_cases k : f ≥ t
    · have hr := HR.out
      rw [if_pos k] at hr
      have HR' := Lib.hid hr
      clear HR hr
      have k' : t ≤ f := k
      go_wp2
      refine bodyPost_ret (v := .tuple #[.agg #[.int .i64 0, .int .i64 0], .bool false]) (by simp [results, Try.results9, go_sem, r0, r1, hs9]) rfl ?_
      unfold NextPost
      rw [HR'.out]
      exact ⟨rfl, dh_alloc (dh_far (dh_far HD.out (by omega) (by omega) _ _) (by omega) (by omega) _ _) _, fr_alloc (fr_new (fr_new (fr_of HG1.out HG2.out) (Nat.le_refl _) _ _) (Nat.le_refl _) _ _) _⟩
    · have hr := HR.out
      rw [if_neg k] at hr
      have HR' := Lib.hid hr
      clear HR hr
      have k' : ¬ t ≤ f := k
      go_wp2
      refine bodyPost_ret (v := .tuple #[.agg #[.int .i64 f, .int .i64 t], .bool true]) (by simp [results, Try.results9, go_sem, r0, r1, hs9]) rfl ?_
      unfold NextPost
      rw [HR'.out]
      exact ⟨rfl, dh_alloc (dh_far (dh_far HD.out (by omega) (by omega) _ _) (by omega) (by omega) _ _) _, fr_alloc (fr_new (fr_new (fr_of HG1.out HG2.out) (Nat.le_refl _) _ _) (Nat.le_refl _) _ _) _⟩

theorem next_calls (base b bt ct : Nat) (d : D) (x : Int) (w : World) (h : DH w base b bt ct d) :
    Calls Try.prog 9 #[.pointer (some ⟨b, 0, none⟩), .int .i64 x] w (NextPost base b bt ct d x w) := by
  by_cases c : x < 0 ∨ d.wk ≤ x
  · exact next_far base b bt ct d x w h c
  · obtain ⟨a, rfl⟩ := Int.eq_ofNat_of_zero_le (show 0 ≤ x by omega)
    exact next_in base b bt ct d a w h (by omega)
end Go.Proofs.Ytnhjneldjfdnfaa.K
