/- ChunkLeast walked. -/
import Derived.Test.YtnhjneldjfdnfaaD4
import Derived.Test.YtnhjneldjfdnfaaPureC
import Derived.BigQuiet
namespace Go.Proofs.Ytnhjneldjfdnfaa.K
open Go.RowKit Go.Proofs.YtnhjneldjfdnfaaW.PrintWords Go.Proofs.YtnhjneldjfdnfaaW.PrintLast Go.Proofs.YtnhjneldjfdnfaaW.PrintMore
attribute [local go_sem] max2_int min2_int max_two min_two max_three min_three max_four min_four
set_option linter.unusedVariables false
set_option linter.unusedSimpArgs false

/-- The first numbers stay. -/
def Same4 (d d' : D) : Prop := d'.pol = d.pol ∧ d'.n = d.n ∧ d'.wk = d.wk ∧ d'.sz = d.sz
theorem next_same (d : D) (x : Int) : Same4 d (d.next x).1 := by
  have ht : ∀ y, Same4 d (d.take y).1 := by
    intro y
    unfold D.take
    split
    · split <;> exact ⟨rfl, rfl, rfl, rfl⟩
    · split <;> exact ⟨rfl, rfl, rfl, rfl⟩
  unfold D.next
  split
  · exact ⟨rfl, rfl, rfl, rfl⟩
  · split <;> exact ht _
theorem dh_turns_block {w : World} {base b bt ct : Nat} {d : D} (h : DH w base b bt ct d) : ∃ cells, w.heap[bt]? = some (.cells cells 3 (0, 0)) := by
  have hl := h.ok.2.2.2.2.1
  have ht := h.ok.2.2.2.2.2.2.2.2.2.2.1
  obtain ⟨g, cap, e, _, hg, cells, hc⟩ := Kd.R_form h.turns (by omega)
  injection e with e1 _ _
  injection e1 with e1
  injection e1 with e1 _ _
  subst e1
  exact ⟨cells, hc⟩
/-- A row of another type stays over a call of the dealer's. -/
theorem R_fr {α : Type} {k : Kd α} {e base base' : Nat} {w w' : World} {v : Value} {xs : List α} {b bt ct : Nat} {d : D} (h : Kd.R k e w base' (fun _ => True) v xs) (hd : DH w base b bt ct d) (hf : Fr w w' b bt)
    (h1 : ∀ q, q ∈ e :: k.E → q ≠ 53) (h2 : ∀ q, q ∈ e :: k.E → q ≠ 3) : Kd.R k e w' base' (fun _ => True) v xs := by
  obtain ⟨cells, hc⟩ := dh_turns_block hd
  exact Kd.R_mono (Kd.R_step (Kd.R_types (Kd.R_types h hd.cells h1) hc h2) (fun k ho hk => hf.block k hk ho.1.2 ho.2)) (fun _ _ => trivial)
theorem blk_fr {w w' : World} {base b bt ct g t : Nat} {d : D} {cs : Array Value} (h : w.heap[g]? = some (.cells cs t (0, 0))) (hd : DH w base b bt ct d) (hf : Fr w w' b bt) (h1 : t ≠ 53) (h2 : t ≠ 3) : w'.heap[g]? = some (.cells cs t (0, 0)) := by
  obtain ⟨cells, hc⟩ := dh_turns_block hd
  exact (hf.block g (blk_lt h) (blk_ne h hd.cells h1) (blk_ne h hc h2)).trans h

set_option maxHeartbeats 1000000 in
theorem least_big (p sz wk n : Int) (A : Option Addr) (len cap : Nat) (w : World) (h : 300 < len) :
    Calls Try.prog 4 #[.agg #[.int .i64 p, .int .i64 sz, .int .i64 wk, .int .i64 n, .slice A len cap]] w (TruePost w) := by
  have h' : (300 : Int) < len := by omega
  go_enter Try.func4, Try.ntmps4
  go_wp2
  go_ret
  exact ⟨rfl, below_alloc (Below.refl _ _) _⟩

set_option maxHeartbeats 1000000 in
theorem least_bad (p sz wk n : Int) (A : Option Addr) (len cap : Nat) (w : World) (h : ¬ 300 < len) (hn : newErr p sz wk n ≠ 0) :
    Calls Try.prog 4 #[.agg #[.int .i64 p, .int .i64 sz, .int .i64 wk, .int .i64 n, .slice A len cap]] w (TruePost w) := by
  have h' : ¬ (300 : Int) < len := by omega
  have hnew := Lib.hid (fun W => new_bad p sz wk n W hn)
  have he1 : (newErr p sz wk n != 0) = true := by rw [bne_iff_ne]; exact hn
  have he2 : (newErr p sz wk n == 0) = false := by rw [beq_eq_false_iff_ne]; exact hn
  have HE1 := Lib.hid he1
  have HE2 := Lib.hid he2
  clear he1 he2
  have HB := Aside0.mk (Below.refl w.heap.size w)
  go_enter Try.func4, Try.ntmps4
  go_wp2_with fail
  refine (hnew.out _).mono ?_
  intro e w1 hp
  unfold NewBad at hp
  obtain ⟨he, hw⟩ := hp
  subst he
  subst hw
  have he1 := HE1.out
  have he2 := HE2.out
  generalize newErr p sz wk n = er at *
  clear HE1 HE2 hnew hn
  go_wp2_with fail
  refine (alive_calls _).mono ?_
  intro e w2 hp
  obtain ⟨he, hb⟩ := hp
  subst he
  have n1_ := Aside0.mk (below_step (below_alloc HB.out _) hb)
  clear hb
  go_wp2
  go_ret
  exact ⟨rfl, n1_.out⟩

def bcells (p sz wk n : Int) (A : Option Addr) (len cap : Nat) : Array Value := #[.int .i64 p, .int .i64 sz, .int .i64 wk, .int .i64 n, .slice A len cap]
def MRel (d0 : D) (w : World) (bx b bt ct : Nat) (bc : Array Value) (len : Nat) (v5 v6 : Value) (w' : World) : Prop :=
  ∃ (i : Nat) (d : D) (G : List Bool), i ≤ len ∧ v6 = .int .i64 i ∧ Aside0 (Same4 d0 d) ∧ Aside0 ((G.length : Int) = d0.n + 1) ∧ Aside0 (∀ a : Nat, (a : Int) < d0.n → G.getD a false = d.got a) ∧ Aside0 (DH w' w.heap.size b bt ct d) ∧
    Aside0 (Kd.R Kd.bool 4 w' w.heap.size (fun _ => True) v5 G) ∧ Aside0 (w'.heap[bx]? = some (.cells bc 25 (0, 0))) ∧ Aside0 (Below w.heap.size w w')

theorem dh_below {w w1 : World} {base b bt ct : Nat} {d : D} (h : DH w base b bt ct d) (hb : Below w.heap.size w w1) : DH w1 base b bt ct d :=
  ⟨blk_below h.cells hb, Kd.R_below h.turns hb, h.ok, h.low, h.lowt⟩
theorem got_new (p sz wk n : Int) (a : Nat) : (newD p sz wk n).got a = false := by
  unfold D.got newD
  simp only
  split
  · have e : ∀ k, (List.replicate wk.toNat (0 : Int)).getD k 0 = 0 := by
      intro k
      simp only [List.getD_eq_getElem?_getD, List.getElem?_replicate]
      split <;> rfl
    rw [e]
    exact decide_eq_false (Int.not_lt.mpr (Int.natCast_nonneg _))
  · rw [decide_eq_false]; omega

def TRel (d : D) (n f t : Int) (ok : Bool) (w : World) (bx b bt ct bs bg cg : Nat) (bc : Array Value) (d' : D) (v11 : Value) (w' : World) : Prop :=
  ∃ (c : Int) (G : List Bool), v11 = .int .i64 c ∧ Aside0 (ok = true → f ≤ c ∧ c ≤ t) ∧ Aside0 ((G.length : Int) = n + 1) ∧ Aside0 (∀ a : Nat, (a : Int) < n → G.getD a false = (d.got a || (ok && (decide (f ≤ a) && decide ((a : Int) < c))))) ∧ Aside0 (DH w' w.heap.size b bt ct d') ∧
    Aside0 (Kd.R Kd.bool 4 w' w.heap.size (fun _ => True) (.slice (some ⟨bg, 0, none⟩) (n + 1).toNat cg) G) ∧ Aside0 (w'.heap[bx]? = some (.cells bc 25 (0, 0))) ∧ Aside0 (w'.heap[bs]? = some (.cells #[.int .i64 f, .int .i64 t] 32 (0, 0))) ∧ Aside0 (Below w.heap.size w w')

theorem trel_step {d d' : D} {n f t : Int} {w wr : World} {bx b bt ct bs bg cg m : Nat} {bc : Array Value} {G : List Bool} (hm : (m : Int) < t) (CB : f ≤ m ∧ (m : Int) ≤ t) (hf0 : 0 ≤ f) (htn : t ≤ n) (GL : (G.length : Int) = n + 1)
    (GG : ∀ a : Nat, (a : Int) < n → G.getD a false = (d.got a || (true && (decide (f ≤ a) && decide ((a : Int) < m))))) (HD : DH wr w.heap.size b bt ct d')
    (HO : Kd.R Kd.bool 4 wr w.heap.size (fun _ => True) (.slice (some ⟨bg, 0, none⟩) (n + 1).toNat cg) G) (HX : wr.heap[bx]? = some (.cells bc 25 (0, 0))) (HS : wr.heap[bs]? = some (.cells #[.int .i64 f, .int .i64 t] 32 (0, 0))) (HB : Below w.heap.size w wr) :
    TRel d n f t true w bx b bt ct bs bg cg bc d' (.int .i64 ((m : Int) + 1)) (wr.setCell ⟨bg, m, none⟩ (.bool true)) := by
  obtain ⟨g, cap, e, hlow, _, _, _⟩ := Kd.R_form HO (by omega)
  injection e with e1 _ _
  injection e1 with e1
  injection e1 with e1 _ _
  subst e1
  obtain ⟨tc, htc⟩ := dh_turns_block HD
  have n1 : bg ≠ b := fun e => Kd.R_ne HO HD.cells (by decide) (by rw [e]; rfl)
  have n2 : bg ≠ bt := fun e => Kd.R_ne HO htc (by decide) (by rw [e]; rfl)
  have n3 : bx ≠ bg := fun e => Kd.R_ne HO HX (by decide) (by rw [e]; rfl)
  have n4 : bs ≠ bg := fun e => Kd.R_ne HO HS (by decide) (by rw [e]; rfl)
  have hp := (Kd.R_putg HO (m : Int) true).1
  simp only [Int.toNat_natCast] at hp
  refine ⟨(m : Int) + 1, G.set m true, rfl, ⟨fun _ => by omega⟩, ⟨by rw [List.length_set]; exact GL⟩, ⟨fun a ha => ?_⟩, ⟨dh_far HD n1 n2 _ _⟩, ⟨hp⟩, ⟨blk_far HX n3 _⟩, ⟨blk_far HS n4 _⟩, ⟨below_set HB hlow⟩⟩
  have hl : m < G.length := by omega
  by_cases e : m = a
  · subst e
    have e1 : (G.set m true).getD m false = true := by simp [List.getD_eq_getElem?_getD, hl]
    have e2 : (decide (f ≤ (m : Int)) && decide ((m : Int) < (m : Int) + 1)) = true := by simp; omega
    rw [e1, e2]
    simp
  · have e1 : (G.set m true).getD a false = G.getD a false := by
      simp only [List.getD_eq_getElem?_getD]
      rw [List.getElem?_set_ne e]
    have e2 : decide ((a : Int) < (m : Int) + 1) = decide ((a : Int) < m) := by
      rw [Bool.eq_iff_iff]
      simp only [decide_eq_true_eq]
      omega
    rw [e1, e2, GG a ha]

theorem tdiv_nat (a : Nat) (s : Int) (h : 1 ≤ s) : Int.tdiv (a : Int) s = ((a / s.toNat : Nat) : Int) := by
  obtain ⟨k, rfl⟩ := Int.eq_ofNat_of_zero_le (show 0 ≤ s by omega)
  rw [Int.toNat_natCast]
  exact (Int.ofNat_tdiv a k).symm
theorem wrapdiv (a : Nat) (s : Int) (h : 1 ≤ s) (ha : a ≤ 1000) : IntKind.wrap .i64 (Int.tdiv (a : Int) s) = ((a / s.toNat : Nat) : Int) := by
  rw [tdiv_nat a s h]
  have := Nat.div_le_self a s.toNat
  generalize a / s.toNat = zz at *
  exact IntWalk.i64_in _ (by omega)
theorem wrapdiv2 (a : Nat) (s : Int) (h : 1 ≤ s) (ha : a ≤ 1000) : wrap64 ((a : Int) / s) = ((a / s.toNat : Nat) : Int) := by
  have h1 := wrapdiv a s h ha
  rw [IntKind.wrap_i64, Int.tdiv_eq_ediv_of_nonneg (Int.natCast_nonneg a)] at h1
  unfold wrap64
  exact h1
theorem tmod_nat (a : Nat) (s : Int) (h : 1 ≤ s) : Int.tmod (a : Int) s = ((a % s.toNat : Nat) : Int) := by
  obtain ⟨k, rfl⟩ := Int.eq_ofNat_of_zero_le (show 0 ≤ s by omega)
  rw [Int.toNat_natCast]
  exact (Int.ofNat_tmod a k).symm
theorem info4 : (Try.prog.info? 4).map (fun i => (i.zero, i.size, i.bytes)) = some (some (.bool false), 1, 1) := by kernel_rfl

set_option maxHeartbeats 4000000 in
set_option maxRecDepth 100000 in
theorem least_main (p sz wk n : Int) (A : Option Addr) (cap : Nat) (asks : List Int) (w : World) (hr : Kd.C (Kd.int .i64) w A asks.length asks) (h : ¬ 300 < asks.length) (hn : newErr p sz wk n = 0) :
    Calls Try.prog 4 #[.agg #[.int .i64 p, .int .i64 sz, .int .i64 wk, .int .i64 n, .slice A asks.length cap]] w (TruePost w) := by
  have h' : ¬ (300 : Int) < asks.length := by omega
  have hnew := Lib.hid (fun W => new_ok p sz wk n W hn)
  have HB := Aside0.mk (Below.refl w.heap.size w)
  have HR := Aside0.mk hr
  have hrange : (1 ≤ p ∧ p ≤ 3) ∧ (1 ≤ sz ∧ sz ≤ 200) ∧ (1 ≤ wk ∧ wk ≤ 8) ∧ (0 ≤ n ∧ n ≤ 200) := by
    unfold newErr at hn
    by_cases c1 : p < 1 ∨ 3 < p
    · rw [if_pos c1] at hn; omega
    · rw [if_neg c1] at hn
      by_cases c2 : sz < 1 ∨ 200 < sz
      · rw [if_pos c2] at hn; omega
      · rw [if_neg c2] at hn
        by_cases c3 : wk < 1 ∨ 8 < wk
        · rw [if_pos c3] at hn; omega
        · rw [if_neg c3] at hn
          by_cases c4 : n < 0 ∨ 200 < n
          · rw [if_pos c4] at hn; omega
          · omega
  obtain ⟨⟨p1, p2⟩, ⟨s1, s2⟩, ⟨k1, k2⟩, ⟨n1, n2⟩⟩ := hrange
  clear hr hn
  go_enter Try.func4, Try.ntmps4
  go_wp2_with (first | ((with_reducible refine gate_dst (N := 1) rfl ?_); refine box_event ?hg (N := 1) ?hd (cs := bcells p sz wk n A asks.length cap) (t := 25) ?hr ?_; (case hd => rfl); (case hg => rfl); (case hr => unfold bcells; first | (go_simp; done) | (go_simp; rfl)); intro bx hg w3 hbox hb; have m1_ := Aside0.mk (below_step HB.out hb); have m2_ := Aside0.mk hbox; clear HB hb hbox hg; have HB := m1_; have HX := m2_; clear m1_ m2_; have x0 : w3.cell? ⟨bx, 0, none⟩ = some (.int .i64 p) := (blk_cell HX.out 0).trans rfl; have x1 : w3.cell? ⟨bx, 1, none⟩ = some (.int .i64 sz) := (blk_cell HX.out 1).trans rfl; have x2 : w3.cell? ⟨bx, 2, none⟩ = some (.int .i64 wk) := (blk_cell HX.out 2).trans rfl; have x3 : w3.cell? ⟨bx, 3, none⟩ = some (.int .i64 n) := (blk_cell HX.out 3).trans rfl; have x4 : w3.cell? ⟨bx, 4, none⟩ = some (.slice A asks.length cap) := (blk_cell HX.out 4).trans rfl))
  refine (hnew.out _).mono ?_
  intro e w4 hp
  obtain ⟨b, bt, ct, he, hd, hb⟩ := hp
  subst he
  have hX := blk_below HX.out hb
  have hBB := below_step HB.out hb
  have hD : DH w4 w.heap.size b bt ct (newD p sz wk n) := ⟨hd.cells, Kd.R_lower hd.turns (below_size HB.out), hd.ok, Nat.le_trans (below_size HB.out) hd.low, Nat.le_trans (below_size HB.out) hd.lowt⟩
  clear HB HX x0 x1 x2 x3 x4 hb hd
  have HB := Aside0.mk hBB
  have HX := Aside0.mk hX
  have HD := Aside0.mk hD
  clear hBB hX hD hnew
  have x0 : w4.cell? ⟨bx, 0, none⟩ = some (.int .i64 p) := (blk_cell HX.out 0).trans rfl
  have x1 : w4.cell? ⟨bx, 1, none⟩ = some (.int .i64 sz) := (blk_cell HX.out 1).trans rfl
  have x2 : w4.cell? ⟨bx, 2, none⟩ = some (.int .i64 wk) := (blk_cell HX.out 2).trans rfl
  have x3 : w4.cell? ⟨bx, 3, none⟩ = some (.int .i64 n) := (blk_cell HX.out 3).trans rfl
  have x4 : w4.cell? ⟨bx, 4, none⟩ = some (.slice A asks.length cap) := (blk_cell HX.out 4).trans rfl
  have n3 : 0 ≤ n + 1 := by omega
  go_wp2_with (first | ((with_reducible refine gate_dst (N := 42) rfl ?_); refine Kd.R_make Kd.bool _ 4 rfl (N := 42) rfl 36 _ _ rfl (n + 1) rfl rfl Try.underlying36 (.bool false) 1 info4 rfl (by decide) (by omega) false (ok := fun _ => True) (okp := fun _ => True) rfl (fun _ hk => hk) trivial (by omega) (by omega) (Below.refl _ _) (Nat.le_refl _) ?_; intro v5 w5 ho6 hb hg_ hnew_; clear hg_ hnew_))
  obtain ⟨bg, cg, eg, hbg, hlg, _, _⟩ := Kd.R_form ho6 (by simp; omega)
  subst eg
  have m1_ := Aside0.mk (below_step HB.out hb)
  have m2_ := Aside0.mk (blk_below HX.out hb)
  have m3_ := Aside0.mk (dh_below HD.out hb)
  have m4_ := Aside0.mk (Kd.R_lower ho6 (below_size HB.out))
  rw [List.length_replicate] at m4_
  rw [List.length_replicate]
  clear HB HX HD hb ho6 x0 x1 x2 x3 x4 hlg hbg
  have HB := m1_
  have HX := m2_
  have HD := m3_
  have HO := m4_
  clear m1_ m2_ m3_ m4_
  go_loopw [6] (fun v6 w' => MRel (newD p sz wk n) w bx b bt ct (bcells p sz wk n A asks.length cap) asks.length (.slice (some ⟨bg, 0, none⟩) (n + 1).toNat cg) v6 w') (fun v6 _ => asks.length - (intOf v6).toNat)
  case atStart => exact ⟨0, newD p sz wk n, _, Nat.zero_le _, rfl, ⟨⟨rfl, rfl, rfl, rfl⟩⟩, ⟨by simp [newD]; omega⟩, ⟨fun a ha => by rw [got_new]; simp only [List.getD_eq_getElem?_getD, List.getElem?_replicate]; split <;> rfl⟩, HD, HO, HX, HB⟩
  case round =>
    clear HD HO HX HB
    unfold MRel at hrel
    obtain ⟨i, d, G, hi, rfl, S4, GL, GG, HD, HO, HX, HB⟩ := hrel
    have GLn : Aside0 ((G.length : Int) = n + 1) := ⟨GL.out⟩
    have x0 : wr.cell? ⟨bx, 0, none⟩ = some (.int .i64 p) := (blk_cell HX.out 0).trans rfl
    have x1 : wr.cell? ⟨bx, 1, none⟩ = some (.int .i64 sz) := (blk_cell HX.out 1).trans rfl
    have x2 : wr.cell? ⟨bx, 2, none⟩ = some (.int .i64 wk) := (blk_cell HX.out 2).trans rfl
    have x3 : wr.cell? ⟨bx, 3, none⟩ = some (.int .i64 n) := (blk_cell HX.out 3).trans rfl
    have x4 : wr.cell? ⟨bx, 4, none⟩ = some (.slice A asks.length cap) := (blk_cell HX.out 4).trans rfl
    by_cases hlt : i < asks.length
    · have i0 : (0 : Int) ≤ i := by omega
      have i1 : (i : Int) < asks.length := by omega
      obtain ⟨ad, ea, hx⟩ := Kd.at_int HR.out i i0 i1
      cases ea
      simp only [Int.toNat_natCast] at hx
      generalize hq : rd asks (i : Int) = q at *
      clear hq
      have HXW := Aside0.mk hx
      replace hx := (HB.out.cell (World.block_lt_of_cell? w _ hx)).trans hx
      go_wp2
      have lb := least_le d n.toNat 0
      have lbe := least_below d n.toNat 0
      have lat := least_at d n.toNat 0
      have hnx : 0 ≤ q → q < wk → ((d.least n.toNat 0 : Nat) : Int) < n → (p = 1 → ((d.least n.toNat 0 / sz.toNat % wk.toNat : Nat) : Int) = q) → (d.next q).2.2.2 = true ∧ (d.next q).2.1 = ((d.least n.toNat 0 : Nat) : Int) := by
        have hh := next_least d HD.out.ok q
        obtain ⟨e1, e2, e3, e4⟩ := S4.out
        rw [e1, e2, e3, e4] at hh
        exact hh
      have hng : ∀ a : Nat, (a : Int) < n → (d.next q).1.got a = (d.got a || ((d.next q).2.2.2 && (decide ((d.next q).2.1 ≤ a) && decide ((a : Int) < (d.next q).2.2.1)))) := by
        intro a ha
        obtain ⟨_, e2, _, _⟩ := S4.out
        exact next_got d HD.out.ok q a (by rw [e2]; exact ha)
      have hbd : (d.next q).2.2.2 = true → 0 ≤ (d.next q).2.1 ∧ (d.next q).2.1 < (d.next q).2.2.1 ∧ (d.next q).2.2.1 ≤ n := by
        intro hh
        obtain ⟨_, e2, _, _⟩ := S4.out
        have := next_bounds d HD.out.ok q hh
        rw [e2] at this
        exact this
      have hsm : Same4 (newD p sz wk n) (d.next q).1 := by
        obtain ⟨e1, e2, e3, e4⟩ := S4.out
        obtain ⟨f1, f2, f3, f4⟩ := next_same d q
        exact ⟨f1.trans e1, f2.trans e2, f3.trans e3, f4.trans e4⟩
      have HNX := Lib.hid hnx
      have HNG := Lib.hid hng
      have HBD := Lib.hid hbd
      have HSM := Lib.hid hsm
      clear hnx hng hbd hsm
      generalize hL : d.least n.toNat 0 = L at *
      have hgl := Lib.hid (fun a (ha : a < L) => lbe a (Nat.zero_le _) ha)
      have hga := Lib.hid (fun (ha : L < 0 + n.toNat) => lat ha)
      have hLn : (L : Int) ≤ n := by omega
      have HL := Lib.hid hL
      clear lb lbe lat hL
      go_loop [7] (fun v7 => ∃ a : Nat, a ≤ L ∧ v7 = .int .i64 a) (fun v7 => L - (intOf v7).toNat)
      case atStart => exact ⟨0, Nat.zero_le _, rfl⟩
      case round =>
        obtain ⟨a, haL, rfl⟩ := hrel
        by_cases ha : a < L
        · have a0 : (0 : Int) ≤ a := by omega
          have a1 : (a : Int) < n := by omega
          have hG := (GG.out a a1).trans (hgl.out a ha)
          obtain ⟨hc, _⟩ := Kd.R_celln false HO.out (a : Int) a0 (by omega)
          have hr' : rdOf false G (a : Int) = G.getD a false := by simp [rdOf]
          rw [hr', hG] at hc
          simp only [Int.toNat_natCast] at hc
          clear hG hr'
          go_wp2
          go_round
          case rel => exact ⟨a + 1, by omega, by go_num⟩
          case measure => simp [intOf]; omega
        · have e : a = L := by omega
          subst e
          clear ha haL
          by_cases hLn2 : (a : Int) < n
          · have a0 : (0 : Int) ≤ a := by omega
            have hG := (GG.out a hLn2).trans (hga.out (by omega))
            obtain ⟨hc, _⟩ := Kd.R_celln false HO.out (a : Int) a0 (by omega)
            have hr' : rdOf false G (a : Int) = G.getD a false := by simp [rdOf]
            rw [hr', hG] at hc
            simp only [Int.toNat_natCast] at hc
            clear hG hr'
            go_wp2_with fail
            refine (next_calls _ b bt ct d q _ HD.out).mono ?_
            intro e w7 hp
            unfold NextPost at hp
            obtain ⟨he, hd, hf⟩ := hp
            subst he
            have m1_ := Aside0.mk hd
            have m2_ := Aside0.mk (R_fr HO.out HD.out hf (by decide) (by decide))
            have m3_ := Aside0.mk (blk_fr HX.out HD.out hf (by decide) (by decide))
            have m4_ := Aside0.mk (fr_below HB.out hf HD.out.low HD.out.lowt)
            clear HD HO HX HB hd hf x0 x1 x2 x3 x4 hx hc
            have HD := m1_
            have HO := m2_
            have HX := m3_
            have HB := m4_
            clear m1_ m2_ m3_ m4_
            generalize (d.next q).1 = d' at *
            generalize (d.next q).2.1 = f at *
            generalize (d.next q).2.2.1 = t at *
            generalize (d.next q).2.2.2 = ok at *
            have x0 : w7.cell? ⟨bx, 0, none⟩ = some (.int .i64 p) := (blk_cell HX.out 0).trans rfl
            have x1 : w7.cell? ⟨bx, 1, none⟩ = some (.int .i64 sz) := (blk_cell HX.out 1).trans rfl
            have x2 : w7.cell? ⟨bx, 2, none⟩ = some (.int .i64 wk) := (blk_cell HX.out 2).trans rfl
            have x3 : w7.cell? ⟨bx, 3, none⟩ = some (.int .i64 n) := (blk_cell HX.out 3).trans rfl
            have x4 : w7.cell? ⟨bx, 4, none⟩ = some (.slice (some ad) asks.length cap) := (blk_cell HX.out 4).trans rfl
            have hx : w7.cell? (ad.add i) = some (.int .i64 q) := (HB.out.cell (World.block_lt_of_cell? w _ HXW.out)).trans HXW.out
            go_wp2
            generalize hW : w7.alloc (.cells #[.int .i64 f, .int .i64 t] 32 (0, 0)) = w9
            have m1_ := Aside0.mk (show DH w9 w.heap.size b bt ct d' by rw [← hW]; exact dh_alloc HD.out _)
            have m2_ := Aside0.mk (show Kd.R Kd.bool 4 w9 w.heap.size (fun _ => True) (.slice (some ⟨bg, 0, none⟩) (n + 1).toNat cg) G by rw [← hW]; exact Kd.R_alloc HO.out _)
            have m3_ := Aside0.mk (show w9.heap[bx]? = some (.cells (bcells p sz wk n (some ad) asks.length cap) 25 (0, 0)) by rw [← hW]; exact blk_alloc HX.out _)
            have m4_ := Aside0.mk (show Below w.heap.size w w9 by rw [← hW]; exact below_alloc HB.out _)
            have m5_ := Aside0.mk (show w9.heap[w7.heap.size]? = some (.cells #[.int .i64 f, .int .i64 t] 32 (0, 0)) by rw [← hW]; exact blk_new w7 _)
            generalize w7.heap.size = bs at *
            clear HD HO HX HB hW x0 x1 x2 x3 x4 hx
            have HD := m1_
            have HO := m2_
            have HX := m3_
            have HB := m4_
            have HS := m5_
            clear m1_ m2_ m3_ m4_ m5_
            have x0 : w9.cell? ⟨bx, 0, none⟩ = some (.int .i64 p) := (blk_cell HX.out 0).trans rfl
            have x1 : w9.cell? ⟨bx, 1, none⟩ = some (.int .i64 sz) := (blk_cell HX.out 1).trans rfl
            have x2 : w9.cell? ⟨bx, 2, none⟩ = some (.int .i64 wk) := (blk_cell HX.out 2).trans rfl
            have x3 : w9.cell? ⟨bx, 3, none⟩ = some (.int .i64 n) := (blk_cell HX.out 3).trans rfl
            have x4 : w9.cell? ⟨bx, 4, none⟩ = some (.slice (some ad) asks.length cap) := (blk_cell HX.out 4).trans rfl
            have s0 : w9.cell? ⟨bs, 0, none⟩ = some (.int .i64 f) := (blk_cell HS.out 0).trans rfl
            have s1 : w9.cell? ⟨bs, 1, none⟩ = some (.int .i64 t) := (blk_cell HS.out 1).trans rfl
            have hx : w9.cell? (ad.add i) = some (.int .i64 q) := (HB.out.cell (World.block_lt_of_cell? w _ HXW.out)).trans HXW.out
            by_cases q0 : 0 ≤ q
            · by_cases q1 : q < wk
              · have q0' : decide (0 ≤ q) = true := decide_eq_true q0
                have q1' : decide (q < wk) = true := decide_eq_true q1
                cases hpp : (p == 1) with
                | false =>
                  have hp1 : p ≠ 1 := by simpa using hpp
                  obtain ⟨hok, hfa⟩ := HNX.out q0 q1 hLn2 (fun hh => absurd hh hp1)
                  subst hok
                  subst hfa
                  clear hp1
                  go_quiet (fail)
                  go_wp2
                  go_loopw [11] (fun v11 w' => TRel d n (a : Int) t true w bx b bt ct bs bg cg (bcells p sz wk n (some ad) asks.length cap) d' v11 w') (fun v11 _ => (t - intOf v11).toNat)
                  case atStart => exact ⟨(a : Int), G, rfl, ⟨fun h => by have := HBD.out (by simp); omega⟩, ⟨GLn.out⟩, ⟨fun a_ ha_ => by rw [GG.out a_ ha_, show (decide ((a : Int) ≤ (a_ : Int)) && decide ((a_ : Int) < (a : Int))) = false from by rw [Bool.and_eq_false_iff]; simp only [decide_eq_false_iff_not]; omega]; simp⟩, ⟨by (repeat (first | exact HD.out | apply dh_drewN | apply dh_drew))⟩, ⟨by (repeat (first | exact HO.out | apply Kd.R_drewN | apply Kd.R_drew))⟩, ⟨by (repeat (first | exact HX.out | apply blk_drewN | apply blk_drew))⟩, ⟨by (repeat (first | exact HS.out | apply blk_drewN | apply blk_drew))⟩, ⟨by (repeat (first | exact HB.out | apply pw_below_drewN | apply below_drew1))⟩⟩
                  case round =>
                    clear HD HO HX HS HB x0 x1 x2 x3 x4 s0 s1 hx
                    unfold TRel at hrel
                    obtain ⟨c, G2, rfl, CB, GL2, GG2, HD, HO, HX, HS, HB⟩ := hrel
                    have s0 : wr.cell? ⟨bs, 0, none⟩ = some (.int .i64 (a : Int)) := (blk_cell HS.out 0).trans rfl
                    have s1 : wr.cell? ⟨bs, 1, none⟩ = some (.int .i64 t) := (blk_cell HS.out 1).trans rfl
                    have hcb := CB.out rfl
                    have hbd := HBD.out (by simp)
                    obtain ⟨cb1, cb2⟩ := hcb
                    obtain ⟨bd1, bd2, bd3⟩ := hbd
                    obtain ⟨m, rfl⟩ := Int.eq_ofNat_of_zero_le (show 0 ≤ c by omega)
                    by_cases hmt : (m : Int) < t
                    · have m0 : (0 : Int) ≤ m := by omega
                      have m1 : (m : Int) < ((n + 1).toNat : Int) := by omega
                      obtain ⟨hc1, hf1⟩ := Kd.R_celln false HO.out (m : Int) m0 m1
                      simp only [Int.toNat_natCast] at hc1 hf1
                      generalize rdOf false G2 (m : Int) = ov at *
                      have hstep := Lib.hid (trel_step hmt ⟨cb1, cb2⟩ bd1 bd3 GL2.out GG2.out HD.out HO.out HX.out HS.out HB.out)
                      go_wp2
                      go_roundw
                      case rel => exact hstep.out
                      case measure => simp [intOf]; omega
                    · have hce : (m : Int) = t := by omega
                      have HCE := Lib.hid hce
                      clear hce
                      go_wp2
                      go_roundw
                      case rel => exact ⟨i + 1, d', G2, by omega, by go_num, ⟨HSM.out⟩, ⟨GL2.out⟩, ⟨fun a_ ha_ => by rw [GG2.out a_ ha_, HNG.out a_ ha_, HCE.out]⟩, HD, HO, HX, HB⟩
                      case measure => simp [intOf]; omega
                | true =>
                  go_quiet (fail)
                  go_wp2
                  have d1 : IntKind.wrap .i64 (Int.tdiv (a : Int) sz) = ((a / sz.toNat : Nat) : Int) := wrapdiv a sz (by omega) (by omega)
                  have d1' : wrap64 ((a : Int) / sz) = ((a / sz.toNat : Nat) : Int) := wrapdiv2 a sz (by omega) (by omega)
                  have d2 : Int.tmod ((a / sz.toNat : Nat) : Int) wk = ((a / sz.toNat % wk.toNat : Nat) : Int) := tmod_nat _ wk (by omega)
                  have d3 : sz ≠ 0 := by omega
                  have d4 : wk ≠ 0 := by omega
                  have HP := Lib.hid (show p = 1 by simpa using hpp)
                  generalize hg1 : ((a / sz.toNat : Nat) : Int) = y1 at *
                  generalize hg2 : ((a / sz.toNat % wk.toNat : Nat) : Int) = y2 at *
                  go_quiet (fail)
                  have HY := Lib.hid (fun hh : y2 = q => HNX.out q0 q1 hLn2 (fun _ => hh))
                  clear d1 d1' d2 d3 d4 hg1 hg2 HP
                  cases hyq : (y2 == q) with
                  | true =>
                    obtain ⟨hok, hfa⟩ := HY.out (eq_of_beq hyq)
                    subst hok
                    subst hfa
                    clear HY
                    go_wp2
                    go_loopw [11] (fun v11 w' => TRel d n (a : Int) t true w bx b bt ct bs bg cg (bcells p sz wk n (some ad) asks.length cap) d' v11 w') (fun v11 _ => (t - intOf v11).toNat)
                    case atStart => exact ⟨(a : Int), G, rfl, ⟨fun h => by have := HBD.out (by simp); omega⟩, ⟨GLn.out⟩, ⟨fun a_ ha_ => by rw [GG.out a_ ha_, show (decide ((a : Int) ≤ (a_ : Int)) && decide ((a_ : Int) < (a : Int))) = false from by rw [Bool.and_eq_false_iff]; simp only [decide_eq_false_iff_not]; omega]; simp⟩, ⟨by (repeat (first | exact HD.out | apply dh_drewN | apply dh_drew))⟩, ⟨by (repeat (first | exact HO.out | apply Kd.R_drewN | apply Kd.R_drew))⟩, ⟨by (repeat (first | exact HX.out | apply blk_drewN | apply blk_drew))⟩, ⟨by (repeat (first | exact HS.out | apply blk_drewN | apply blk_drew))⟩, ⟨by (repeat (first | exact HB.out | apply pw_below_drewN | apply below_drew1))⟩⟩
                    case round =>
                      clear HD HO HX HS HB x0 x1 x2 x3 x4 s0 s1 hx
                      unfold TRel at hrel
                      obtain ⟨c, G2, rfl, CB, GL2, GG2, HD, HO, HX, HS, HB⟩ := hrel
                      have s0 : wr.cell? ⟨bs, 0, none⟩ = some (.int .i64 (a : Int)) := (blk_cell HS.out 0).trans rfl
                      have s1 : wr.cell? ⟨bs, 1, none⟩ = some (.int .i64 t) := (blk_cell HS.out 1).trans rfl
                      have hcb := CB.out rfl
                      have hbd := HBD.out (by simp)
                      obtain ⟨cb1, cb2⟩ := hcb
                      obtain ⟨bd1, bd2, bd3⟩ := hbd
                      obtain ⟨m, rfl⟩ := Int.eq_ofNat_of_zero_le (show 0 ≤ c by omega)
                      by_cases hmt : (m : Int) < t
                      · have m0 : (0 : Int) ≤ m := by omega
                        have m1 : (m : Int) < ((n + 1).toNat : Int) := by omega
                        obtain ⟨hc1, hf1⟩ := Kd.R_celln false HO.out (m : Int) m0 m1
                        simp only [Int.toNat_natCast] at hc1 hf1
                        generalize rdOf false G2 (m : Int) = ov at *
                        have hstep := Lib.hid (trel_step hmt ⟨cb1, cb2⟩ bd1 bd3 GL2.out GG2.out HD.out HO.out HX.out HS.out HB.out)
                        go_wp2
                        go_roundw
                        case rel => exact hstep.out
                        case measure => simp [intOf]; omega
                      · have hce : (m : Int) = t := by omega
                        have HCE := Lib.hid hce
                        clear hce
                        go_wp2
                        go_roundw
                        case rel => exact ⟨i + 1, d', G2, by omega, by go_num, ⟨HSM.out⟩, ⟨GL2.out⟩, ⟨fun a_ ha_ => by rw [GG2.out a_ ha_, HNG.out a_ ha_, HCE.out]⟩, HD, HO, HX, HB⟩
                        case measure => simp [intOf]; omega
                  | false =>
                    clear HY
                    go_wp2
                    go_loopw [11] (fun v11 w' => TRel d n f t ok w bx b bt ct bs bg cg (bcells p sz wk n (some ad) asks.length cap) d' v11 w') (fun v11 _ => (t - intOf v11).toNat)
                    case atStart => exact ⟨f, G, rfl, ⟨fun h => by have := HBD.out h; omega⟩, ⟨GLn.out⟩, ⟨fun a_ ha_ => by rw [GG.out a_ ha_, show (decide (f ≤ (a_ : Int)) && decide ((a_ : Int) < f)) = false from by rw [Bool.and_eq_false_iff]; simp only [decide_eq_false_iff_not]; omega]; simp⟩, ⟨by (repeat (first | exact HD.out | apply dh_drewN | apply dh_drew))⟩, ⟨by (repeat (first | exact HO.out | apply Kd.R_drewN | apply Kd.R_drew))⟩, ⟨by (repeat (first | exact HX.out | apply blk_drewN | apply blk_drew))⟩, ⟨by (repeat (first | exact HS.out | apply blk_drewN | apply blk_drew))⟩, ⟨by (repeat (first | exact HB.out | apply pw_below_drewN | apply below_drew1))⟩⟩
                    case round =>
                      clear HD HO HX HS HB x0 x1 x2 x3 x4 s0 s1 hx
                      unfold TRel at hrel
                      obtain ⟨c, G2, rfl, CB, GL2, GG2, HD, HO, HX, HS, HB⟩ := hrel
                      have s0 : wr.cell? ⟨bs, 0, none⟩ = some (.int .i64 f) := (blk_cell HS.out 0).trans rfl
                      have s1 : wr.cell? ⟨bs, 1, none⟩ = some (.int .i64 t) := (blk_cell HS.out 1).trans rfl
                      cases ok with
                      | false =>
                        go_wp2
                        go_roundw
                        case rel => exact ⟨i + 1, d', G2, by omega, by go_num, ⟨HSM.out⟩, ⟨GL2.out⟩, ⟨fun a_ ha_ => by rw [GG2.out a_ ha_, HNG.out a_ ha_]; simp⟩, HD, HO, HX, HB⟩
                        case measure => simp [intOf]; omega
                      | true =>
                        have hcb := CB.out rfl
                        have hbd := HBD.out rfl
                        obtain ⟨cb1, cb2⟩ := hcb
                        obtain ⟨bd1, bd2, bd3⟩ := hbd
                        obtain ⟨m, rfl⟩ := Int.eq_ofNat_of_zero_le (show 0 ≤ c by omega)
                        by_cases hmt : (m : Int) < t
                        · have m0 : (0 : Int) ≤ m := by omega
                          have m1 : (m : Int) < ((n + 1).toNat : Int) := by omega
                          obtain ⟨hc1, hf1⟩ := Kd.R_celln false HO.out (m : Int) m0 m1
                          simp only [Int.toNat_natCast] at hc1 hf1
                          generalize rdOf false G2 (m : Int) = ov at *
                          have hstep := Lib.hid (trel_step hmt ⟨cb1, cb2⟩ bd1 bd3 GL2.out GG2.out HD.out HO.out HX.out HS.out HB.out)
                          go_wp2
                          go_roundw
                          case rel => exact hstep.out
                          case measure => simp [intOf]; omega
                        · have hce : (m : Int) = t := by omega
                          have HCE := Lib.hid hce
                          clear hce
                          go_wp2
                          go_roundw
                          case rel => exact ⟨i + 1, d', G2, by omega, by go_num, ⟨HSM.out⟩, ⟨GL2.out⟩, ⟨fun a_ ha_ => by rw [GG2.out a_ ha_, HNG.out a_ ha_, HCE.out]⟩, HD, HO, HX, HB⟩
                          case measure => simp [intOf]; omega
              · have q0' : decide (0 ≤ q) = true := decide_eq_true q0
                have q1' : decide (q < wk) = false := decide_eq_false q1
                cases hpp : (p == 1)
                all_goals
                  go_quiet (fail)
                  go_wp2
                  go_loopw [11] (fun v11 w' => TRel d n f t ok w bx b bt ct bs bg cg (bcells p sz wk n (some ad) asks.length cap) d' v11 w') (fun v11 _ => (t - intOf v11).toNat)
                  case atStart => exact ⟨f, G, rfl, ⟨fun h => by have := HBD.out h; omega⟩, ⟨GLn.out⟩, ⟨fun a_ ha_ => by rw [GG.out a_ ha_, show (decide (f ≤ (a_ : Int)) && decide ((a_ : Int) < f)) = false from by rw [Bool.and_eq_false_iff]; simp only [decide_eq_false_iff_not]; omega]; simp⟩, ⟨by (repeat (first | exact HD.out | apply dh_drewN | apply dh_drew))⟩, ⟨by (repeat (first | exact HO.out | apply Kd.R_drewN | apply Kd.R_drew))⟩, ⟨by (repeat (first | exact HX.out | apply blk_drewN | apply blk_drew))⟩, ⟨by (repeat (first | exact HS.out | apply blk_drewN | apply blk_drew))⟩, ⟨by (repeat (first | exact HB.out | apply pw_below_drewN | apply below_drew1))⟩⟩
                  case round =>
                    clear HD HO HX HS HB x0 x1 x2 x3 x4 s0 s1 hx
                    unfold TRel at hrel
                    obtain ⟨c, G2, rfl, CB, GL2, GG2, HD, HO, HX, HS, HB⟩ := hrel
                    have s0 : wr.cell? ⟨bs, 0, none⟩ = some (.int .i64 f) := (blk_cell HS.out 0).trans rfl
                    have s1 : wr.cell? ⟨bs, 1, none⟩ = some (.int .i64 t) := (blk_cell HS.out 1).trans rfl
                    cases ok with
                    | false =>
                      go_wp2
                      go_roundw
                      case rel => exact ⟨i + 1, d', G2, by omega, by go_num, ⟨HSM.out⟩, ⟨GL2.out⟩, ⟨fun a_ ha_ => by rw [GG2.out a_ ha_, HNG.out a_ ha_]; simp⟩, HD, HO, HX, HB⟩
                      case measure => simp [intOf]; omega
                    | true =>
                      have hcb := CB.out rfl
                      have hbd := HBD.out rfl
                      obtain ⟨cb1, cb2⟩ := hcb
                      obtain ⟨bd1, bd2, bd3⟩ := hbd
                      obtain ⟨m, rfl⟩ := Int.eq_ofNat_of_zero_le (show 0 ≤ c by omega)
                      by_cases hmt : (m : Int) < t
                      · have m0 : (0 : Int) ≤ m := by omega
                        have m1 : (m : Int) < ((n + 1).toNat : Int) := by omega
                        obtain ⟨hc1, hf1⟩ := Kd.R_celln false HO.out (m : Int) m0 m1
                        simp only [Int.toNat_natCast] at hc1 hf1
                        generalize rdOf false G2 (m : Int) = ov at *
                        have hstep := Lib.hid (trel_step hmt ⟨cb1, cb2⟩ bd1 bd3 GL2.out GG2.out HD.out HO.out HX.out HS.out HB.out)
                        go_wp2
                        go_roundw
                        case rel => exact hstep.out
                        case measure => simp [intOf]; omega
                      · have hce : (m : Int) = t := by omega
                        have HCE := Lib.hid hce
                        clear hce
                        go_wp2
                        go_roundw
                        case rel => exact ⟨i + 1, d', G2, by omega, by go_num, ⟨HSM.out⟩, ⟨GL2.out⟩, ⟨fun a_ ha_ => by rw [GG2.out a_ ha_, HNG.out a_ ha_, HCE.out]⟩, HD, HO, HX, HB⟩
                        case measure => simp [intOf]; omega
            · have q0' : decide (0 ≤ q) = false := decide_eq_false q0
              cases hpp : (p == 1)
              all_goals
                go_quiet (fail)
                go_wp2
                go_loopw [11] (fun v11 w' => TRel d n f t ok w bx b bt ct bs bg cg (bcells p sz wk n (some ad) asks.length cap) d' v11 w') (fun v11 _ => (t - intOf v11).toNat)
                case atStart => exact ⟨f, G, rfl, ⟨fun h => by have := HBD.out h; omega⟩, ⟨GLn.out⟩, ⟨fun a_ ha_ => by rw [GG.out a_ ha_, show (decide (f ≤ (a_ : Int)) && decide ((a_ : Int) < f)) = false from by rw [Bool.and_eq_false_iff]; simp only [decide_eq_false_iff_not]; omega]; simp⟩, ⟨by (repeat (first | exact HD.out | apply dh_drewN | apply dh_drew))⟩, ⟨by (repeat (first | exact HO.out | apply Kd.R_drewN | apply Kd.R_drew))⟩, ⟨by (repeat (first | exact HX.out | apply blk_drewN | apply blk_drew))⟩, ⟨by (repeat (first | exact HS.out | apply blk_drewN | apply blk_drew))⟩, ⟨by (repeat (first | exact HB.out | apply pw_below_drewN | apply below_drew1))⟩⟩
                case round =>
                  clear HD HO HX HS HB x0 x1 x2 x3 x4 s0 s1 hx
                  unfold TRel at hrel
                  obtain ⟨c, G2, rfl, CB, GL2, GG2, HD, HO, HX, HS, HB⟩ := hrel
                  have s0 : wr.cell? ⟨bs, 0, none⟩ = some (.int .i64 f) := (blk_cell HS.out 0).trans rfl
                  have s1 : wr.cell? ⟨bs, 1, none⟩ = some (.int .i64 t) := (blk_cell HS.out 1).trans rfl
                  cases ok with
                  | false =>
                    go_wp2
                    go_roundw
                    case rel => exact ⟨i + 1, d', G2, by omega, by go_num, ⟨HSM.out⟩, ⟨GL2.out⟩, ⟨fun a_ ha_ => by rw [GG2.out a_ ha_, HNG.out a_ ha_]; simp⟩, HD, HO, HX, HB⟩
                    case measure => simp [intOf]; omega
                  | true =>
                    have hcb := CB.out rfl
                    have hbd := HBD.out rfl
                    obtain ⟨cb1, cb2⟩ := hcb
                    obtain ⟨bd1, bd2, bd3⟩ := hbd
                    obtain ⟨m, rfl⟩ := Int.eq_ofNat_of_zero_le (show 0 ≤ c by omega)
                    by_cases hmt : (m : Int) < t
                    · have m0 : (0 : Int) ≤ m := by omega
                      have m1 : (m : Int) < ((n + 1).toNat : Int) := by omega
                      obtain ⟨hc1, hf1⟩ := Kd.R_celln false HO.out (m : Int) m0 m1
                      simp only [Int.toNat_natCast] at hc1 hf1
                      generalize rdOf false G2 (m : Int) = ov at *
                      have hstep := Lib.hid (trel_step hmt ⟨cb1, cb2⟩ bd1 bd3 GL2.out GG2.out HD.out HO.out HX.out HS.out HB.out)
                      go_wp2
                      go_roundw
                      case rel => exact hstep.out
                      case measure => simp [intOf]; omega
                    · have hce : (m : Int) = t := by omega
                      have HCE := Lib.hid hce
                      clear hce
                      go_wp2
                      go_roundw
                      case rel => exact ⟨i + 1, d', G2, by omega, by go_num, ⟨HSM.out⟩, ⟨GL2.out⟩, ⟨fun a_ ha_ => by rw [GG2.out a_ ha_, HNG.out a_ ha_, HCE.out]⟩, HD, HO, HX, HB⟩
                      case measure => simp [intOf]; omega
          · have a0 : (0 : Int) ≤ a := by omega
            have hLd : decide ((a : Int) < n) = false := decide_eq_false hLn2
            go_wp2_with fail
            refine (next_calls _ b bt ct d q _ HD.out).mono ?_
            intro e w7 hp
            unfold NextPost at hp
            obtain ⟨he, hd, hf⟩ := hp
            subst he
            have m1_ := Aside0.mk hd
            have m2_ := Aside0.mk (R_fr HO.out HD.out hf (by decide) (by decide))
            have m3_ := Aside0.mk (blk_fr HX.out HD.out hf (by decide) (by decide))
            have m4_ := Aside0.mk (fr_below HB.out hf HD.out.low HD.out.lowt)
            clear HD HO HX HB hd hf x0 x1 x2 x3 x4 hx
            have HD := m1_
            have HO := m2_
            have HX := m3_
            have HB := m4_
            clear m1_ m2_ m3_ m4_
            generalize (d.next q).1 = d' at *
            generalize (d.next q).2.1 = f at *
            generalize (d.next q).2.2.1 = t at *
            generalize (d.next q).2.2.2 = ok at *
            have x0 : w7.cell? ⟨bx, 0, none⟩ = some (.int .i64 p) := (blk_cell HX.out 0).trans rfl
            have x1 : w7.cell? ⟨bx, 1, none⟩ = some (.int .i64 sz) := (blk_cell HX.out 1).trans rfl
            have x2 : w7.cell? ⟨bx, 2, none⟩ = some (.int .i64 wk) := (blk_cell HX.out 2).trans rfl
            have x3 : w7.cell? ⟨bx, 3, none⟩ = some (.int .i64 n) := (blk_cell HX.out 3).trans rfl
            have x4 : w7.cell? ⟨bx, 4, none⟩ = some (.slice (some ad) asks.length cap) := (blk_cell HX.out 4).trans rfl
            have hx : w7.cell? (ad.add i) = some (.int .i64 q) := (HB.out.cell (World.block_lt_of_cell? w _ HXW.out)).trans HXW.out
            go_wp2
            generalize hW : w7.alloc (.cells #[.int .i64 f, .int .i64 t] 32 (0, 0)) = w9
            have m1_ := Aside0.mk (show DH w9 w.heap.size b bt ct d' by rw [← hW]; exact dh_alloc HD.out _)
            have m2_ := Aside0.mk (show Kd.R Kd.bool 4 w9 w.heap.size (fun _ => True) (.slice (some ⟨bg, 0, none⟩) (n + 1).toNat cg) G by rw [← hW]; exact Kd.R_alloc HO.out _)
            have m3_ := Aside0.mk (show w9.heap[bx]? = some (.cells (bcells p sz wk n (some ad) asks.length cap) 25 (0, 0)) by rw [← hW]; exact blk_alloc HX.out _)
            have m4_ := Aside0.mk (show Below w.heap.size w w9 by rw [← hW]; exact below_alloc HB.out _)
            have m5_ := Aside0.mk (show w9.heap[w7.heap.size]? = some (.cells #[.int .i64 f, .int .i64 t] 32 (0, 0)) by rw [← hW]; exact blk_new w7 _)
            generalize w7.heap.size = bs at *
            clear HD HO HX HB hW x0 x1 x2 x3 x4 hx
            have HD := m1_
            have HO := m2_
            have HX := m3_
            have HB := m4_
            have HS := m5_
            clear m1_ m2_ m3_ m4_ m5_
            have x0 : w9.cell? ⟨bx, 0, none⟩ = some (.int .i64 p) := (blk_cell HX.out 0).trans rfl
            have x1 : w9.cell? ⟨bx, 1, none⟩ = some (.int .i64 sz) := (blk_cell HX.out 1).trans rfl
            have x2 : w9.cell? ⟨bx, 2, none⟩ = some (.int .i64 wk) := (blk_cell HX.out 2).trans rfl
            have x3 : w9.cell? ⟨bx, 3, none⟩ = some (.int .i64 n) := (blk_cell HX.out 3).trans rfl
            have x4 : w9.cell? ⟨bx, 4, none⟩ = some (.slice (some ad) asks.length cap) := (blk_cell HX.out 4).trans rfl
            have s0 : w9.cell? ⟨bs, 0, none⟩ = some (.int .i64 f) := (blk_cell HS.out 0).trans rfl
            have s1 : w9.cell? ⟨bs, 1, none⟩ = some (.int .i64 t) := (blk_cell HS.out 1).trans rfl
            have hx : w9.cell? (ad.add i) = some (.int .i64 q) := (HB.out.cell (World.block_lt_of_cell? w _ HXW.out)).trans HXW.out
            by_cases q0 : 0 ≤ q
            · by_cases q1 : q < wk
              · have q0' : decide (0 ≤ q) = true := decide_eq_true q0
                have q1' : decide (q < wk) = true := decide_eq_true q1
                cases hpp : (p == 1) with
                | false =>
                  go_quiet (fail)
                  go_wp2
                  go_loopw [11] (fun v11 w' => TRel d n f t ok w bx b bt ct bs bg cg (bcells p sz wk n (some ad) asks.length cap) d' v11 w') (fun v11 _ => (t - intOf v11).toNat)
                  case atStart => exact ⟨f, G, rfl, ⟨fun h => by have := HBD.out h; omega⟩, ⟨GLn.out⟩, ⟨fun a_ ha_ => by rw [GG.out a_ ha_, show (decide (f ≤ (a_ : Int)) && decide ((a_ : Int) < f)) = false from by rw [Bool.and_eq_false_iff]; simp only [decide_eq_false_iff_not]; omega]; simp⟩, ⟨by (repeat (first | exact HD.out | apply dh_drewN | apply dh_drew))⟩, ⟨by (repeat (first | exact HO.out | apply Kd.R_drewN | apply Kd.R_drew))⟩, ⟨by (repeat (first | exact HX.out | apply blk_drewN | apply blk_drew))⟩, ⟨by (repeat (first | exact HS.out | apply blk_drewN | apply blk_drew))⟩, ⟨by (repeat (first | exact HB.out | apply pw_below_drewN | apply below_drew1))⟩⟩
                  case round =>
                    clear HD HO HX HS HB x0 x1 x2 x3 x4 s0 s1 hx
                    unfold TRel at hrel
                    obtain ⟨c, G2, rfl, CB, GL2, GG2, HD, HO, HX, HS, HB⟩ := hrel
                    have s0 : wr.cell? ⟨bs, 0, none⟩ = some (.int .i64 f) := (blk_cell HS.out 0).trans rfl
                    have s1 : wr.cell? ⟨bs, 1, none⟩ = some (.int .i64 t) := (blk_cell HS.out 1).trans rfl
                    cases ok with
                    | false =>
                      go_wp2
                      go_roundw
                      case rel => exact ⟨i + 1, d', G2, by omega, by go_num, ⟨HSM.out⟩, ⟨GL2.out⟩, ⟨fun a_ ha_ => by rw [GG2.out a_ ha_, HNG.out a_ ha_]; simp⟩, HD, HO, HX, HB⟩
                      case measure => simp [intOf]; omega
                    | true =>
                      have hcb := CB.out rfl
                      have hbd := HBD.out rfl
                      obtain ⟨cb1, cb2⟩ := hcb
                      obtain ⟨bd1, bd2, bd3⟩ := hbd
                      obtain ⟨m, rfl⟩ := Int.eq_ofNat_of_zero_le (show 0 ≤ c by omega)
                      by_cases hmt : (m : Int) < t
                      · have m0 : (0 : Int) ≤ m := by omega
                        have m1 : (m : Int) < ((n + 1).toNat : Int) := by omega
                        obtain ⟨hc1, hf1⟩ := Kd.R_celln false HO.out (m : Int) m0 m1
                        simp only [Int.toNat_natCast] at hc1 hf1
                        generalize rdOf false G2 (m : Int) = ov at *
                        have hstep := Lib.hid (trel_step hmt ⟨cb1, cb2⟩ bd1 bd3 GL2.out GG2.out HD.out HO.out HX.out HS.out HB.out)
                        go_wp2
                        go_roundw
                        case rel => exact hstep.out
                        case measure => simp [intOf]; omega
                      · have hce : (m : Int) = t := by omega
                        have HCE := Lib.hid hce
                        clear hce
                        go_wp2
                        go_roundw
                        case rel => exact ⟨i + 1, d', G2, by omega, by go_num, ⟨HSM.out⟩, ⟨GL2.out⟩, ⟨fun a_ ha_ => by rw [GG2.out a_ ha_, HNG.out a_ ha_, HCE.out]⟩, HD, HO, HX, HB⟩
                        case measure => simp [intOf]; omega
                | true =>
                  go_quiet (fail)
                  go_wp2
                  have d1 : IntKind.wrap .i64 (Int.tdiv (a : Int) sz) = ((a / sz.toNat : Nat) : Int) := wrapdiv a sz (by omega) (by omega)
                  have d1' : wrap64 ((a : Int) / sz) = ((a / sz.toNat : Nat) : Int) := wrapdiv2 a sz (by omega) (by omega)
                  have d2 : Int.tmod ((a / sz.toNat : Nat) : Int) wk = ((a / sz.toNat % wk.toNat : Nat) : Int) := tmod_nat _ wk (by omega)
                  have d3 : sz ≠ 0 := by omega
                  have d4 : wk ≠ 0 := by omega
                  generalize hg1 : ((a / sz.toNat : Nat) : Int) = y1 at *
                  generalize hg2 : ((a / sz.toNat % wk.toNat : Nat) : Int) = y2 at *
                  go_quiet (fail)
                  clear d1 d1' d2 d3 d4 hg1 hg2
                  cases hyq : (y2 == q)
                  all_goals
                    go_wp2
                    go_loopw [11] (fun v11 w' => TRel d n f t ok w bx b bt ct bs bg cg (bcells p sz wk n (some ad) asks.length cap) d' v11 w') (fun v11 _ => (t - intOf v11).toNat)
                    case atStart => exact ⟨f, G, rfl, ⟨fun h => by have := HBD.out h; omega⟩, ⟨GLn.out⟩, ⟨fun a_ ha_ => by rw [GG.out a_ ha_, show (decide (f ≤ (a_ : Int)) && decide ((a_ : Int) < f)) = false from by rw [Bool.and_eq_false_iff]; simp only [decide_eq_false_iff_not]; omega]; simp⟩, ⟨by (repeat (first | exact HD.out | apply dh_drewN | apply dh_drew))⟩, ⟨by (repeat (first | exact HO.out | apply Kd.R_drewN | apply Kd.R_drew))⟩, ⟨by (repeat (first | exact HX.out | apply blk_drewN | apply blk_drew))⟩, ⟨by (repeat (first | exact HS.out | apply blk_drewN | apply blk_drew))⟩, ⟨by (repeat (first | exact HB.out | apply pw_below_drewN | apply below_drew1))⟩⟩
                    case round =>
                      clear HD HO HX HS HB x0 x1 x2 x3 x4 s0 s1 hx
                      unfold TRel at hrel
                      obtain ⟨c, G2, rfl, CB, GL2, GG2, HD, HO, HX, HS, HB⟩ := hrel
                      have s0 : wr.cell? ⟨bs, 0, none⟩ = some (.int .i64 f) := (blk_cell HS.out 0).trans rfl
                      have s1 : wr.cell? ⟨bs, 1, none⟩ = some (.int .i64 t) := (blk_cell HS.out 1).trans rfl
                      cases ok with
                      | false =>
                        go_wp2
                        go_roundw
                        case rel => exact ⟨i + 1, d', G2, by omega, by go_num, ⟨HSM.out⟩, ⟨GL2.out⟩, ⟨fun a_ ha_ => by rw [GG2.out a_ ha_, HNG.out a_ ha_]; simp⟩, HD, HO, HX, HB⟩
                        case measure => simp [intOf]; omega
                      | true =>
                        have hcb := CB.out rfl
                        have hbd := HBD.out rfl
                        obtain ⟨cb1, cb2⟩ := hcb
                        obtain ⟨bd1, bd2, bd3⟩ := hbd
                        obtain ⟨m, rfl⟩ := Int.eq_ofNat_of_zero_le (show 0 ≤ c by omega)
                        by_cases hmt : (m : Int) < t
                        · have m0 : (0 : Int) ≤ m := by omega
                          have m1 : (m : Int) < ((n + 1).toNat : Int) := by omega
                          obtain ⟨hc1, hf1⟩ := Kd.R_celln false HO.out (m : Int) m0 m1
                          simp only [Int.toNat_natCast] at hc1 hf1
                          generalize rdOf false G2 (m : Int) = ov at *
                          have hstep := Lib.hid (trel_step hmt ⟨cb1, cb2⟩ bd1 bd3 GL2.out GG2.out HD.out HO.out HX.out HS.out HB.out)
                          go_wp2
                          go_roundw
                          case rel => exact hstep.out
                          case measure => simp [intOf]; omega
                        · have hce : (m : Int) = t := by omega
                          have HCE := Lib.hid hce
                          clear hce
                          go_wp2
                          go_roundw
                          case rel => exact ⟨i + 1, d', G2, by omega, by go_num, ⟨HSM.out⟩, ⟨GL2.out⟩, ⟨fun a_ ha_ => by rw [GG2.out a_ ha_, HNG.out a_ ha_, HCE.out]⟩, HD, HO, HX, HB⟩
                          case measure => simp [intOf]; omega
              · have q0' : decide (0 ≤ q) = true := decide_eq_true q0
                have q1' : decide (q < wk) = false := decide_eq_false q1
                cases hpp : (p == 1)
                all_goals
                  go_quiet (fail)
                  go_wp2
                  go_loopw [11] (fun v11 w' => TRel d n f t ok w bx b bt ct bs bg cg (bcells p sz wk n (some ad) asks.length cap) d' v11 w') (fun v11 _ => (t - intOf v11).toNat)
                  case atStart => exact ⟨f, G, rfl, ⟨fun h => by have := HBD.out h; omega⟩, ⟨GLn.out⟩, ⟨fun a_ ha_ => by rw [GG.out a_ ha_, show (decide (f ≤ (a_ : Int)) && decide ((a_ : Int) < f)) = false from by rw [Bool.and_eq_false_iff]; simp only [decide_eq_false_iff_not]; omega]; simp⟩, ⟨by (repeat (first | exact HD.out | apply dh_drewN | apply dh_drew))⟩, ⟨by (repeat (first | exact HO.out | apply Kd.R_drewN | apply Kd.R_drew))⟩, ⟨by (repeat (first | exact HX.out | apply blk_drewN | apply blk_drew))⟩, ⟨by (repeat (first | exact HS.out | apply blk_drewN | apply blk_drew))⟩, ⟨by (repeat (first | exact HB.out | apply pw_below_drewN | apply below_drew1))⟩⟩
                  case round =>
                    clear HD HO HX HS HB x0 x1 x2 x3 x4 s0 s1 hx
                    unfold TRel at hrel
                    obtain ⟨c, G2, rfl, CB, GL2, GG2, HD, HO, HX, HS, HB⟩ := hrel
                    have s0 : wr.cell? ⟨bs, 0, none⟩ = some (.int .i64 f) := (blk_cell HS.out 0).trans rfl
                    have s1 : wr.cell? ⟨bs, 1, none⟩ = some (.int .i64 t) := (blk_cell HS.out 1).trans rfl
                    cases ok with
                    | false =>
                      go_wp2
                      go_roundw
                      case rel => exact ⟨i + 1, d', G2, by omega, by go_num, ⟨HSM.out⟩, ⟨GL2.out⟩, ⟨fun a_ ha_ => by rw [GG2.out a_ ha_, HNG.out a_ ha_]; simp⟩, HD, HO, HX, HB⟩
                      case measure => simp [intOf]; omega
                    | true =>
                      have hcb := CB.out rfl
                      have hbd := HBD.out rfl
                      obtain ⟨cb1, cb2⟩ := hcb
                      obtain ⟨bd1, bd2, bd3⟩ := hbd
                      obtain ⟨m, rfl⟩ := Int.eq_ofNat_of_zero_le (show 0 ≤ c by omega)
                      by_cases hmt : (m : Int) < t
                      · have m0 : (0 : Int) ≤ m := by omega
                        have m1 : (m : Int) < ((n + 1).toNat : Int) := by omega
                        obtain ⟨hc1, hf1⟩ := Kd.R_celln false HO.out (m : Int) m0 m1
                        simp only [Int.toNat_natCast] at hc1 hf1
                        generalize rdOf false G2 (m : Int) = ov at *
                        have hstep := Lib.hid (trel_step hmt ⟨cb1, cb2⟩ bd1 bd3 GL2.out GG2.out HD.out HO.out HX.out HS.out HB.out)
                        go_wp2
                        go_roundw
                        case rel => exact hstep.out
                        case measure => simp [intOf]; omega
                      · have hce : (m : Int) = t := by omega
                        have HCE := Lib.hid hce
                        clear hce
                        go_wp2
                        go_roundw
                        case rel => exact ⟨i + 1, d', G2, by omega, by go_num, ⟨HSM.out⟩, ⟨GL2.out⟩, ⟨fun a_ ha_ => by rw [GG2.out a_ ha_, HNG.out a_ ha_, HCE.out]⟩, HD, HO, HX, HB⟩
                        case measure => simp [intOf]; omega
            · have q0' : decide (0 ≤ q) = false := decide_eq_false q0
              cases hpp : (p == 1)
              all_goals
                go_quiet (fail)
                go_wp2
                go_loopw [11] (fun v11 w' => TRel d n f t ok w bx b bt ct bs bg cg (bcells p sz wk n (some ad) asks.length cap) d' v11 w') (fun v11 _ => (t - intOf v11).toNat)
                case atStart => exact ⟨f, G, rfl, ⟨fun h => by have := HBD.out h; omega⟩, ⟨GLn.out⟩, ⟨fun a_ ha_ => by rw [GG.out a_ ha_, show (decide (f ≤ (a_ : Int)) && decide ((a_ : Int) < f)) = false from by rw [Bool.and_eq_false_iff]; simp only [decide_eq_false_iff_not]; omega]; simp⟩, ⟨by (repeat (first | exact HD.out | apply dh_drewN | apply dh_drew))⟩, ⟨by (repeat (first | exact HO.out | apply Kd.R_drewN | apply Kd.R_drew))⟩, ⟨by (repeat (first | exact HX.out | apply blk_drewN | apply blk_drew))⟩, ⟨by (repeat (first | exact HS.out | apply blk_drewN | apply blk_drew))⟩, ⟨by (repeat (first | exact HB.out | apply pw_below_drewN | apply below_drew1))⟩⟩
                case round =>
                  clear HD HO HX HS HB x0 x1 x2 x3 x4 s0 s1 hx
                  unfold TRel at hrel
                  obtain ⟨c, G2, rfl, CB, GL2, GG2, HD, HO, HX, HS, HB⟩ := hrel
                  have s0 : wr.cell? ⟨bs, 0, none⟩ = some (.int .i64 f) := (blk_cell HS.out 0).trans rfl
                  have s1 : wr.cell? ⟨bs, 1, none⟩ = some (.int .i64 t) := (blk_cell HS.out 1).trans rfl
                  cases ok with
                  | false =>
                    go_wp2
                    go_roundw
                    case rel => exact ⟨i + 1, d', G2, by omega, by go_num, ⟨HSM.out⟩, ⟨GL2.out⟩, ⟨fun a_ ha_ => by rw [GG2.out a_ ha_, HNG.out a_ ha_]; simp⟩, HD, HO, HX, HB⟩
                    case measure => simp [intOf]; omega
                  | true =>
                    have hcb := CB.out rfl
                    have hbd := HBD.out rfl
                    obtain ⟨cb1, cb2⟩ := hcb
                    obtain ⟨bd1, bd2, bd3⟩ := hbd
                    obtain ⟨m, rfl⟩ := Int.eq_ofNat_of_zero_le (show 0 ≤ c by omega)
                    by_cases hmt : (m : Int) < t
                    · have m0 : (0 : Int) ≤ m := by omega
                      have m1 : (m : Int) < ((n + 1).toNat : Int) := by omega
                      obtain ⟨hc1, hf1⟩ := Kd.R_celln false HO.out (m : Int) m0 m1
                      simp only [Int.toNat_natCast] at hc1 hf1
                      generalize rdOf false G2 (m : Int) = ov at *
                      have hstep := Lib.hid (trel_step hmt ⟨cb1, cb2⟩ bd1 bd3 GL2.out GG2.out HD.out HO.out HX.out HS.out HB.out)
                      go_wp2
                      go_roundw
                      case rel => exact hstep.out
                      case measure => simp [intOf]; omega
                    · have hce : (m : Int) = t := by omega
                      have HCE := Lib.hid hce
                      clear hce
                      go_wp2
                      go_roundw
                      case rel => exact ⟨i + 1, d', G2, by omega, by go_num, ⟨HSM.out⟩, ⟨GL2.out⟩, ⟨fun a_ ha_ => by rw [GG2.out a_ ha_, HNG.out a_ ha_, HCE.out]⟩, HD, HO, HX, HB⟩
                      case measure => simp [intOf]; omega
    · have e : i = asks.length := by omega
      subst e
      go_wp2_with fail
      refine (alive_calls _).mono ?_
      intro e w8 hp
      obtain ⟨he, hb⟩ := hp
      subst he
      have m1_ := Aside0.mk (below_step HB.out hb)
      clear HB HD HO HX hb
      go_wp2
      go_ret
      exact ⟨rfl, m1_.out⟩
theorem least_calls (p sz wk n : Int) (A : Option Addr) (cap : Nat) (asks : List Int) (w : World) (hr : Kd.C (Kd.int .i64) w A asks.length asks) :
    Calls Try.prog 4 #[.agg #[.int .i64 p, .int .i64 sz, .int .i64 wk, .int .i64 n, .slice A asks.length cap]] w (TruePost w) := by
  by_cases h : 300 < asks.length
  · exact least_big p sz wk n A _ cap w h
  · by_cases hn : newErr p sz wk n = 0
    · exact least_main p sz wk n A cap asks w hr h hn
    · exact least_bad p sz wk n A _ cap w h hn
end Go.Proofs.Ytnhjneldjfdnfaa.K
