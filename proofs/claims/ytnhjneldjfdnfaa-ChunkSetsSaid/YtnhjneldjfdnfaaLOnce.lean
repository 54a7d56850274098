/- ChunkOnce walked. -/
import Derived.Test.YtnhjneldjfdnfaaOB
import Derived.Test.YtnhjneldjfdnfaaPureO
import Derived.BigQuiet
namespace Go.Proofs.Ytnhjneldjfdnfaa.K
open Go.RowKit Go.Proofs.YtnhjneldjfdnfaaW.PrintWords Go.Proofs.YtnhjneldjfdnfaaW.PrintLast Go.Proofs.YtnhjneldjfdnfaaW.PrintMore
attribute [local go_sem] max2_int min2_int max_two min_two max_three min_three max_four min_four
set_option linter.unusedVariables false
set_option linter.unusedSimpArgs false

set_option maxHeartbeats 1000000 in
theorem once_big (p sz wk n : Int) (A : Option Addr) (len cap : Nat) (w : World) (h : 300 < len) :
    Calls Try.prog 3 #[.agg #[.int .i64 p, .int .i64 sz, .int .i64 wk, .int .i64 n, .slice A len cap]] w (TruePost w) := by
  have h' : (300 : Int) < len := by omega
  go_enter Try.func3, Try.ntmps3
  go_wp2
  go_ret
  exact ⟨rfl, below_alloc (Below.refl _ _) _⟩

set_option maxHeartbeats 1000000 in
theorem once_bad (p sz wk n : Int) (A : Option Addr) (len cap : Nat) (w : World) (h : ¬ 300 < len) (hn : newErr p sz wk n ≠ 0) :
    Calls Try.prog 3 #[.agg #[.int .i64 p, .int .i64 sz, .int .i64 wk, .int .i64 n, .slice A len cap]] w (TruePost w) := by
  have h' : ¬ (300 : Int) < len := by omega
  have hnew := Lib.hid (fun W => new_bad p sz wk n W hn)
  have he1 : (newErr p sz wk n != 0) = true := by rw [bne_iff_ne]; exact hn
  have he2 : (newErr p sz wk n == 0) = false := by rw [beq_eq_false_iff_ne]; exact hn
  have HE1 := Lib.hid he1
  have HE2 := Lib.hid he2
  clear he1 he2
  have HB := Aside0.mk (Below.refl w.heap.size w)
  go_enter Try.func3, Try.ntmps3
  go_wp2_with fail
  refine (hnew.out _).mono ?_
  intro e w1 hp
  unfold NewBad at hp
  obtain ⟨he, hw⟩ := hp
  subst he
  subst hw
  have he1 := HE1.out
  have he2 := HE2.out
  generalize newErr p sz wk n = er at *
  clear HE1 HE2 hnew hn
  go_wp2_with fail
  refine (alive_calls _).mono ?_
  intro e w2 hp
  obtain ⟨he, hb⟩ := hp
  subst he
  have n1_ := Aside0.mk (below_step (below_alloc HB.out _) hb)
  clear hb
  go_wp2
  go_ret
  exact ⟨rfl, n1_.out⟩

def ORel1 (w0 : World) (bx b bt ct bg ng cg bl nl cl : Nat) (bc : Array Value) (d : D) (G L xs : List Int) (k M : Nat) (v7 v8 : Value) (w' : World) : Prop :=
  ∃ m : Nat, m ≤ M ∧ v8 = .int .i64 m ∧ Aside0 (OS1 w0 w' bx b bt ct bg ng cg bl nl cl bc d G L) ∧ Aside0 (Kd.R (Kd.int .i64) 3 w' w0.heap.size (away bt bg bl) v7 (askers xs k m))
def ORel2 (w0 : World) (bx b bt ct bg ng cg bl nl cl ba na ca : Nat) (bc : Array Value) (d0 : D) (As : List Int) (len0 : Nat) (n wk : Int) (v9 : Value) (w' : World) : Prop :=
  ∃ (i : Nat) (d : D) (G L : List Int), i ≤ na ∧ v9 = .int .i64 i ∧ Aside0 (Same4 d0 d) ∧ Aside0 (G.length = ng) ∧ Aside0 (L.length = nl) ∧ Aside0 (Gd d n G) ∧ Aside0 (Ld d wk L) ∧ Aside0 (Far d (i - len0)) ∧ Aside0 (OS w0 w' bx b bt ct bg ng cg bl nl cl ba na ca bc d G L As)
def ORel3 (w0 : World) (bx b bt ct bg ng cg bl nl cl ba na ca bs : Nat) (bc : Array Value) (d d' : D) (As L : List Int) (n f t : Int) (v13 : Value) (w' : World) : Prop :=
  ∃ (m : Nat) (G : List Int), v13 = .int .i64 m ∧ Aside0 (f ≤ m ∧ (m : Int) ≤ t) ∧ Aside0 (G.length = ng) ∧ Aside0 (Gs d n f m G) ∧ Aside0 (OS w0 w' bx b bt ct bg ng cg bl nl cl ba na ca bc d' G L As) ∧ Aside0 (w'.heap[bs]? = some (.cells #[.int .i64 f, .int .i64 t] 32 (0, 0)))

theorem new_range {p sz wk n : Int} (hn : newErr p sz wk n = 0) : (1 ≤ p ∧ p ≤ 3) ∧ (1 ≤ sz ∧ sz ≤ 200) ∧ (1 ≤ wk ∧ wk ≤ 8) ∧ (0 ≤ n ∧ n ≤ 200) := by
  unfold newErr at hn
  by_cases c1 : p < 1 ∨ 3 < p
  · rw [if_pos c1] at hn; omega
  · rw [if_neg c1] at hn
    by_cases c2 : sz < 1 ∨ 200 < sz
    · rw [if_pos c2] at hn; omega
    · rw [if_neg c2] at hn
      by_cases c3 : wk < 1 ∨ 8 < wk
      · rw [if_pos c3] at hn; omega
      · rw [if_neg c3] at hn
        by_cases c4 : n < 0 ∨ 200 < n
        · rw [if_pos c4] at hn; omega
        · omega
theorem gd_new (p sz wk n : Int) : Gd (newD p sz wk n) n (List.replicate n.toNat 0) := by
  intro a ha
  rw [got_new]
  simp only [List.getD_eq_getElem?_getD, List.getElem?_replicate]
  split <;> simp
theorem ld_new (p sz wk n : Int) (h : (newD p sz wk n).ok) : Ld (newD p sz wk n) wk (List.replicate wk.toNat 0) := by
  intro y hy
  have e : (List.replicate wk.toNat (0 : Int)).getD y 0 = 0 := by
    simp only [List.getD_eq_getElem?_getD, List.getElem?_replicate]
    split <;> rfl
  rw [e]
  unfold D.lo
  split
  · obtain ⟨t, ht⟩ := turn_nat _ h y hy
    rw [from_nat _ h y t ht]
    exact Int.natCast_nonneg _
  · exact h.2.2.2.2.2.2.2.2.1

/-- A row that was made anew. -/
theorem made_row {w0 W w5 : World} {v : Value} {xs : List Int} (ho : Kd.R (Kd.int .i64) 3 w5 W.heap.size (fun _ => True) v xs) (hb : Below w0.heap.size w0 W) (hnew : ∃ b, v.ownBlock = some b ∧ W.heap.size ≤ b) :
    ∃ g c, v = .slice (some ⟨g, 0, none⟩) xs.length c ∧ IRow w5 w0.heap.size g xs.length c xs ∧ W.heap.size ≤ g := by
  obtain ⟨g, eg, hg⟩ := hnew
  obtain ⟨A, c, rfl⟩ := Kd.R_slice ho
  cases A with
  | none => simp [Value.ownBlock] at eg
  | some ad =>
    obtain ⟨g', rfl⟩ := Kd.R_head ho
    obtain rfl : g' = g := by simpa [Value.ownBlock] using eg
    exact ⟨g', c, rfl, Kd.R_lower ho (below_size hb), hg⟩

set_option maxHeartbeats 4000000 in
set_option maxRecDepth 100000 in
theorem once_main (p sz wk n : Int) (A : Option Addr) (cap : Nat) (asks : List Int) (w : World) (hr : Kd.C (Kd.int .i64) w A asks.length asks) (h : ¬ 300 < asks.length) (hn : newErr p sz wk n = 0) :
    Calls Try.prog 3 #[.agg #[.int .i64 p, .int .i64 sz, .int .i64 wk, .int .i64 n, .slice A asks.length cap]] w (TruePost w) := by
  have h' : ¬ (300 : Int) < asks.length := by omega
  have hnew := Lib.hid (fun W => new_ok p sz wk n W hn)
  have HB := Aside0.mk (Below.refl w.heap.size w)
  have HR := Aside0.mk hr
  obtain ⟨⟨p1, p2⟩, ⟨s1, s2⟩, ⟨k1, k2⟩, ⟨n1, n2⟩⟩ := new_range hn
  clear hr hn
  go_enter Try.func3, Try.ntmps3
  go_wp2_with (first | ((with_reducible refine gate_dst (N := 1) rfl ?_); refine box_event ?hg (N := 1) ?hd (cs := bcells p sz wk n A asks.length cap) (t := 25) ?hr ?_; (case hd => rfl); (case hg => rfl); (case hr => unfold bcells; first | (go_simp; done) | (go_simp; rfl)); intro bx hg w3 hbox hb; have m1_ := Aside0.mk (below_step HB.out hb); have m2_ := Aside0.mk hbox; clear HB hb hbox hg; have HB := m1_; have HX := m2_; clear m1_ m2_; have x0 : w3.cell? ⟨bx, 0, none⟩ = some (.int .i64 p) := (blk_cell HX.out 0).trans rfl; have x1 : w3.cell? ⟨bx, 1, none⟩ = some (.int .i64 sz) := (blk_cell HX.out 1).trans rfl; have x2 : w3.cell? ⟨bx, 2, none⟩ = some (.int .i64 wk) := (blk_cell HX.out 2).trans rfl; have x3 : w3.cell? ⟨bx, 3, none⟩ = some (.int .i64 n) := (blk_cell HX.out 3).trans rfl; have x4 : w3.cell? ⟨bx, 4, none⟩ = some (.slice A asks.length cap) := (blk_cell HX.out 4).trans rfl))
  refine (hnew.out _).mono ?_
  intro e w4 hp
  obtain ⟨b, bt, ct, he, hd, hb⟩ := hp
  subst he
  have hX := blk_below HX.out hb
  have hBB := below_step HB.out hb
  have hD : DH w4 w.heap.size b bt ct (newD p sz wk n) := ⟨hd.cells, Kd.R_lower hd.turns (below_size HB.out), hd.ok, Nat.le_trans (below_size HB.out) hd.low, Nat.le_trans (below_size HB.out) hd.lowt⟩
  clear HB HX x0 x1 x2 x3 x4 hb hd
  have HB := Aside0.mk hBB
  have HX := Aside0.mk hX
  have HD := Aside0.mk hD
  clear hBB hX hD hnew
  have x2 : w4.cell? ⟨bx, 2, none⟩ = some (.int .i64 wk) := (blk_cell HX.out 2).trans rfl
  have x3 : w4.cell? ⟨bx, 3, none⟩ = some (.int .i64 n) := (blk_cell HX.out 3).trans rfl
  have x4 : w4.cell? ⟨bx, 4, none⟩ = some (.slice A asks.length cap) := (blk_cell HX.out 4).trans rfl
  have k3 : 0 ≤ wk := by omega
  -- the row got
  go_wp2_with (first | ((with_reducible refine gate_dst (N := 44) rfl ?_); refine Kd.R_make (Kd.int .i64) _ 3 rfl (N := 44) rfl 23 _ _ rfl n rfl rfl Try.underlying23 (.int .i64 0) 8 info3 rfl (by decide) (by omega) 0 (ok := fun _ => True) (okp := fun _ => True) rfl (fun _ hk => hk) trivial (by omega) (by omega) (Below.refl _ _) (Nat.le_refl _) ?_; intro v5 w5 ho5 hb5 hg_ hnew5; clear hg_; obtain ⟨bg, cg, es5, hi5, lb5⟩ := made_row ho5 HB.out hnew5; subst es5; rw [List.length_replicate] at hi5; rw [List.length_replicate]; have m1_ := Aside0.mk (below_step HB.out hb5); have m2_ := Aside0.mk (blk_below HX.out hb5); have m3_ := Aside0.mk (dh_below HD.out hb5); have m4_ := Aside0.mk hi5; have m5_ := Aside0.mk (show bg ≠ bt by have := (dh_lt HD.out).2.1; omega); clear HB HX HD hb5 ho5 x2 x3 x4 lb5 hnew5 hi5; have HB := m1_; have HX := m2_; have HD := m3_; have HG := m4_; have NG := m5_; clear m1_ m2_ m3_ m4_ m5_; have x2 : w5.cell? ⟨bx, 2, none⟩ = some (.int .i64 wk) := (blk_cell HX.out 2).trans rfl; have x3 : w5.cell? ⟨bx, 3, none⟩ = some (.int .i64 n) := (blk_cell HX.out 3).trans rfl; have x4 : w5.cell? ⟨bx, 4, none⟩ = some (.slice A asks.length cap) := (blk_cell HX.out 4).trans rfl) | ((with_reducible refine gate_dst (N := 47) rfl ?_); refine Kd.R_make (Kd.int .i64) _ 3 rfl (N := 47) rfl 23 _ _ rfl wk rfl rfl Try.underlying23 (.int .i64 0) 8 info3 rfl (by decide) (by omega) 0 (ok := fun _ => True) (okp := fun _ => True) rfl (fun _ hk => hk) trivial (by omega) (by omega) (Below.refl _ _) (Nat.le_refl _) ?_; intro v6 w6 ho6 hb6 hg_ hnew6; clear hg_; obtain ⟨bl, cl, es6, hi6, lb6⟩ := made_row ho6 HB.out hnew6; subst es6; rw [List.length_replicate] at hi6; rw [List.length_replicate]; have n1_ := (dh_lt HD.out).2.1; have n2_ := (irow_lt HG.out).1; have m1_ := Aside0.mk (show OS1 w w6 bx b bt ct bg n.toNat cg bl wk.toNat cl (bcells p sz wk n A asks.length cap) (newD p sz wk n) (List.replicate n.toNat 0) (List.replicate wk.toNat 0) from ⟨dh_below HD.out hb6, irow_step HG.out (hb6.block _ n2_), hi6, blk_below HX.out hb6, below_step HB.out hb6, NG.out, by omega, by omega⟩); clear HB HX HD HG NG hb6 ho6 x2 x3 x4 lb6 hnew6 hi6 n1_ n2_; have HS := m1_; clear m1_; have x2 : w6.cell? ⟨bx, 2, none⟩ = some (.int .i64 wk) := (blk_cell HS.out.hx 2).trans rfl; have x3 : w6.cell? ⟨bx, 3, none⟩ = some (.int .i64 n) := (blk_cell HS.out.hx 3).trans rfl; have x4 : w6.cell? ⟨bx, 4, none⟩ = some (.slice A asks.length cap) := (blk_cell HS.out.hx 4).trans rfl) | ((with_reducible refine gate_dst (N := 48) rfl ?_); refine Kd.R_lit (Kd.int .i64) _ 3 ?hg (N := 48) ?hd (xs := ([] : List Int)) (inner := []) (ok := fun _ => True) (okp := fun _ => True) ?hr ?hp (fun _ hk => hk) trivial (Below.refl _ _) (Nat.le_refl _) (by simp) ?_; (case hd => rfl); (case hg => rfl); (case hr => first | (go_simp; done) | (go_simp; rfl)); (case hp => exact (Reps.none _ _)); intro v7 w7 ho7 hb7 hg_ hnew7; clear hg_; have m1_ := Aside0.mk (os1_mv HS.out (fun k hk _ => hb7.block k hk) (below_step HS.out.hb hb7)); have m2_ := Aside0.mk (show Kd.R (Kd.int .i64) 3 w7 w.heap.size (away bt bg bl) v7 [] from Kd.R_lower (Kd.R_reok rfl ho7 (fun k hk => away_new HS.out k (by obtain ⟨b_, e_, l_⟩ := hnew7; rw [e_] at hk; injection hk with hk; omega))) (below_size HS.out.hb)); clear HS hb7 ho7 hnew7 x2 x3 x4; have HS := m1_; have HA := m2_; clear m1_ m2_; have x2 : w7.cell? ⟨bx, 2, none⟩ = some (.int .i64 wk) := (blk_cell HS.out.hx 2).trans rfl; have x3 : w7.cell? ⟨bx, 3, none⟩ = some (.int .i64 n) := (blk_cell HS.out.hx 3).trans rfl; have x4 : w7.cell? ⟨bx, 4, none⟩ = some (.slice A asks.length cap) := (blk_cell HS.out.hx 4).trans rfl) | ((with_reducible refine gate_builtin (b := .append) (xs := #[.tmp 48, .tmp 50]) rfl ?_); at_builtin; refine Kd.R_append_rows (Kd.int .i64) (w0 := w) w.heap.size rfl (.tmp 48) (.tmp 50) 23 3 (.int .i64 0) 8 rfl Try.underlying23 info3 rfl (by decide) (by omega) v7 [] asks _ _ _ (away bt bg bl) (fun _ => False) rfl rfl HA.out (Kd.C_below HR.out HS.out.hb) (fun _ _ h => h) (fun _ h => h.elim) (away_new HS.out) HS.out.hb (below_size HS.out.hb) (by simp; omega) ?_; intro v8 w8 ho8 hb8 hg8 hat8; clear hat8; have m1_ := Aside0.mk (os1_grown HS.out HA.out hg8 hb8); have m2_ := Aside0.mk (show Kd.R (Kd.int .i64) 3 w8 w.heap.size (away bt bg bl) v8 (askers asks wk.toNat 0) by { rw [List.nil_append] at ho8; unfold askers; simpa using ho8 }); clear HS HA hb8 ho8 hg8 x2 x3 x4; have HS := m1_; have HA := m2_; clear m1_ m2_))
  have hM := tail_eq n wk n1 k3
  have hMl : (n.toNat + 1) * wk.toNat ≤ 201 * 8 := Nat.mul_le_mul (by omega) (by omega)
  generalize hMM : (n.toNat + 1) * wk.toNat = M at *
  have HMM := Lib.hid hMM
  clear hMM
  have hM1 : IntKind.wrap .i64 ((n + 1) * wk) = (M : Int) := by rw [hM]; exact IntWalk.i64_in _ (by omega)
  have hM2 : wrap64 ((n + 1) * wk) = (M : Int) := by rw [hM]; unfold wrap64; omega
  clear hM

  go_loopw [7, 8] (fun v7 v8 w' => ORel1 w bx b bt ct bg n.toNat cg bl wk.toNat cl (bcells p sz wk n A asks.length cap) (newD p sz wk n) (List.replicate n.toNat 0) (List.replicate wk.toNat 0) asks wk.toNat M v7 v8 w') (fun _ v8 _ => M - (intOf v8).toNat)
  case atStart => exact ⟨0, Nat.zero_le _, rfl, HS, HA⟩
  case round =>
    clear HS HA
    unfold ORel1 at hrel
    obtain ⟨m, hm, rfl, HS, HA⟩ := hrel
    have x2 : wr.cell? ⟨bx, 2, none⟩ = some (.int .i64 wk) := (blk_cell HS.out.hx 2).trans rfl
    have x3 : wr.cell? ⟨bx, 3, none⟩ = some (.int .i64 n) := (blk_cell HS.out.hx 3).trans rfl
    by_cases hlt : m < M
    · have t1 : Int.tmod (m : Int) wk = ((m % wk.toNat : Nat) : Int) := tmod_nat _ wk (by omega)
      have t2 : (m : Int) % wk = ((m % wk.toNat : Nat) : Int) := by rw [Int.natCast_emod]; congr 1; omega
      have t3 : wk ≠ 0 := by omega
      have t4 : ((m % wk.toNat : Nat) : Int) ≤ 8 := by have := Nat.mod_lt m (show 0 < wk.toNat by omega); omega
      generalize hr : ((m % wk.toNat : Nat) : Int) = r at *
      have HRR := Lib.hid hr
      have hlt' : (m : Int) < M := by omega
      clear hr
      go_wp2_with (first | ((with_reducible refine gate_builtin (b := .append) (xs := #[.tmp 62, .tmp 67]) rfl ?_); at_builtin; refine Kd.R_append (Kd.int .i64) (w0 := w) w.heap.size rfl (.tmp 62) (.tmp 67) 23 3 (.int .i64 0) 8 rfl Try.underlying23 info3 rfl (by decide) (by omega) _ _ r [.int .i64 r] (away bt bg bl) (fun _ => False) rfl rfl (by rfl) (fun _ hk => hk.elim) (away_new HS.out) HA.out HS.out.hb (below_size HS.out.hb) (by rw [askers_len]; omega) ?_; intro v9 w9 ho9 hb9 hg9 hat9; clear hat9; have m1_ := Aside0.mk (os1_grown HS.out HA.out hg9 hb9); have m2_ := Aside0.mk (show Kd.R (Kd.int .i64) 3 w9 w.heap.size (away bt bg bl) v9 (askers asks wk.toNat (m + 1)) by { rw [← HRR.out, askers_succ] at ho9; exact ho9 }); clear HS HA hb9 ho9 hg9 x2 x3; have HS := m1_; have HA := m2_; clear m1_ m2_))
      go_roundw
      case rel => exact ⟨m + 1, by omega, by go_num, HS, HA⟩
      case measure => simp [intOf]; omega
    · have hme : M = m := by omega
      subst hme
      clear hlt hm
      obtain ⟨ba, ca, eA, hA1, hA2, _, _⟩ := Kd.R_form HA.out (by rw [askers_len]; have := HMM.out; have := Nat.mul_le_mul (show 1 ≤ n.toNat + 1 by omega) (show 1 ≤ wk.toNat by omega); omega)
      subst eA
      have hal := askers_len asks wk.toNat M
      rw [hal] at HA
      rw [hal]
      have HS2 := Aside0.mk (os_of HS.out HA.out)
      clear HS HA hA1 hA2 hal
      have HAL := Lib.hid (askers_at asks wk.toNat M)
      have HFR := Lib.hid (fun (d d' : D) (f t : Int) (ok : Bool) (i : Nat) (hk : wk.toNat = d.wk.toNat) (hw : 1 ≤ d.wk) (h : Step d d' ((askers asks wk.toNat M).getD i 0) f t ok) (hi : i < asks.length + M) (hf : Far d (i - asks.length)) => far_round (m := M) hk hw h hi hf)
      go_wp2
      generalize askers asks wk.toNat M = As at *
      generalize hna : asks.length + M = na at *
      have hna2 : na ≤ 2000 := by omega
      have HNA := Lib.hid hna
      clear hna
      have hok0 := HS2.out.hd.ok
      have hgd0 := Aside0.mk (gd_new p sz wk n)
      have hld0 := Aside0.mk (ld_new p sz wk n hok0)
      have hfar0 := Aside0.mk (far_zero _ hok0)
      clear x2 x3
      go_loopw [9] (fun v9 w' => ORel2 w bx b bt ct bg n.toNat cg bl wk.toNat cl ba na ca (bcells p sz wk n A asks.length cap) (newD p sz wk n) As asks.length n wk v9 w') (fun v9 _ => na - (intOf v9).toNat)
      case atStart => exact ⟨0, newD p sz wk n, _, _, Nat.zero_le _, rfl, ⟨⟨rfl, rfl, rfl, rfl⟩⟩, ⟨List.length_replicate⟩, ⟨List.length_replicate⟩, hgd0, hld0, ⟨by rw [Nat.zero_sub]; exact hfar0.out⟩, HS2⟩
      case round =>
        clear HS2 hgd0 hld0 hfar0 hok0
        unfold ORel2 at hrel
        obtain ⟨i, d, G, L, hi, rfl, S4, GL, LL, GD, LD, FA, HS⟩ := hrel
        by_cases hlt : i < na
        · have hlt' : (i : Int) < na := by omega
          obtain ⟨hc, _⟩ := irow_cell HS.out.ha i hlt
          have hstep := next_step d HS.out.hd.ok (As.getD i 0)
          have hgot := next_got d HS.out.hd.ok (As.getD i 0)
          have hbnd := next_bounds d HS.out.hd.ok (As.getD i 0)
          have hfar := HFR.out d _ _ _ _ i (by rw [S4.out.2.2.1]; rfl) (by rw [S4.out.2.2.1]; exact k1) hstep hlt FA.out
          have hnc := next_calls w.heap.size b bt ct d (As.getD i 0)
          have hwk : d.wk = wk := S4.out.2.2.1
          have hdn : d.n = n := S4.out.2.1
          rw [hdn] at hgot hbnd
          have HST := Aside0.mk hstep
          have HGT := Aside0.mk hgot
          have HBD := Aside0.mk hbnd
          have HFA := Aside0.mk hfar
          have HNC := Aside0.mk hnc
          have HWK := Aside0.mk hwk
          clear hstep hgot hbnd hfar hnc hwk hdn
          have HDD := HS.out.hd
          have HHD := Aside0.mk HDD
          clear HDD
          generalize As.getD i 0 = q at *
          go_wp2_with fail
          refine (HNC.out _ HHD.out).mono ?_
          intro e w7 hp
          unfold NextPost at hp
          obtain ⟨he, hd, hf⟩ := hp
          subst he
          have m1_ := Aside0.mk (os_next HS.out hd hf)
          clear HS hd hf hc HHD HNC
          have HS := m1_
          clear m1_
          generalize (d.next q).1 = d' at *
          generalize (d.next q).2.1 = f at *
          generalize (d.next q).2.2.1 = t at *
          generalize (d.next q).2.2.2 = ok at *
          have hsm : Same4 (newD p sz wk n) d' := by
            obtain ⟨e1, e2, e3, e4⟩ := S4.out
            obtain ⟨f1, f2, f3, f4⟩ := HST.out.same
            exact ⟨f1.trans e1, f2.trans e2, f3.trans e3, f4.trans e4⟩
          have HSM := Aside0.mk hsm
          clear hsm
          cases ok with
          | false =>
            go_wp2
            go_roundw
            case rel => exact ⟨i + 1, d', G, L, by omega, by go_num, HSM, GL, LL, ⟨fun a ha => by rw [HGT.out a ha]; simp only [Bool.false_and, Bool.or_false]; exact GD.out a ha⟩, ⟨ld_any HST.out LD.out⟩, HFA, ⟨os_alloc HS.out _⟩⟩
            case measure => simp [intOf]; omega
          | true =>
            obtain ⟨q0, q1⟩ := HST.out.inn rfl
            rw [HWK.out] at q1
            obtain ⟨qn, rfl⟩ := Int.eq_ofNat_of_zero_le q0
            obtain ⟨b1, b2, b3⟩ := HBD.out rfl
            have hfr := Aside0.mk (HST.out.fresh rfl)
            have hlo : L.getD qn 0 ≤ f := by
              have h1 := LD.out qn (by omega)
              have h2 := HST.out.from_ rfl
              rw [Int.toNat_natCast] at h2
              omega
            go_wp2
            generalize hW : w7.alloc (.cells #[.int .i64 f, .int .i64 t] 32 (0, 0)) = w8
            have m1_ := Aside0.mk (show OS w w8 bx b bt ct bg n.toNat cg bl wk.toNat cl ba na ca (bcells p sz wk n A asks.length cap) d' G L As by rw [← hW]; exact os_alloc HS.out _)
            have m2_ := Aside0.mk (show w8.heap[w7.heap.size]? = some (.cells #[.int .i64 f, .int .i64 t] 32 (0, 0)) by rw [← hW]; exact blk_new w7 _)
            generalize w7.heap.size = bs at *
            clear HS hW
            have HS := m1_
            have HP := m2_
            clear m1_ m2_
            have x2 : w8.cell? ⟨bx, 2, none⟩ = some (.int .i64 wk) := (blk_cell HS.out.hx 2).trans rfl
            have x3 : w8.cell? ⟨bx, 3, none⟩ = some (.int .i64 n) := (blk_cell HS.out.hx 3).trans rfl
            have s0 : w8.cell? ⟨bs, 0, none⟩ = some (.int .i64 f) := (blk_cell HP.out 0).trans rfl
            have s1_ : w8.cell? ⟨bs, 1, none⟩ = some (.int .i64 t) := (blk_cell HP.out 1).trans rfl
            obtain ⟨hcl, hfl⟩ := irow_cell HS.out.hl qn (by omega)
            generalize L.getD qn 0 = lv at *
            have g1 : decide ((qn : Int) < 0) = false := decide_eq_false (by omega)
            have g2 : decide (wk ≤ (qn : Int)) = false := decide_eq_false (by omega)
            have g3 : decide (f < lv) = false := decide_eq_false (by omega)
            have g4 : decide (t ≤ f) = false := decide_eq_false (by omega)
            have g5 : decide (n < t) = false := decide_eq_false (by omega)
            have k4 : (qn : Int) < (wk.toNat : Int) := by omega
            have nb1 : bl ≠ bs := irow_ne HS.out.hl HP.out (by decide)
            have nb2 : bs ≠ bl := fun e => nb1 e.symm
            go_quiet (fail)
            go_wp2
            generalize hW : ((w8.drewN _).setCell ⟨bl, qn, none⟩ (.int .i64 t)) = w9
            have m1_ := Aside0.mk (show OS w w9 bx b bt ct bg n.toNat cg bl wk.toNat cl ba na ca (bcells p sz wk n A asks.length cap) d' G (L.set qn t) As by rw [← hW]; exact os_setL (os_drewN HS.out _) qn t)
            have m2_ := Aside0.mk (show w9.heap[bs]? = some (.cells #[.int .i64 f, .int .i64 t] 32 (0, 0)) by rw [← hW]; exact blk_far (blk_drewN HP.out _) nb2 _)
            clear HS HP hW x2 x3 s0 s1_ hcl hfl g1 g2 g3 g4 g5
            have HS := m1_
            have HP := m2_
            clear m1_ m2_
            obtain ⟨fn, rfl⟩ := Int.eq_ofNat_of_zero_le b1
            go_loopw [13] (fun v13 w' => ORel3 w bx b bt ct bg n.toNat cg bl wk.toNat cl ba na ca bs (bcells p sz wk n A asks.length cap) d d' As (L.set qn t) n fn t v13 w') (fun v13 _ => (t - intOf v13).toNat)
            case atStart => exact ⟨fn, G, rfl, ⟨by omega, by omega⟩, GL, ⟨gs_start _ GD.out⟩, HS, HP⟩
            case round =>
              clear HS HP
              unfold ORel3 at hrel
              obtain ⟨m, G2, rfl, CB, GL2, GS, HS, HP⟩ := hrel
              have s0 : wr.cell? ⟨bs, 0, none⟩ = some (.int .i64 fn) := (blk_cell HP.out 0).trans rfl
              have s1_ : wr.cell? ⟨bs, 1, none⟩ = some (.int .i64 t) := (blk_cell HP.out 1).trans rfl
              obtain ⟨cb1, cb2⟩ := CB.out
              by_cases hmt : (m : Int) < t
              · obtain ⟨hcg, hfg⟩ := irow_cell HS.out.hg m (by omega)
                rw [gs_cell GS.out hfr.out cb1 hmt (by omega)] at hcg
                have k5 : (m : Int) < (n.toNat : Int) := by omega
                have ngs := irow_ne HS.out.hg HP.out (by decide)
                go_wp2
                go_roundw
                case rel => exact ⟨m + 1, G2.set m 1, by go_num, ⟨by omega, by omega⟩, ⟨by rw [List.length_set]; exact GL2.out⟩, ⟨by have := gs_step GS.out hfr.out cb1 hmt (by have := GL2.out; omega); exact this⟩, ⟨os_setG HS.out m 1⟩, ⟨blk_far HP.out (fun e => ngs e.symm) _⟩⟩
                case measure => simp [intOf]; omega
              · have hce : (m : Int) = t := by omega
                have HCE := Lib.hid hce
                clear hce
                go_wp2
                go_roundw
                case rel => exact ⟨i + 1, d', G2, L.set qn t, by omega, by go_num, HSM, GL2, ⟨by rw [List.length_set]; exact LL.out⟩, ⟨gs_end (by have := GS.out; rw [HCE.out] at this; exact this) hfr.out HGT.out⟩, ⟨ld_set HST.out LD.out (by have := LL.out; omega)⟩, HFA, HS⟩
                case measure => simp [intOf]; omega
        · have hie : na = i := by omega
          subst hie
          have hall := Aside0.mk (fun (a : Nat) (ha : (a : Int) < n) => show G.getD a 0 = 1 by
            have e1 := GD.out a ha
            have e2 := far_all d HS.out.hd.ok (by
              have e3 : d.n.toNat = n.toNat := by rw [S4.out.2.1]; rfl
              have e4 : d.wk.toNat = wk.toNat := by rw [S4.out.2.2.1]; rfl
              have e5 : na - asks.length = M := by have := HNA.out; omega
              rw [e3, e4, HMM.out, ← e5]
              exact FA.out) a (by rw [S4.out.2.1]; exact ha)
            rw [e1, e2]; rfl)
          clear hlt hi
          go_wp2
          go_loopw [14] (fun v14 w' => ∃ m : Nat, (m : Int) ≤ n ∧ v14 = .int .i64 m ∧ Aside0 (OS w w' bx b bt ct bg n.toNat cg bl wk.toNat cl ba na ca (bcells p sz wk n A asks.length cap) d G L As)) (fun v14 _ => (n - intOf v14).toNat)
          case atStart => exact ⟨0, by omega, rfl, HS⟩
          case round =>
            clear HS
            obtain ⟨m, hm, rfl, HS⟩ := hrel
            have x3 : wr.cell? ⟨bx, 3, none⟩ = some (.int .i64 n) := (blk_cell HS.out.hx 3).trans rfl
            by_cases hmn : (m : Int) < n
            · obtain ⟨hcg, hfg⟩ := irow_cell HS.out.hg m (by omega)
              rw [hall.out m hmn] at hcg
              have k5 : (m : Int) < (n.toNat : Int) := by omega
              go_wp2
              go_roundw
              case rel => exact ⟨m + 1, by omega, by go_num, HS⟩
              case measure => simp [intOf]; omega
            · go_wp2_with fail
              refine (alive_calls _).mono ?_
              intro e w8 hp
              obtain ⟨he, hb⟩ := hp
              subst he
              have m1_ := Aside0.mk (below_step HS.out.hb hb)
              clear HS hb
              go_wp2
              go_ret
              exact ⟨rfl, m1_.out⟩

theorem once_calls (p sz wk n : Int) (A : Option Addr) (cap : Nat) (asks : List Int) (w : World) (hr : Kd.C (Kd.int .i64) w A asks.length asks) :
    Calls Try.prog 3 #[.agg #[.int .i64 p, .int .i64 sz, .int .i64 wk, .int .i64 n, .slice A asks.length cap]] w (TruePost w) := by
  by_cases h : 300 < asks.length
  · exact once_big p sz wk n A _ cap w h
  · by_cases hn : newErr p sz wk n = 0
    · exact once_main p sz wk n A cap asks w hr h hn
    · exact once_bad p sz wk n A _ cap w h hn
end Go.Proofs.Ytnhjneldjfdnfaa.K
