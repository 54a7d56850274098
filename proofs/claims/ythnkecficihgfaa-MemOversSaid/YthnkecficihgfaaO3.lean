/- mem.Of walked: a memory is made of cells. -/
import Derived.Test.YthnkecficihgfaaO2
namespace Go.Proofs.Ythnkecficihgfaa.K
open Go.RowKit Go.Proofs.YthnkecficihgfaaW.PrintWords Go.Proofs.YthnkecficihgfaaW.PrintLast Go.Proofs.YthnkecficihgfaaW.PrintMore
attribute [local go_sem] max2_int min2_int max_two min_two max_three min_three max_four min_four
set_option linter.unusedVariables false
set_option linter.unusedSimpArgs false

/-- Cell by cell: what has been told, and the memory so far. -/
def ofL (n : Int) : List S47 → List Bool → List Int → List Int × Int
  | [], _, out => (out, 0)
  | c :: cs, told, out => if c.f0 < 0 then ([], 131) else if c.f0 ≥ n then ([], 131) else if told.getD c.f0.toNat false = true then ([], 61) else ofL n cs (told.set c.f0.toNat true) (out.set c.f0.toNat c.f1)
def ofR (n : Int) (cs : List S47) : List Int × Int :=
  if n < 1 then ([], 130) else if n > 64 then ([], 130) else ofL n cs (List.replicate 64 false) (List.replicate n.toNat 0)
def mem_Of.f (a0 : Int) (l1 : List S47) : Option (List Int × Int) := some (ofR a0 l1)

def bools (l : List Bool) : Array Value := (l.map Value.bool).toArray
theorem bools_none : bools (List.replicate 64 false) = Array.replicate 64 (.bool false) := by rw [bools, List.map_replicate, List.toArray_replicate]
theorem bools_set (l : List Bool) (i : Nat) : (bools l).setIfInBounds i (.bool true) = bools (l.set i true) := by
  apply Array.ext'
  simp [bools, List.map_set]
theorem bools_at (l : List Bool) (i : Nat) (h : i < l.length) : (bools l)[i]? = some (.bool (l.getD i false)) := by
  simp [bools, List.getD_eq_getElem?_getD, List.getElem?_eq_getElem h]
theorem info39 : (Try.prog.info? 39).map (fun i => (i.zero, i.size)) = some (some (.agg (Array.replicate 64 (.bool false))), 64) := by kernel_rfl
theorem zero39 (w : World) : (zeroValue 39).run Try.prog w = .ok (.agg (bools (List.replicate 64 false))) w := by rw [bools_none]; exact (zero_of_info info39).1 w

def OfPost (n : Int) (l1 : List S47) (w : World) (e : Ending) (w' : World) : Prop :=
  ∃ v0_ : Value, e = .returned (.tuple #[v0_, .int .i64 (ofR n l1).2]) ∧ Kd.R (Kd.int .i64) 2 w' w.heap.size (fun _ => True) v0_ (ofR n l1).1 ∧ Below w.heap.size w w'

set_option maxHeartbeats 400000 in
theorem of_low (n : Int) (v : Value) (l1 : List S47) (w : World) (h : n < 1) : Calls Try.prog 8 #[.int .i64 n, v] w (OfPost n l1 w) := by
  have hr : ofR n l1 = ([], 130) := by unfold ofR; rw [if_pos h]
  have HR := Lib.hid hr
  clear hr
  go_enter Try.func8, Try.ntmps8
  go_wp2
  go_ret2
  unfold OfPost
  rw [HR.out]
  exact ⟨_, rfl, Kd.R_nil _ _ _ _ _, Below.refl _ _⟩

set_option maxHeartbeats 400000 in
theorem of_high (n : Int) (v : Value) (l1 : List S47) (w : World) (h : n > 64) : Calls Try.prog 8 #[.int .i64 n, v] w (OfPost n l1 w) := by
  have h0 : ¬ n < 1 := by omega
  have hr : ofR n l1 = ([], 130) := by unfold ofR; rw [if_neg h0, if_pos h]
  have HR := Lib.hid hr
  clear hr
  go_enter Try.func8, Try.ntmps8
  go_wp2
  go_ret2
  unfold OfPost
  rw [HR.out]
  exact ⟨_, rfl, Kd.R_nil _ _ _ _ _, Below.refl _ _⟩

def OfRel (n : Int) (l1 : List S47) (w : World) (v6 : Value) (gT : Nat) (v20 : Value) (w' : World) : Prop :=
  ∃ (i : Nat) (told : List Bool) (out : List Int), i ≤ l1.length ∧ v20 = .int .i64 i ∧ Aside0 (told.length = 64) ∧ Aside0 (out.length = n.toNat) ∧ Aside0 (ofR n l1 = ofL n (l1.drop i) told out) ∧ Aside0 (Kd.R (Kd.int .i64) 2 w' w.heap.size (fun _ => True) v6 out) ∧ Aside0 (w'.heap[gT]? = some (.cells (bools told) 39 (0, 0))) ∧ Aside0 (Below w.heap.size w w')

theorem of_step {n : Int} {l1 : List S47} {w wr : World} {gT go17 co17 i m : Nat} {told : List Bool} {out : List Int} {cVal : Int} (hi : i < l1.length) (hmax : l1.length ≤ 9223372036854775807) (LT : told.length = 64) (LO : out.length = n.toNat)
    (HT : wr.heap[gT]? = some (.cells (bools told) 39 (0, 0))) (HB : Below w.heap.size w wr) (HR : ofR n l1 = ofL n (l1.drop (i + 1)) (told.set m true) (out.set m cVal)) (gb17 : w.heap.size ≤ go17) (GT : w.heap.size ≤ gT)
    (HO : Kd.R (Kd.int .i64) 2 wr w.heap.size (fun _ => True) (.slice (some ⟨go17, 0, none⟩) out.length co17) out) (hne2 : gT ≠ go17) :
    OfRel n l1 w (.slice (some ⟨go17, 0, none⟩) out.length co17) gT (.int .i64 (wrap64 ((i : Int) + 1))) (((wr.setCell ⟨gT, m, none⟩ (.bool true)).setCell ⟨go17, m, none⟩ (.int .i64 cVal)).alloc (.cells #[.int .i64 m, .int .i64 cVal] 47 (0, 0))) := by
  have e : wrap64 ((i : Int) + 1) = ((i + 1 : Nat) : Int) := by unfold wrap64; omega
  rw [e]
  refine ⟨i + 1, told.set m true, out.set m cVal, by omega, rfl, ⟨by rw [List.length_set]; exact LT⟩, ⟨by rw [List.length_set]; exact LO⟩, ⟨HR⟩, ⟨Kd.R_alloc ?_ _⟩, ⟨blk_alloc ?_ _⟩, ⟨below_alloc ?_ _⟩⟩
  · have h1 := Kd.R_mono (ok' := fun _ => True) (Kd.R_far (p := ⟨gT, m, none⟩) (Kd.R_types HO HT (by decide)) (fun _ hk => hk.2) (.bool true)) (fun _ _ => trivial)
    have h2 := (Kd.R_putg h1 (m : Int) cVal).1
    simp only [Int.toNat_natCast] at h2
    exact h2
  · refine blk_far ?_ (fun e => hne2 e) _
    rw [← bools_set]
    exact blk_set HT m _
  · exact below_set (below_set HB GT) gb17
theorem of_measure {i : Nat} {L : Nat} (hi : i < L) (hmax : L ≤ 9223372036854775807) : L - (intOf (.int .i64 (wrap64 ((i : Int) + 1)))).toNat < L - (intOf (.int .i64 (i : Int))).toNat := by
  have e : wrap64 ((i : Int) + 1) = ((i + 1 : Nat) : Int) := by unfold wrap64; omega
  rw [e]
  simp [intOf]
  omega

set_option maxHeartbeats 2000000 in
set_option maxRecDepth 100000 in
theorem of_mid (n : Int) (A1 : Option Addr) (c1 : Nat) (l1 : List S47) (w : World) (hr1 : Kd.C k47 w A1 l1.length l1) (hc1 : l1.length ≤ c1) (h1 : 1 ≤ n) (h2 : n ≤ 64) :
    Calls Try.prog 8 #[.int .i64 n, .slice A1 l1.length c1] w (OfPost n l1 w) := by
  have hr : ofR n l1 = ofL n l1 (List.replicate 64 false) (List.replicate n.toNat 0) := by unfold ofR; rw [if_neg (by omega), if_neg (by omega)]
  have HR := Lib.hid hr
  clear hr
  have hmax := Aside0.mk (Kd.C_max hr1)
  have HR1 := Aside0.mk hr1
  have HC1 := Aside0.mk hc1
  clear hr1 hc1
  have hu47 := Try.underlying47
  have HB := Aside0.mk (Below.refl w.heap.size w)
  have c1b : decide (n < 1) = false := decide_eq_false (by omega)
  have c2b : decide (64 < n) = false := decide_eq_false (by omega)
  go_enter Try.func8, Try.ntmps8
  go_wp2_with (first | ((with_reducible refine gate_dst (N := 17) rfl ?_); refine Kd.R_make (Kd.int .i64) _ 2 rfl (N := 17) rfl 23 _ _ rfl n rfl rfl Try.underlying23 (.int .i64 0) 8 info2 rfl (by decide) (by omega) 0 (ok := fun _ => True) (okp := fun _ => True) rfl (fun _ hk => hk) trivial (by omega) (by omega) (Below.refl _ _) (Nat.le_refl _) ?_; intro v6 w5 ho6 hb hg_ hnew_; clear hg_ hnew_; have n0_ := Aside0.mk ho6; have n1_ := Aside0.mk hb; clear HB ho6 hb; have HO := n0_; have HB := n1_; clear n0_ n1_) | ((with_reducible refine gate_dst (N := 7) rfl ?_); refine box_event ?hg (N := 7) ?hd (cs := bools (List.replicate 64 false)) (t := 39) ?hr ?_; (case hd => rfl); (case hg => rfl); (case hr => (have hz := zero39; generalize bools (List.replicate 64 false) = Z at *; first | (go_simp; done) | (go_simp; rfl))); intro gT hg w6 hbox hb; have n0_ := Aside0.mk (Kd.R_below HO.out hb); have n1_ := Aside0.mk (below_step HB.out hb); have n2_ := Aside0.mk hbox; have n3_ := Aside0.mk ((by rw [hg]; exact below_size HB.out) : w.heap.size ≤ gT); clear HO HB; have HO := n0_; have HB := n1_; have HT := n2_; have GT := n3_; clear n0_ n1_ n2_ n3_ hb hbox hg))
  go_loopw [20] (fun v20 w' => OfRel n l1 w v6 gT v20 w') (fun v20 _ => l1.length - (intOf v20).toNat)
  case atStart => exact ⟨0, _, _, Nat.zero_le _, rfl, ⟨by simp⟩, ⟨by simp⟩, ⟨by rw [List.drop_zero]; exact HR.out⟩, HO, HT, HB⟩
  case round =>
    clear HO HT HB HR
    unfold OfRel at hrel
    obtain ⟨i, told, out, hi, rfl, LT, LO, HR, HO, HT, HB⟩ := hrel
    by_cases hlt : i < l1.length
    · have p118 : 0 ≤ (i : Int) := by omega
      have q118 : (i : Int) < l1.length := by omega
      obtain ⟨ad, e118, hx0, hx1⟩ := at_T47 HR1.out i p118 q118
      cases e118
      replace hx0 := (HB.out.cell (World.block_lt_of_cell? w _ hx0)).trans hx0
      replace hx1 := (HB.out.cell (World.block_lt_of_cell? w _ hx1)).trans hx1
      have hdrop : l1.drop i = rd_T47 l1 i :: l1.drop (i + 1) := by
        rw [List.drop_eq_getElem_cons hlt]
        simp [rd_T47, List.getD_eq_getElem?_getD, hlt]
      have HD := Lib.hid hdrop
      clear hdrop
      generalize hc : rd_T47 l1 i = c at *
      clear hc
      obtain ⟨cAt, cVal⟩ := c
      simp only [Int.toNat_natCast] at hx0 hx1
      have gTlt := blk_lt HT.out
      have HRR : ofR n l1 = if cAt < 0 then ([], 131) else if cAt ≥ n then ([], 131) else if told.getD cAt.toNat false = true then ([], 61) else ofL n (l1.drop (i + 1)) (told.set cAt.toNat true) (out.set cAt.toNat cVal) := by
        rw [HR.out, HD.out]
        rfl
      clear HR HD
      by_cases k1 : cAt < 0
      · rw [if_pos k1] at HRR
        have HR := Lib.hid HRR
        clear HRR
        go_wp2
        go_ret2
        unfold OfPost
        rw [HR.out]
        exact ⟨_, rfl, Kd.R_nil _ _ _ _ _, (by repeat (first | (with_reducible first | exact HB.out | apply below_alloc | apply pw_below_drewN | apply below_drew1) | exact HB.out))⟩
      · rw [if_neg k1] at HRR
        by_cases k2 : cAt ≥ n
        · rw [if_pos k2] at HRR
          have HR := Lib.hid HRR
          clear HRR
          go_wp2
          go_ret2
          unfold OfPost
          rw [HR.out]
          exact ⟨_, rfl, Kd.R_nil _ _ _ _ _, (by repeat (first | (with_reducible first | exact HB.out | apply below_alloc | apply pw_below_drewN | apply below_drew1) | exact HB.out))⟩
        · rw [if_neg k2] at HRR
          obtain ⟨m, rfl⟩ := Int.eq_ofNat_of_zero_le (Int.not_lt.mp k1)
          simp only [Int.toNat_natCast] at HRR
          have hm : m < 64 := by omega
          have hmn : (m : Int) < 64 := by omega
          have hm0 : 0 ≤ (m : Int) := by omega
          have k3 : ¬ n ≤ (m : Int) := by omega
          have tc := (blk_cell HT.out m).trans (bools_at told m (by rw [LT.out]; exact hm))
          have tf := blk_frozen HT.out m
          cases hb : told.getD m false with
          | true =>
            rw [hb] at tc HRR
            rw [if_pos rfl] at HRR
            have HR := Lib.hid HRR
            clear HRR hb
            go_wp2
            go_ret2
            unfold OfPost
            rw [HR.out]
            exact ⟨_, rfl, Kd.R_nil _ _ _ _ _, (by repeat (first | (with_reducible first | exact HB.out | apply below_alloc | apply pw_below_drewN | apply below_drew1) | exact HB.out))⟩
          | false =>
            rw [hb] at tc HRR
            rw [if_neg (by decide)] at HRR
            have HR := Lib.hid HRR
            clear HRR hb
            have hlo := LO.out
            have hlen : (m : Int) < out.length := by omega
            clear hlo
            obtain ⟨go17, co17, eo17, gb17, gl17, cl17, HG17⟩ := Kd.R_form HO.out (by omega)
            subst eo17
            obtain ⟨oc, of_⟩ := Kd.R_celln 0 HO.out (m : Int) hm0 hlen
            simp only [Int.toNat_natCast] at oc of_
            have hne := Kd.R_ne HO.out HT.out (by decide)
            have hne2 : gT ≠ go17 := by intro e; exact hne (by rw [e]; rfl)
            have hne3 : go17 ≠ gT := fun e => hne2 e.symm
            clear hne
            generalize rdOf 0 out (m : Int) = ov at *
            go_wp2
            exact ⟨of_step hlt hmax.out LT.out LO.out HT.out HB.out HR.out gb17 GT.out HO.out hne2, of_measure hlt hmax.out⟩
    · have e : i = l1.length := by omega
      subst e
      have HRR := HR.out
      rw [List.drop_length] at HRR
      have HR := Lib.hid (show ofR n l1 = (out, 0) from HRR)
      clear HRR
      go_wp2
      go_ret2
      unfold OfPost
      rw [HR.out]
      exact ⟨_, rfl, HO.out, HB.out⟩

theorem mem_Of.calls (a0 : Int) (A1 : Option Addr) (c1 : Nat) (l1 : List (S47)) (r1 : List Int) (r2 : Int) (w : World) (hr1 : Kd.C k47 w A1 l1.length l1) (hc1 : l1.length ≤ c1) (h : mem_Of.f a0 l1 = some (r1, r2)) :
    Calls Try.prog 8 #[.int .i64 a0, .slice A1 l1.length c1] w fun e w' => ∃ v0_ : Value, e = .returned (.tuple #[v0_, .int .i64 r2]) ∧ Kd.R (Kd.int .i64) 2 w' w.heap.size (fun _ => True) v0_ r1 ∧ Below w.heap.size w w' := by
  have h' : ofR a0 l1 = (r1, r2) := Option.some.inj h
  have hp : Calls Try.prog 8 #[.int .i64 a0, .slice A1 l1.length c1] w (OfPost a0 l1 w) := by
    by_cases k1 : a0 < 1
    · exact of_low a0 _ l1 w k1
    · by_cases k2 : a0 > 64
      · exact of_high a0 _ l1 w k2
      · exact of_mid a0 A1 c1 l1 w hr1 hc1 (by omega) (by omega)
  refine hp.mono fun e w' hq => ?_
  unfold OfPost at hq
  rw [h'] at hq
  exact hq
end Go.Proofs.Ythnkecficihgfaa.K
