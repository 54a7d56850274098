/- MemLays walked. -/
import Derived.Test.YthnkecficihgfaaK3
import Derived.Test.YthnkecficihgfaaPureB
import Derived.StillTailTactics
import Derived.Deep.RegionWith
namespace Go.Proofs.Ythnkecficihgfaa.KL
open Go.RowKit Go.Proofs.YthnkecficihgfaaW.PrintWords Go.Proofs.YthnkecficihgfaaW.PrintLast Go.Proofs.YthnkecficihgfaaW.PrintMore Go.Proofs.Ythnkecficihgfaa.K Go.Proofs.Ythnkecficihgfaa.O
attribute [local go_sem] max2_int min2_int max_two min_two max_three min_three max_four min_four
set_option linter.unusedVariables false
set_option linter.unusedSimpArgs false

/-- The overlay behind the first i cells. -/
def ovF (n : Nat) (cs : List S47) : Nat → Ov
  | 0 => Ov.none
  | i + 1 => if 0 ≤ (rd_T47 cs (i : Int)).f0 ∧ (rd_T47 cs (i : Int)).f0 < n then (ovF n cs i).put (rd_T47 cs (i : Int)).f0.toNat (rd_T47 cs (i : Int)).f1 else ovF n cs i

theorem ovF_len (n : Nat) (cs : List S47) : ∀ i, (ovF n cs i).has.length = 64 ∧ (ovF n cs i).val.length = 64
  | 0 => none_ok
  | i + 1 => by
    have := ovF_len n cs i
    unfold ovF
    split
    · simpa [Ov.put] using this
    · exact this
theorem ovF_has (n : Nat) (cs : List S47) : ∀ (i p : Nat), (ovF n cs i).has.getD p false = true → p < n
  | 0, p => by
    intro h
    simp only [ovF, Ov.none, List.getD_eq_getElem?_getD, List.getElem?_replicate] at h
    split at h <;> simp at h
  | i + 1, p => by
    have ih := ovF_has n cs i p
    unfold ovF
    split
    · rename_i c
      simp only [Ov.put]
      intro h
      by_cases e : p = (rd_T47 cs (i : Int)).f0.toNat
      · omega
      · refine ih ?_
        have e' : (rd_T47 cs (i : Int)).f0.toNat ≠ p := fun x => e x.symm
        rw [List.getD_eq_getElem?_getD, List.getElem?_set_ne e', ← List.getD_eq_getElem?_getD] at h
        exact h
    · exact ih
theorem last_row (o : Ov) : ∀ (i p : Nat), PureA.lastL (o.row i) (p : Int) = if p < i ∧ o.has.getD p false = true then (o.val.getD p 0, true) else (0, false)
  | 0, p => by simp [Ov.row, PureA.lastL_nil]
  | i + 1, p => by
    have ih := last_row o i p
    unfold Ov.row
    by_cases c : o.has.getD i false = true
    · rw [if_pos c, PureA.lastL_snoc]
      by_cases h : p = i
      · subst h
        rw [if_pos rfl, if_pos ⟨by omega, c⟩]
      · rw [if_neg (fun h2 => h (by simp only at h2; omega)), ih]
        by_cases h1 : p < i ∧ o.has.getD p false = true
        · rw [if_pos h1, if_pos ⟨by omega, h1.2⟩]
        · rw [if_neg h1, if_neg (fun h2 => h1 ⟨by omega, h2.2⟩)]
    · rw [if_neg c, ih]
      by_cases h : p = i
      · subst h
        rw [if_neg (by omega), if_neg (fun h => c h.2)]
      · by_cases h1 : p < i ∧ o.has.getD p false = true
        · rw [if_pos h1, if_pos ⟨by omega, h1.2⟩]
        · rw [if_neg h1, if_neg (fun h2 => h1 ⟨by omega, h2.2⟩)]
theorem row_in (o : Ov) : ∀ i : Nat, ∀ c ∈ o.row i, ∃ p : Nat, p < i ∧ c.f0 = p ∧ o.has.getD p false = true
  | 0, c, h => by simp [Ov.row] at h
  | i + 1, c, h => by
    unfold Ov.row at h
    by_cases q : o.has.getD i false = true
    · rw [if_pos q] at h
      rcases List.mem_append.1 h with h | h
      · obtain ⟨p, h1, h2⟩ := row_in o i c h
        exact ⟨p, by omega, h2⟩
      · simp only [List.mem_singleton] at h
        subst h
        exact ⟨i, by omega, rfl, q⟩
    · rw [if_neg q] at h
      obtain ⟨p, h1, h2⟩ := row_in o i c h
      exact ⟨p, by omega, h2⟩

/-- What Put makes of a memory and an overlay's cells. -/
theorem lays_put (m : List Int) (o : Ov) (hm : m.length ≤ 64) (ho : ∀ p, o.has.getD p false = true → p < m.length) :
    ∃ k P, mem_Put.f k m (o.row 64) = some (P, 0) ∧ P.length = m.length ∧ ∀ i : Nat, i < m.length → rd P (i : Int) = if o.has.getD i false = true then o.val.getD i 0 else rd m (i : Int) := by
  have hl := o.row_len 64
  obtain ⟨k, hk⟩ := (PureA.put_val m (o.row 64) (by omega) (by omega)).rounds
  have hall : (o.row 64).all (PureA.inR m.length) = true := by
    rw [List.all_eq_true]
    intro c hc
    obtain ⟨p, h1, h2, h3⟩ := row_in o 64 c hc
    have := ho p h3
    simp [PureA.inR, h2]
    omega
  unfold PureA.putR at hk
  rw [if_pos hall] at hk
  refine ⟨k, _, hk, PureA.mix_len _ _, fun i hi => ?_⟩
  unfold PureA.mixR
  rw [PureA.tab_rd _ _ _ hi]
  unfold PureA.mixF
  by_cases c : o.has.getD i false = true
  · have e : PureA.lastL (o.row 64) (i : Int) = (o.val.getD i 0, true) := by rw [last_row, if_pos ⟨by omega, c⟩]
    rw [e, if_pos c]
    simp
  · have e : PureA.lastL (o.row 64) (i : Int) = (0, false) := by rw [last_row, if_neg (fun h => c h.2)]
    rw [e, if_neg c]
    simp

def TruePost (w : World) (e : Ending) (w' : World) : Prop := e = .returned (.bool true) ∧ Below w.heap.size w w'

set_option maxHeartbeats 400000 in
theorem lays_big0 (A0 : Option Addr) (c0 n : Nat) (v : Value) (w : World) (h : 64 < n) :
    Calls Try.prog 7 #[.slice A0 n c0, v] w (TruePost w) := by
  have h' : (64 : Int) < n := by omega
  go_enter Try.func7, Try.ntmps7
  go_wp2
  go_ret
  exact ⟨rfl, Below.refl _ _⟩
set_option maxHeartbeats 400000 in
theorem lays_big1 (A0 A1 : Option Addr) (c0 n c1 n1 : Nat) (w : World) (h : n ≤ 64) (h1 : 300 < n1) :
    Calls Try.prog 7 #[.slice A0 n c0, .slice A1 n1 c1] w (TruePost w) := by
  have h' : ¬ (64 : Int) < n := by omega
  have h1' : (300 : Int) < n1 := by omega
  go_enter Try.func7, Try.ntmps7
  go_wp2
  go_ret
  exact ⟨rfl, Below.refl _ _⟩

def LRel2 (m P : List Int) (o : Ov) (w : World) (bo : Nat) (Ap : Option Addr) (cp : Nat) (v9 : Value) (w' : World) : Prop :=
  ∃ i : Nat, i ≤ m.length ∧ v9 = .int .i64 i ∧ Aside0 (Holds w' bo o) ∧ Aside0 (Below w.heap.size w w') ∧ Aside0 (Kd.R (Kd.int .i64) 2 w' w.heap.size (fun _ => True) (.slice Ap P.length cp) P)

def LRel (m : List Int) (cs : List S47) (w : World) (bo : Nat) (v6 : Value) (w' : World) : Prop :=
  ∃ i : Nat, i ≤ cs.length ∧ v6 = .int .i64 i ∧ Aside0 (Holds w' bo (ovF m.length cs i)) ∧ Aside0 (Below w.heap.size w w')

set_option maxHeartbeats 2000000 in
set_option maxRecDepth 100000 in
theorem lays_main (A0 : Option Addr) (c0 : Nat) (m : List Int) (A1 : Option Addr) (c1 : Nat) (cs : List S47) (w : World) (hr0 : Kd.C (Kd.int .i64) w A0 m.length m) (hc0 : m.length ≤ c0) (hr1 : Kd.C k47 w A1 cs.length cs) (hc1 : cs.length ≤ c1) (h0 : m.length ≤ 64) (h1 : cs.length ≤ 300) :
    Calls Try.prog 7 #[.slice A0 m.length c0, .slice A1 cs.length c1] w (TruePost w) := by
  have HR0 := Aside0.mk hr0
  have HR1 := Aside0.mk hr1
  have HC0 := Aside0.mk hc0
  have HC1 := Aside0.mk hc1
  clear hr0 hr1 hc0 hc1
  have HB := Aside0.mk (Below.refl w.heap.size w)
  have h0' : ¬ (64 : Int) < m.length := by omega
  have h1' : ¬ (300 : Int) < cs.length := by omega
  go_enter Try.func7, Try.ntmps7
  go_wp2_with (first | ((with_reducible refine gate_dst (N := 5) rfl ?_); refine box_event ?hg (N := 5) ?hd (cs := Ov.none.cells) (t := 42) ?hr ?_; (case hd => rfl); (case hg => rfl); (case hr => (have hz := zero42; generalize Ov.none.cells = Z at *; first | (go_simp; done) | (go_simp; rfl))); intro bo hg w6 hbox hb; have n1_ := Aside0.mk (below_step HB.out hb); have n2_ := Aside0.mk (show Holds w6 bo Ov.none from ⟨hbox, none_ok⟩); have n3_ := Aside0.mk ((by rw [hg]; exact below_size HB.out) : w.heap.size ≤ bo); clear HB; have HB := n1_; have HH := n2_; have GB := n3_; clear n1_ n2_ n3_ hb hbox hg))
  go_loopw [6] (fun v6 w' => LRel m cs w bo v6 w') (fun v6 _ => cs.length - (intOf v6).toNat)
  case atStart => exact ⟨0, Nat.zero_le _, rfl, HH, HB⟩
  case round =>
    clear HH HB
    unfold LRel at hrel
    obtain ⟨i, hi, rfl, HH, HB⟩ := hrel
    by_cases hlt : i < cs.length
    · have p118 : 0 ≤ (i : Int) := by omega
      have q118 : (i : Int) < cs.length := by omega
      obtain ⟨ad, e118, hx0, hx1⟩ := at_T47 HR1.out i p118 q118
      cases e118
      replace hx0 := (HB.out.cell (World.block_lt_of_cell? w _ hx0)).trans hx0
      replace hx1 := (HB.out.cell (World.block_lt_of_cell? w _ hx1)).trans hx1
      have hov : ovF m.length cs (i + 1) = if 0 ≤ (rd_T47 cs (i : Int)).f0 ∧ (rd_T47 cs (i : Int)).f0 < m.length then (ovF m.length cs i).put (rd_T47 cs (i : Int)).f0.toNat (rd_T47 cs (i : Int)).f1 else ovF m.length cs i := rfl
      simp only [Int.toNat_natCast] at hx0 hx1
      generalize rd_T47 cs (i : Int) = c at *
      obtain ⟨cAt, cVal⟩ := c
      simp only at hx0 hx1 hov
      by_cases k1 : 0 ≤ cAt
      · by_cases k2 : cAt < m.length
        · rw [if_pos ⟨k1, k2⟩] at hov
          obtain ⟨a, rfl⟩ := Int.eq_ofNat_of_zero_le k1
          rw [Int.toNat_natCast] at hov
          have HO := Lib.hid hov
          clear hov
          have ha : a < 64 := by omega
          go_wp2
          go_still_tail 10, (by kernel_rfl)
          go_wp2_with fail
          refine (set_in bo (ovF m.length cs i) a cVal _ ⟨blk_drew HH.out.1, HH.out.2⟩ ha).mono ?_
          intro e w1 hs
          obtain ⟨he, hh, hg⟩ := hs
          subst he
          have n1_ := Aside0.mk hh
          have n2_ := Aside0.mk (pw_below_grown (below_drew1 HB.out) (some bo) (below_size (below_drew1 HB.out)) hg (fun k e => by injection e with e; subst e; exact GB.out))
          clear HH HB hh hg
          have HH := n1_
          have HB := n2_
          clear n1_ n2_
          go_wp2
          go_roundw
          case rel => exact ⟨i + 1, by omega, by go_num, ⟨by rw [HO.out]; exact HH.out⟩, HB⟩
          case measure => simp [intOf]; omega
        · rw [if_neg (fun h => k2 h.2)] at hov
          have HO := Lib.hid hov
          clear hov
          go_wp2
          go_roundw
          case rel => exact ⟨i + 1, by omega, by go_num, ⟨by rw [HO.out]; exact HH.out⟩, HB⟩
          case measure => simp [intOf]; omega
      · rw [if_neg (fun h => k1 h.1)] at hov
        have HO := Lib.hid hov
        clear hov
        go_wp2
        go_roundw
        case rel => exact ⟨i + 1, by omega, by go_num, ⟨by rw [HO.out]; exact HH.out⟩, HB⟩
        case measure => simp [intOf]; omega
    · have e : i = cs.length := by omega
      subst e
      clear hi hlt
      generalize ho : ovF m.length cs cs.length = o at *
      have HOV := Lib.hid ho
      clear ho
      go_wp2_with fail
      refine (cells_calls bo o _ HH.out).mono ?_
      intro e w1 hs
      obtain ⟨v0, he, hR, hb⟩ := hs
      subst he
      have n1_ := Aside0.mk (show Holds w1 bo o from ⟨blk_below HH.out.1 hb, HH.out.2⟩)
      have n2_ := Aside0.mk (below_step HB.out hb)
      have HD := Aside0.mk (Kd.R_lower hR (below_size HB.out))
      clear HH HB hb hR
      have HH := n1_
      have HB := n2_
      clear n1_ n2_
      go_wp2_with fail
      obtain ⟨Ad, cd, ed⟩ := Kd.R_slice HD.out
      subst ed
      obtain ⟨k, P, hk, hPl, hP⟩ := lays_put m o h0 (by have h := ovF_has m.length cs cs.length; rw [HOV.out] at h; exact h)
      refine (mem_Put.calls k A0 c0 m Ad cd (o.row 64) P 0 _ (Kd.C_below HR0.out HB.out) HC0.out (Kd.R_reads' HD.out).2.2 (Kd.R_reads' HD.out).2.1 hk).mono ?_
      intro e w2 hs
      obtain ⟨v1, he, hR, hb⟩ := hs
      subst he
      obtain ⟨Ap, cp, ep⟩ := Kd.R_slice hR
      subst ep
      have n1_ := Aside0.mk (show Holds w2 bo o from ⟨blk_below HH.out.1 hb, HH.out.2⟩)
      have n2_ := Aside0.mk (below_step HB.out hb)
      have HPR := Aside0.mk (Kd.R_lower hR (below_size HB.out))
      have HPV := Lib.hid hP
      have HPL := Lib.hid hPl
      have hpe : ((P.length : Int) == (m.length : Int)) = true := by simp [hPl]
      have hpe2 : ((P.length : Int) != (m.length : Int)) = false := by simp [hPl]
      have hpe3 : (P.length == m.length) = true := by simp [hPl]
      have hpe4 : (P.length != m.length) = false := by simp [hPl]
      clear HH HB hb hR HD hk hP hPl
      have HH := n1_
      have HB := n2_
      clear n1_ n2_
      go_wp2
      go_loopw [9] (fun v9 w' => LRel2 m P o w bo Ap cp v9 w') (fun v9 _ => m.length - (intOf v9).toNat)
      case atStart => exact ⟨0, Nat.zero_le _, rfl, HH, HB, HPR⟩
      case round =>
        clear HH HB HPR
        unfold LRel2 at hrel
        obtain ⟨i, hi, rfl, HH, HB, HPR⟩ := hrel
        by_cases hlt : i < m.length
        · have hi64 : i < 64 := by omega
          have p1 : (0 : Int) ≤ i := by omega
          have p2 : (i : Int) < m.length := by omega
          have p3 : (i : Int) < P.length := by have := HPL.out; omega
          have hv := HPV.out i hlt
          obtain ⟨ad, ea, hx⟩ := Kd.at_int HR0.out i p1 p2
          cases ea
          replace hx := (HB.out.cell (World.block_lt_of_cell? w _ hx)).trans hx
          obtain ⟨adp, eap, hy⟩ := Kd.at_int (Kd.R_reads' HPR.out).2.2 i p1 p3
          cases eap
          simp only [Int.toNat_natCast] at hx hy
          generalize rd m (i : Int) = mi at *
          generalize rd P (i : Int) = pi at *
          have hget := Lib.hid (get_in bo o i wr HH.out hi64)
          generalize o.val.getD i 0 = vi at *
          cases hb : o.has.getD i false with
          | true =>
            rw [hb] at hv hget
            rw [if_pos rfl] at hv
            subst hv
            clear hb
            go_wp2_with fail
            refine (hget.out).mono ?_
            intro e w3 hs
            obtain ⟨he, hw⟩ := hs
            subst he
            subst hw
            clear hget
            go_wp2
            go_quiet (fail)
            go_wp2
            go_roundw
            case rel => exact ⟨i + 1, by omega, by go_num, ⟨⟨blk_drewN HH.out.1 _, HH.out.2⟩⟩, ⟨pw_below_drewN HB.out _⟩, ⟨Kd.R_drewN HPR.out _⟩⟩
            case measure => simp [intOf]; omega
          | false =>
            rw [hb] at hv hget
            rw [if_neg (by decide)] at hv
            subst hv
            clear hb
            go_wp2_with fail
            refine (hget.out).mono ?_
            intro e w3 hs
            obtain ⟨he, hw⟩ := hs
            subst he
            subst hw
            clear hget
            go_wp2
            go_quiet (fail)
            go_wp2
            go_roundw
            case rel => exact ⟨i + 1, by omega, by go_num, ⟨⟨blk_drewN HH.out.1 _, HH.out.2⟩⟩, ⟨pw_below_drewN HB.out _⟩, ⟨Kd.R_drewN HPR.out _⟩⟩
            case measure => simp [intOf]; omega
        · have e : i = m.length := by omega
          subst e
          go_wp2_with fail
          obtain ⟨ka, hka⟩ := PureA.alive_val.rounds
          refine (outriderlaw13_alive.calls ka true _ hka).mono ?_
          intro e w3 hs
          obtain ⟨he, hb⟩ := hs
          subst he
          have n1_ := Aside0.mk (below_step HB.out hb)
          clear HH HB HPR hb hka
          go_wp2
          go_ret
          exact ⟨rfl, n1_.out⟩

theorem lays_calls (A0 : Option Addr) (c0 : Nat) (m : List Int) (A1 : Option Addr) (c1 : Nat) (cs : List S47) (w : World) (hr0 : Kd.C (Kd.int .i64) w A0 m.length m) (hc0 : m.length ≤ c0) (hr1 : Kd.C k47 w A1 cs.length cs) (hc1 : cs.length ≤ c1) :
    Calls Try.prog 7 #[.slice A0 m.length c0, .slice A1 cs.length c1] w fun e w' => e = .returned (.bool true) ∧ Below w.heap.size w w' := by
  have h : Calls Try.prog 7 #[.slice A0 m.length c0, .slice A1 cs.length c1] w (TruePost w) := by
    by_cases k1 : 64 < m.length
    · exact lays_big0 _ _ _ _ w k1
    · by_cases k2 : 300 < cs.length
      · exact lays_big1 _ _ _ _ _ _ w (by omega) k2
      · exact lays_main A0 c0 m A1 c1 cs w hr0 hc0 hr1 hc1 (by omega) (by omega)
  exact h.mono fun e w' h => h
end Go.Proofs.Ythnkecficihgfaa.KL
