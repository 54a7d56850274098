/- TreeRights' function, walked by hand. -/
import Derived.Test.YtobkdmmnbnpemaaXTM2
import Derived.Test.YtobkdmmnbnpemaaXTPR6
import Derived.Test.YtobkdmmnbnpemaaXTQA
import Derived.Test.YtobkdmmnbnpemaaXTP11
namespace Go.Proofs.Ytobkdmmnbnpemaa.K
open Go.RowKit Go.Proofs.YtobkdmmnbnpemaaW.PrintWords Go.Proofs.YtobkdmmnbnpemaaW.PrintLast Go.Proofs.YtobkdmmnbnpemaaW.PrintMore
attribute [local go_sem] max2_int min2_int max_two min_two max_three min_three max_four min_four
set_option linter.unusedVariables false
set_option linter.unusedSimpArgs false
set_option maxHeartbeats 8000000 in
set_option maxRecDepth 100000 in
theorem rights_walk (l m : List S41) (A : Option Addr) (c : Nat) (B : Option Addr) (d : Nat) (w : World) (hA : Kd.C k41 w A l.length l) (hc : l.length ≤ c) (hB : Kd.C k41 w B m.length m) (hd : m.length ≤ d) (hl : cntB l ≤ 1000000) (hm : cntB m ≤ 1000000) :
    Calls Try.prog 11 #[.slice A l.length c, .slice B m.length d] w fun r w' => r = .returned (.bool true) ∧ Below w.heap.size w w' := by
  have HD := Aside0.mk (Below.refl w.heap.size w)
  have HA := Aside0.mk hA
  have HB := Aside0.mk hB
  have HC := Aside0.mk hc
  have HCD := Aside0.mk hd
  have HL := Aside0.mk hl
  have HM := Aside0.mk hm
  clear hA hB hc hd hl hm
  go_enter Try.func11, Try.ntmps11
  go_wp2_with fail
  rcases hq : decide (5000 < cntB l) with _ | _
  rotate_left
  · have HQ := Aside0.mk hq
    clear hq
    (with_reducible refine (great_L l A c w HA.out HC.out HL.out true HQ.out).mono ?_)
    rintro r w1 ⟨rfl, hb⟩
    have n0_ := Aside0.mk (below_step HD.out hb)
    clear HD hb
    have HD := n0_
    clear n0_
    go_wp2
    exact ⟨rfl, _, by simp [results, Try.results11, go_sem], rfl, HD.out⟩
  have HQ := Aside0.mk hq
  clear hq
  (with_reducible refine (great_L l A c w HA.out HC.out HL.out false HQ.out).mono ?_)
  rintro r w1 ⟨rfl, hb⟩
  have n0_ := Aside0.mk (below_step HD.out hb)
  clear HD hb
  have HD := n0_
  clear n0_
  go_wp2_with fail
  rcases hq : decide (5000 < cntB m) with _ | _
  rotate_left
  · have HQ2 := Aside0.mk hq
    clear hq
    (with_reducible refine (great_L m B d w1 (Kd.C_below HB.out HD.out) HCD.out HM.out true HQ2.out).mono ?_)
    rintro r w2 ⟨rfl, hb⟩
    have n0_ := Aside0.mk (below_step HD.out hb)
    clear HD hb
    have HD := n0_
    clear n0_
    go_wp2
    exact ⟨rfl, _, by simp [results, Try.results11, go_sem], rfl, HD.out⟩
  have HQ2 := Aside0.mk hq
  clear hq
  (with_reducible refine (great_L m B d w1 (Kd.C_below HB.out HD.out) HCD.out HM.out false HQ2.out).mono ?_)
  rintro r w2 ⟨rfl, hb⟩
  have n0_ := Aside0.mk (below_step HD.out hb)
  clear HD hb
  have HD := n0_
  clear n0_
  have f1 : (rightB l == rightB l) = true := beq_self_eq_true _
  have f2 : (((cntB l : Nat) : Int) == ((cntB l : Nat) : Int)) = true := beq_self_eq_true _
  have f3 : (eqSs l m == eqSs l m) = true := beq_self_eq_true _
  go_wp2_with fail
  (with_reducible refine (right_calls A c l w2 (Kd.C_below HA.out HD.out) HC.out (rightB l) rfl).mono ?_)
  rintro r w3 ⟨rfl, hb⟩
  have n0_ := Aside0.mk (below_step HD.out hb)
  clear HD hb
  have HD := n0_
  clear n0_
  go_wp2_with fail
  (with_reducible refine (rright_L l A c w3 (Kd.C_below HA.out HD.out) HC.out HL.out (rightB l) rfl).mono ?_)
  rintro r w4 ⟨rfl, hb⟩
  have n0_ := Aside0.mk (below_step HD.out hb)
  clear HD hb
  have HD := n0_
  clear n0_
  go_wp2_with fail
  (with_reducible refine (tnodes_L l A c w4 (Kd.C_below HA.out HD.out) HC.out HL.out).mono ?_)
  rintro r w5 ⟨rfl, hb⟩
  have n0_ := Aside0.mk (below_step HD.out hb)
  clear HD hb
  have HD := n0_
  clear n0_
  go_wp2_with fail
  (with_reducible refine (nodes_L l A c w5 (Kd.C_below HA.out HD.out) HC.out HL.out).mono ?_)
  rintro r w6 ⟨rfl, hb⟩
  have n0_ := Aside0.mk (below_step HD.out hb)
  clear HD hb
  have HD := n0_
  clear n0_
  go_wp2_with fail
  (with_reducible refine (same_L l m A c B d (eqSs l m) w6 (Kd.C_below HA.out HD.out) (Kd.C_below HB.out HD.out) rfl).mono ?_)
  rintro r w7 ⟨rfl, hb⟩
  have n0_ := Aside0.mk (below_step HD.out hb)
  clear HD hb
  have HD := n0_
  clear n0_
  go_wp2_with fail
  (with_reducible refine (rsame_L l m A c B d (eqSs l m) w7 (Kd.C_below HA.out HD.out) (Kd.C_below HB.out HD.out) rfl).mono ?_)
  rintro r w8 ⟨rfl, hb⟩
  have n0_ := Aside0.mk (below_step HD.out hb.below)
  clear HD hb
  have HD := n0_
  clear n0_
  go_wp2_with fail
  (with_reducible refine (same_L l l A c A c true w8 (Kd.C_below HA.out HD.out) (Kd.C_below HA.out HD.out) (eqSs_refl l)).mono ?_)
  rintro r w9 ⟨rfl, hb⟩
  have n0_ := Aside0.mk (below_step HD.out hb)
  clear HD hb
  have HD := n0_
  clear n0_
  go_wp2_with fail
  (with_reducible refine (alive_L w9).mono ?_)
  rintro r w10 ⟨rfl, hb⟩
  have n0_ := Aside0.mk (below_step HD.out hb)
  clear HD hb
  have HD := n0_
  clear n0_
  go_wp2
  exact ⟨rfl, _, by simp [results, Try.results11, go_sem], rfl, HD.out⟩
end Go.Proofs.Ytobkdmmnbnpemaa.K
