/- ShowWrites: the reference's Text, and the law's function, walked by hand. -/
import Derived.Test.YtobkdmmnbnpemaaXWM2
import Derived.Test.YtobkdmmnbnpemaaXWS2
import Derived.Test.YtobkdmmnbnpemaaXWPS
import Derived.Test.YtobkdmmnbnpemaaXWE1
namespace Go.Proofs.Ytobkdmmnbnpemaa.K
open Go.RowKit Go.Proofs.YtobkdmmnbnpemaaW.PrintWords Go.Proofs.YtobkdmmnbnpemaaW.PrintLast Go.Proofs.YtobkdmmnbnpemaaW.PrintMore
attribute [local go_sem] max2_int min2_int max_two min_two max_three min_three max_four min_four
set_option linter.unusedVariables false
set_option linter.unusedSimpArgs false
def TxtSays (l : List S41) (s : ByteArray) (er : Int) : Prop :=
  (rightB l = false ∧ s = ⟨#[]⟩ ∧ er = 43) ∨ (rightB l = true ∧ 8192 < (lTx l 0).size ∧ s = ⟨#[]⟩ ∧ er = 30) ∨ (rightB l = true ∧ ¬ 8192 < (lTx l 0).size ∧ s = lTx l 0 ∧ er = 0)
theorem txt_says (l : List S41) : ∃ s er, TxtSays l s er := by
  cases h : rightB l with
  | false => exact ⟨_, _, .inl ⟨h, rfl, rfl⟩⟩
  | true =>
    by_cases q : 8192 < (lTx l 0).size
    · exact ⟨_, _, .inr (.inl ⟨h, q, rfl, rfl⟩)⟩
    · exact ⟨_, _, .inr (.inr ⟨h, q, rfl, rfl⟩)⟩
theorem lst_size (x : ByteArray) : (lst x).length = x.size := lst_len x
theorem right_open {l : List S41} (h : rightB l = true) : l.all (fitSt (fitB 12)) = true ∧ cntB l ≤ 600 := by
  rw [rightB_eq, Bool.and_eq_true, decide_eq_true_eq] at h
  exact h
theorem text_L (l : List S41) (A : Option Addr) (c : Nat) (w : World) (hC : Kd.C k41 w A l.length l) (hc : l.length ≤ c) (s : ByteArray) (er : Int) (h : TxtSays l s er) :
    Calls Try.prog 16 #[.slice A l.length c] w fun r w' => r = .returned (.tuple #[.string s, .int .i64 er]) ∧ Below w.heap.size w w' := by
  have big : rightB l = true → ((8192 < (lst (lTx l 0)).length ∧ s = ⟨#[]⟩ ∧ er = 30) ∨ (¬ 8192 < (lst (lTx l 0)).length ∧ s = bs (lst (lTx l 0)) ∧ er = 0)) → Calls Try.prog 16 #[.slice A l.length c] w (TPost s er w) := by
    intro hr hres
    obtain ⟨h1, h2⟩ := right_open hr
    obtain ⟨K, hK⟩ : ∃ K : Nat, ∀ e, cntE e ≤ 1000 → fitE e = true → exT K e = some (txt e) := ⟨70000, fun e h1 h2 => ex_txt_at e (by omega) h2 70000 (by omega)⟩
    have hs := lsizes 12 l h1 0 (by omega)
    have hl := len_cntB l
    exact text_calls 13 (by omega) (wG K 13).1 (wG_ok K 13).1 l l.length A c (lst (lTx l 0)) w (wr_text K hK l hr) rfl hC hc (by omega) (by rw [lst_size]; omega) hr s er hres
  rcases h with ⟨h1, rfl, rfl⟩ | ⟨h1, h2, rfl, rfl⟩ | ⟨h1, h2, rfl, rfl⟩
  · exact text_bad l l.length A c w rfl hC hc h1
  · exact big h1 (.inl ⟨by rw [lst_size]; exact h2, rfl, rfl⟩)
  · exact big h1 (.inr ⟨by rw [lst_size]; exact h2, (bs_lst _).symm, rfl⟩)
theorem lin_L (l : List S41) (A : Option Addr) (c : Nat) (w : World) (hC : Kd.C k41 w A l.length l) (hc : l.length ≤ c) (h : rightB l = true) :
    Calls Try.prog 40 #[.slice A l.length c, .string ⟨#[]⟩] w fun r w' => r = .returned (.string (lTx l 0)) ∧ Below w.heap.size w w' := by
  obtain ⟨h1, h2⟩ := right_open h
  exact (lin_ok 12).1.use l A c 0 ⟨#[]⟩ w rfl (by omega) h1 (by omega) hC hc
set_option maxHeartbeats 8000000 in
set_option maxRecDepth 100000 in
theorem rtext_L (l : List S41) (A : Option Addr) (c : Nat) (w : World) (hC : Kd.C k41 w A l.length l) (hc : l.length ≤ c) (hn : cntB l ≤ 1000000) (s : ByteArray) (er : Int) (h : TxtSays l s er) :
    Calls Try.prog 17 #[.slice A l.length c] w fun r w' => r = .returned (.tuple #[.string s, .int .i64 er]) ∧ Below w.heap.size w w' := by
  have HB := Aside0.mk (Below.refl w.heap.size w)
  have HC := Aside0.mk hC
  have HCC := Aside0.mk hc
  have HN := Aside0.mk hn
  clear hC hc hn
  rcases h with ⟨h1, rfl, rfl⟩ | ⟨h1, h2, rfl, rfl⟩ | ⟨h1, h2, rfl, rfl⟩
  · have H1 := Aside0.mk h1
    clear h1
    go_enter Try.func17, Try.ntmps17
    go_wp2_with (first | (go_at_call 22; (with_reducible refine (rright_L l A c _ (Kd.C_below HC.out HB.out) HCC.out HN.out false H1.out).mono ?_); rintro r wn ⟨rfl, hb⟩; have n0_ := Aside0.mk (below_step HB.out hb); clear HB hb; have HB := n0_; clear n0_))
    go_ret2
    exact ⟨rfl, by repeat (first | (with_reducible first | exact HB.out | apply below_alloc | apply pw_below_drewN | apply below_drew1) | exact HB.out)⟩
  · have H1 := Aside0.mk h1
    have q : decide ((8192 : Int) < ((lTx l 0).size : Int)) = true := decide_eq_true (by omega)
    clear h1 h2
    go_enter Try.func17, Try.ntmps17
    go_wp2_with (first | (go_at_call 22; (with_reducible refine (rright_L l A c _ (Kd.C_below HC.out HB.out) HCC.out HN.out true H1.out).mono ?_); rintro r wn ⟨rfl, hb⟩; have n0_ := Aside0.mk (below_step HB.out hb); clear HB hb; have HB := n0_; clear n0_) | (go_at_call 40; (with_reducible refine (lin_L l A c _ (Kd.C_below HC.out HB.out) HCC.out H1.out).mono ?_); rintro r wn ⟨rfl, hb⟩; have n0_ := Aside0.mk (below_step HB.out hb); clear HB hb; have HB := n0_; clear n0_))
    go_ret2
    exact ⟨rfl, by repeat (first | (with_reducible first | exact HB.out | apply below_alloc | apply pw_below_drewN | apply below_drew1) | exact HB.out)⟩
  · have H1 := Aside0.mk h1
    have q : decide ((8192 : Int) < ((lTx l 0).size : Int)) = false := decide_eq_false (by omega)
    clear h1 h2
    go_enter Try.func17, Try.ntmps17
    go_wp2_with (first | (go_at_call 22; (with_reducible refine (rright_L l A c _ (Kd.C_below HC.out HB.out) HCC.out HN.out true H1.out).mono ?_); rintro r wn ⟨rfl, hb⟩; have n0_ := Aside0.mk (below_step HB.out hb); clear HB hb; have HB := n0_; clear n0_) | (go_at_call 40; (with_reducible refine (lin_L l A c _ (Kd.C_below HC.out HB.out) HCC.out H1.out).mono ?_); rintro r wn ⟨rfl, hb⟩; have n0_ := Aside0.mk (below_step HB.out hb); clear HB hb; have HB := n0_; clear n0_))
    go_ret2
    exact ⟨rfl, by repeat (first | (with_reducible first | exact HB.out | apply below_alloc | apply pw_below_drewN | apply below_drew1) | exact HB.out)⟩
theorem alive_W (W : World) : Calls Try.prog 18 #[] W fun r w' => r = .returned (.bool true) ∧ Below W.heap.size W w' := alive_calls W
set_option maxHeartbeats 8000000 in
set_option maxRecDepth 100000 in
theorem writes_walk (l : List S41) (A : Option Addr) (c : Nat) (w : World) (hC : Kd.C k41 w A l.length l) (hc : l.length ≤ c) (hn : cntB l ≤ 1000000) :
    Calls Try.prog 3 #[.slice A l.length c] w fun r w' => r = .returned (.bool true) ∧ Below w.heap.size w w' := by
  have HB := Aside0.mk (Below.refl w.heap.size w)
  have HC := Aside0.mk hC
  have HCC := Aside0.mk hc
  have HN := Aside0.mk hn
  clear hC hc hn
  by_cases q0 : 5000 < cntB l
  · have Q0 := Aside0.mk (decide_eq_true q0)
    clear q0
    go_enter Try.func3, Try.ntmps3
    go_wp2_with (first | (go_at_call 15; (with_reducible refine (great_L l A c _ (Kd.C_below HC.out HB.out) HCC.out HN.out true Q0.out).mono ?_); rintro r wn ⟨rfl, hb⟩; have n0_ := Aside0.mk (below_step HB.out hb); clear HB hb; have HB := n0_; clear n0_))
    go_ret
    exact ⟨rfl, by repeat (first | (with_reducible first | exact HB.out | apply below_alloc | apply pw_below_drewN | apply below_drew1) | exact HB.out)⟩
  · have Q0 := Aside0.mk (decide_eq_false q0)
    clear q0
    obtain ⟨s, er, hs⟩ := txt_says l
    have HS := Aside0.mk hs
    clear hs
    have e1 : (s.toList == s.toList) = true := beq_self_eq_true _
    have e2 : (er == er) = true := beq_self_eq_true _
    go_enter Try.func3, Try.ntmps3
    go_wp2_with (first | (go_at_call 15; (with_reducible refine (great_L l A c _ (Kd.C_below HC.out HB.out) HCC.out HN.out false Q0.out).mono ?_); rintro r wn ⟨rfl, hb⟩; have n0_ := Aside0.mk (below_step HB.out hb); clear HB hb; have HB := n0_; clear n0_) | (go_at_call 16; (with_reducible refine (text_L l A c _ (Kd.C_below HC.out HB.out) HCC.out s er HS.out).mono ?_); rintro r wn ⟨rfl, hb⟩; have n0_ := Aside0.mk (below_step HB.out hb); clear HB hb; have HB := n0_; clear n0_) | (go_at_call 17; (with_reducible refine (rtext_L l A c _ (Kd.C_below HC.out HB.out) HCC.out HN.out s er HS.out).mono ?_); rintro r wn ⟨rfl, hb⟩; have n0_ := Aside0.mk (below_step HB.out hb); clear HB hb; have HB := n0_; clear n0_) | (go_at_call 18; (with_reducible refine (alive_W _).mono ?_); rintro r wn ⟨rfl, hb⟩; have n0_ := Aside0.mk (below_step HB.out hb); clear HB hb; have HB := n0_; clear n0_))
    go_ret
    exact ⟨rfl, by repeat (first | (with_reducible first | exact HB.out | apply below_alloc | apply pw_below_drewN | apply below_drew1) | exact HB.out)⟩
end Go.Proofs.Ytobkdmmnbnpemaa.K
