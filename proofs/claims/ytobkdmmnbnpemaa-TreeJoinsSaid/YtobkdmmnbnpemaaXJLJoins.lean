/- TreeJoins' function, walked by hand. -/
import Derived.Test.YtobkdmmnbnpemaaXJAP
import Derived.Test.YtobkdmmnbnpemaaXJPR6
import Derived.Test.YtobkdmmnbnpemaaXJPR7
import Derived.Test.YtobkdmmnbnpemaaXJQA
import Derived.Test.YtobkdmmnbnpemaaXJPD
import Derived.Test.YtobkdmmnbnpemaaXJPE
namespace Go.Proofs.Ytobkdmmnbnpemaa.K
open Go.RowKit Go.Proofs.YtobkdmmnbnpemaaW.PrintWords Go.Proofs.YtobkdmmnbnpemaaW.PrintLast Go.Proofs.YtobkdmmnbnpemaaW.PrintMore
attribute [local go_sem] max2_int min2_int max_two min_two max_three min_three max_four min_four
set_option linter.unusedVariables false
set_option linter.unusedSimpArgs false
def JP (w : World) (e : Ending) (w' : World) : Prop := e = .returned (.bool true) ∧ Below w.heap.size w w'
theorem parse_any (s : ByteArray) (w : World) : Calls Try.prog 25 #[.string s] w fun e w' => ∃ A n c at_ er, e = .returned (.tuple #[.slice A n c, .int .i64 at_, .int .i64 er]) ∧ Below w.heap.size w w' := by
  refine (parse_V s w).mono ?_
  intro e w' h; rcases hr : parV s with ⟨er, at_⟩ | l
  · rw [hr] at h
    obtain ⟨h1, h2⟩ := h.err; exact ⟨_, _, _, _, _, h1, h2⟩
  · rw [hr] at h
    obtain ⟨A, c, h1, _, _, h2⟩ := h.ok; exact ⟨_, _, _, _, _, h1, h2⟩
set_option maxHeartbeats 1000000 in
theorem joins_g1 (s t : ByteArray) (w : World) (h : 8192 < s.size) : Calls Try.prog 9 #[.string s, .string t] w (JP w) := by
  have HB := A_0 (Below.refl w.heap.size w); have h' : (8192 : Int) < (s.size : Int) := by omega
  go_enter Try.func9, Try.ntmps9
  go_wp2
  go_ret
  exact ⟨rfl, Below.refl _ _⟩
set_option maxHeartbeats 1000000 in
theorem joins_g2 (s t : ByteArray) (w : World) (h0 : ¬ 8192 < s.size) (h : 8192 < t.size) : Calls Try.prog 9 #[.string s, .string t] w (JP w) := by
  have g0 : decide ((8192 : Int) < (s.size : Int)) = false := decide_eq_false (by omega); have h' : (8192 : Int) < (t.size : Int) := by omega
  go_enter Try.func9, Try.ntmps9
  go_wp2
  go_ret
  exact ⟨rfl, Below.refl _ _⟩
set_option maxHeartbeats 1000000 in
theorem joins_g3 (s t : ByteArray) (w : World) (h0 : ¬ 8192 < s.size) (h1 : ¬ 8192 < t.size) (h : 8192 < s.size + 1 + t.size) : Calls Try.prog 9 #[.string s, .string t] w (JP w) := by
  have g0 : decide ((8192 : Int) < (s.size : Int)) = false := decide_eq_false (by omega); have g1 : decide ((8192 : Int) < (t.size : Int)) = false := decide_eq_false (by omega); have h' : (8192 : Int) < (s.size : Int) + 1 + (t.size : Int) := by omega
  have b0 : (s.size : Int) ≤ 8192 := by omega
  have b1 : (t.size : Int) ≤ 8192 := by omega
  go_enter Try.func9, Try.ntmps9
  go_wp2
  go_ret
  exact ⟨rfl, Below.refl _ _⟩
set_option maxHeartbeats 4000000 in
set_option maxRecDepth 100000 in
theorem joins_e1 (s t : ByteArray) (er a : Int) (h : s.size + 1 + t.size ≤ 8192) (hr : parV s = .error (er, a)) (he : er ≠ 0) (w : World) : Calls Try.prog 9 #[.string s, .string t] w (JP w) := by
  have g0 : decide ((8192 : Int) < (s.size : Int)) = false := decide_eq_false (by omega); have g1 : decide ((8192 : Int) < (t.size : Int)) = false := decide_eq_false (by omega); have g2 : decide ((8192 : Int) < (s.size : Int) + 1 + (t.size : Int)) = false := decide_eq_false (by omega); have b0 : (s.size : Int) ≤ 8192 := by omega
  have b1 : (t.size : Int) ≤ 8192 := by omega
  have d0 : (er != 0) = true := bne_iff_ne.2 he; have HP := A_0 (fun W => parse_V s W); rw [hr] at HP; have q2 := Lib.hid (fun W => parse_any t W); have q3 := Lib.hid (fun W => parse_any (s ++ ⟨#[10]⟩ ++ t) W); have HB := A_0 (Below.refl w.heap.size w); clear he h hr
  go_enter Try.func9, Try.ntmps9
  go_wp2_with fail
  (with_reducible refine (HP.out _).mono ?_)
  rintro r w1 hp; obtain ⟨rfl, hb⟩ := hp.err; have n0_ := A_0 (below_step HB.out hb); clear HB hb hp HP; have HB := n0_; clear n0_
  go_wp2_with fail
  (with_reducible refine (q2.out _).mono ?_)
  rintro r w2 ⟨A2, n2, c2, i2, f2, rfl, hb⟩; have n0_ := A_0 (below_step HB.out hb); clear HB hb q2; have HB := n0_; clear n0_
  go_wp2_with fail
  (with_reducible refine (q3.out _).mono ?_)
  rintro r w3 ⟨A3, n3, c3, i3, f3, rfl, hb⟩; have n0_ := A_0 (below_step HB.out hb); clear HB hb q3; have HB := n0_; clear n0_
  go_wp2_with fail
  (with_reducible refine (alive_LV _).mono ?_)
  rintro r w4 ⟨rfl, hb⟩; have n0_ := A_0 (below_step HB.out hb); clear HB hb
  go_wp2
  exact z_5
set_option maxHeartbeats 4000000 in
set_option maxRecDepth 100000 in
theorem joins_e2 (s t : ByteArray) (l : List S41) (er a : Int) (h : s.size + 1 + t.size ≤ 8192) (hs : parV s = .ok l) (hr : parV t = .error (er, a)) (he : er ≠ 0) (w : World) : Calls Try.prog 9 #[.string s, .string t] w (JP w) := by
  have g0 : decide ((8192 : Int) < (s.size : Int)) = false := decide_eq_false (by omega); have g1 : decide ((8192 : Int) < (t.size : Int)) = false := decide_eq_false (by omega); have g2 : decide ((8192 : Int) < (s.size : Int) + 1 + (t.size : Int)) = false := decide_eq_false (by omega); have b0 : (s.size : Int) ≤ 8192 := by omega
  have b1 : (t.size : Int) ≤ 8192 := by omega
  have d0 : (er != 0) = true := bne_iff_ne.2 he; have q1 := Lib.hid (fun W => parse_V s W); rw [hs] at q1; have q2 := Lib.hid (fun W => parse_V t W); rw [hr] at q2; have q3 := Lib.hid (fun W => parse_any (s ++ ⟨#[10]⟩ ++ t) W); have HB := A_0 (Below.refl w.heap.size w); clear he h hr hs
  go_enter Try.func9, Try.ntmps9
  go_wp2_with fail
  (with_reducible refine (q1.out _).mono ?_)
  rintro r w1 hp; obtain ⟨A1, c1, rfl, hF, hc, hb⟩ := hp.ok; have n0_ := A_0 (below_step HB.out hb); clear HB hb hp q1 hF hc; have HB := n0_; clear n0_
  go_wp2_with fail
  (with_reducible refine (q2.out _).mono ?_)
  rintro r w2 hp; obtain ⟨rfl, hb⟩ := hp.err; have n0_ := A_0 (below_step HB.out hb); clear HB hb q2 hp; have HB := n0_; clear n0_
  go_wp2_with fail
  (with_reducible refine (q3.out _).mono ?_)
  rintro r w3 ⟨A3, n3, c3, i3, f3, rfl, hb⟩; have n0_ := A_0 (below_step HB.out hb); clear HB hb q3; have HB := n0_; clear n0_
  go_wp2_with fail
  (with_reducible refine (alive_LV _).mono ?_)
  rintro r w4 ⟨rfl, hb⟩; have n0_ := A_0 (below_step HB.out hb); clear HB hb
  go_wp2
  exact z_5
set_option maxHeartbeats 4000000 in
set_option maxRecDepth 100000 in
theorem joins_many (s t : ByteArray) (l m : List S41) (a : Int) (h : s.size + 1 + t.size ≤ 8192) (hs : parV s = .ok l) (ht : parV t = .ok m) (hn : cntB l ≤ 600) (hm : cntB m ≤ 600) (hq : 600 < cntB l + cntB m) (hr : parV (s ++ ⟨#[10]⟩ ++ t) = .error (42, a)) (w : World) : Calls Try.prog 9 #[.string s, .string t] w (JP w) := by
  have g0 : decide ((8192 : Int) < (s.size : Int)) = false := decide_eq_false (by omega); have g1 : decide ((8192 : Int) < (t.size : Int)) = false := decide_eq_false (by omega); have g2 : decide ((8192 : Int) < (s.size : Int) + 1 + (t.size : Int)) = false := decide_eq_false (by omega); have b0 : (s.size : Int) ≤ 8192 := by omega
  have b1 : (t.size : Int) ≤ 8192 := by omega
  have q1 := Lib.hid (fun W => parse_V s W); rw [hs] at q1; have q2 := Lib.hid (fun W => parse_V t W); rw [ht] at q2; have q3 := Lib.hid (fun W => parse_V (s ++ ⟨#[10]⟩ ++ t) W); rw [hr] at q3; have HN := A_0 (show cntB l ≤ 1000000 by omega)
  have HM := A_0 (show cntB m ≤ 1000000 by omega)
  have x0 : ((cntB l : Nat) : Int) ≤ 600 := by omega
  have x1 : ((cntB m : Nat) : Int) ≤ 600 := by omega
  have x2 : decide ((600 : Int) < ((cntB l : Nat) : Int) + ((cntB m : Nat) : Int)) = true := decide_eq_true (by omega); have HB := A_0 (Below.refl w.heap.size w); clear h hr hs ht hn hm hq
  go_enter Try.func9, Try.ntmps9
  go_wp2_with fail
  (with_reducible refine (q1.out _).mono ?_)
  rintro r w1 hp; obtain ⟨A1, c1, rfl, hF, hc, hb⟩ := hp.ok; have HF1 := A_0 (Kd.F_now hF); have HC1 := A_0 hc; have n0_ := A_0 (below_step HB.out hb); clear HB hb hp q1 hF hc; have HB := n0_; clear n0_
  go_wp2_with fail
  (with_reducible refine (q2.out _).mono ?_)
  rintro r w2 hp; obtain ⟨A2, c2, rfl, hF, hc, hb⟩ := hp.ok; have HF2 := A_0 (Kd.F_now hF); have HC2 := A_0 hc; have n1_ := A_0 (Kd.C_below HF1.out hb); have n0_ := A_0 (below_step HB.out hb); clear HB hb hp q2 hF hc HF1; have HB := n0_; have HF1 := n1_; clear n0_ n1_
  go_wp2_with fail
  (with_reducible refine (q3.out _).mono ?_)
  rintro r w3 hp; obtain ⟨rfl, hb⟩ := hp.err; have n0_ := A_0 (below_step HB.out hb); have n1_ := A_0 (Kd.C_below HF1.out hb); have n2_ := A_0 (Kd.C_below HF2.out hb); clear HB hb q3 hp HF1 HF2; have HB := n0_; have HF1 := n1_; have HF2 := n2_; clear n0_ n1_ n2_
  go_wp2_with fail
  (with_reducible refine (tnodes_L l A1 c1 _ HF1.out HC1.out HN.out).mono ?_)
  rintro r w4 ⟨rfl, hb⟩; have n0_ := A_0 (below_step HB.out hb); have n2_ := A_0 (Kd.C_below HF2.out hb); clear HB hb HF1 HF2; have HB := n0_; have HF2 := n2_; clear n0_ n2_
  go_wp2_with fail
  (with_reducible refine (tnodes_L m A2 c2 _ HF2.out HC2.out HM.out).mono ?_)
  rintro r w5 ⟨rfl, hb⟩; have n0_ := A_0 (below_step HB.out hb); clear HB hb HF2; have HB := n0_; clear n0_
  go_wp2_with fail
  (with_reducible refine (alive_LV _).mono ?_)
  rintro r w6 ⟨rfl, hb⟩; have n0_ := A_0 (below_step HB.out hb); clear HB hb
  go_wp2
  exact z_5
set_option maxHeartbeats 4000000 in
set_option maxRecDepth 100000 in
theorem joins_ok (s t : ByteArray) (l m : List S41) (h : s.size + 1 + t.size ≤ 8192) (hs : parV s = .ok l) (ht : parV t = .ok m) (hq : cntB l + cntB m ≤ 600) (hr : parV (s ++ ⟨#[10]⟩ ++ t) = .ok (l ++ m)) (w : World) : Calls Try.prog 9 #[.string s, .string t] w (JP w) := by
  have g0 : decide ((8192 : Int) < (s.size : Int)) = false := decide_eq_false (by omega); have g1 : decide ((8192 : Int) < (t.size : Int)) = false := decide_eq_false (by omega); have g2 : decide ((8192 : Int) < (s.size : Int) + 1 + (t.size : Int)) = false := decide_eq_false (by omega); have b0 : (s.size : Int) ≤ 8192 := by omega
  have b1 : (t.size : Int) ≤ 8192 := by omega
  have q1 := Lib.hid (fun W => parse_V s W); rw [hs] at q1; have q2 := Lib.hid (fun W => parse_V t W); rw [ht] at q2; have q3 := Lib.hid (fun W => parse_V (s ++ ⟨#[10]⟩ ++ t) W); rw [hr] at q3; have HN := A_0 (show cntB l ≤ 1000000 by omega)
  have HM := A_0 (show cntB m ≤ 1000000 by omega)
  have HLM := A_0 (show (l.length + m.length) * 104 ≤ 140737488355328 by have := len_cntB l; have := len_cntB m; omega)
  have x0 : ((cntB l : Nat) : Int) ≤ 600 := by omega
  have x1 : ((cntB m : Nat) : Int) ≤ 600 := by omega
  have x2 : decide ((600 : Int) < ((cntB l : Nat) : Int) + ((cntB m : Nat) : Int)) = false := decide_eq_false (by omega); have HB := A_0 (Below.refl w.heap.size w); have hu41 := Try.underlying41; have hu38 := Try.underlying38; have hu22 := Try.underlying22; clear h hr hs ht hq
  go_enter Try.func9, Try.ntmps9
  go_wp2_with fail
  (with_reducible refine (q1.out _).mono ?_)
  rintro r w1 hp; obtain ⟨A1, c1, rfl, hF, hc, hb⟩ := hp.ok; have HF1 := A_0 (Kd.F_now hF); have HC1 := A_0 hc; have n0_ := A_0 (below_step HB.out hb); clear HB hb hp q1 hF hc; have HB := n0_; clear n0_
  go_wp2_with fail
  (with_reducible refine (q2.out _).mono ?_)
  rintro r w2 hp; obtain ⟨A2, c2, rfl, hF, hc, hb⟩ := hp.ok; have HF2 := A_0 (Kd.F_now hF); have HC2 := A_0 hc; have n1_ := A_0 (Kd.C_below HF1.out hb); have n0_ := A_0 (below_step HB.out hb); clear HB hb hp q2 hF hc HF1; have HB := n0_; have HF1 := n1_; clear n0_ n1_
  go_wp2_with fail
  (with_reducible refine (q3.out _).mono ?_)
  rintro r w3 hp; obtain ⟨A3, c3, rfl, hF, hc, hb⟩ := hp.ok; have HF3 := A_0 (Kd.F_now hF); have HC3 := A_0 hc; have n0_ := A_0 (below_step HB.out hb); have n1_ := A_0 (Kd.C_below HF1.out hb); have n2_ := A_0 (Kd.C_below HF2.out hb); clear HB hb q3 hp HF1 HF2 hF hc; have HB := n0_; have HF1 := n1_; have HF2 := n2_; clear n0_ n1_ n2_
  go_wp2_with fail
  (with_reducible refine (tnodes_L l A1 c1 _ HF1.out HC1.out HN.out).mono ?_)
  rintro r w4 ⟨rfl, hb⟩; have n0_ := A_0 (below_step HB.out hb); have n1_ := A_0 (Kd.C_below HF1.out hb); have n2_ := A_0 (Kd.C_below HF2.out hb); have n3_ := A_0 (Kd.C_below HF3.out hb); clear HB hb HF1 HF2 HF3; have HB := n0_; have HF1 := n1_; have HF2 := n2_; have HF3 := n3_; clear n0_ n1_ n2_ n3_
  go_wp2_with fail
  (with_reducible refine (tnodes_L m A2 c2 _ HF2.out HC2.out HM.out).mono ?_)
  rintro r w5 ⟨rfl, hb⟩; have n0_ := A_0 (below_step HB.out hb); have n1_ := A_0 (Kd.C_below HF1.out hb); have n2_ := A_0 (Kd.C_below HF2.out hb); have n3_ := A_0 (Kd.C_below HF3.out hb); clear HB hb HF1 HF2 HF3; have HB := n0_; have HF1 := n1_; have HF2 := n2_; have HF3 := n3_; clear n0_ n1_ n2_ n3_
  go_wp2_with fail
  (with_reducible refine (tcopy_L l A1 c1 _ HF1.out HC1.out HN.out).mono ?_)
  rintro r w6 ⟨v6, rfl, hR, hb⟩; have HR := A_0 hR; have HD := A_0 hb; have n0_ := A_0 (below_step HB.out hb); have HS := A_0 (show w.heap.size ≤ w5.heap.size from HB.out.size); clear HB hb HF1 hR; have HB := n0_; clear n0_
  go_wp2_with (first | (at_builtin; (refine C_append_rows k41 (w0 := w) (w2 := w5) w.heap.size ?hw (.tmp 75) (.tmp 76) 22 41 (.agg #[(.int .i64 0), (.string ⟨#[]⟩), (.int .i64 0), (.slice none 0 0), (.slice none 0 0), (.slice none 0 0)]) 104 rfl Try.underlying22 info41 rfl (by decide) (by omega) v6 l m A2 m.length c2 (fun _ => True) rfl rfl HR.out HF2.out HD.out HB.out HS.out HLM.out ?_); (case hw => first | rfl | (go_simp; done)); intro A7 c7 w7 hC7 hc7 hb7 hd7; have H7 := A_0 hC7; have n0_ := A_0 hb7; have n1_ := A_0 (Kd.C_below HF3.out hd7); clear HB HF3 HR HF2 HD hC7 hb7 hd7; have HB := n0_; have HF3 := n1_; clear n0_ n1_) | fail)
  have hs := same_L (l ++ m) (l ++ m) A3 c3 A7 c7 true w7 HF3.out H7.out (eqSs_refl _); rw [List.length_append] at hs
  (with_reducible refine hs.mono ?_)
  rintro r w8 ⟨rfl, hb⟩; have n0_ := A_0 (below_step HB.out hb); clear HB hb HF3 H7 hs; have HB := n0_; clear n0_
  go_wp2_with fail
  (with_reducible refine (alive_LV _).mono ?_)
  rintro r w9 ⟨rfl, hb⟩; have n0_ := A_0 (below_step HB.out hb); clear HB hb
  go_wp2
  exact z_5
theorem joins_walk (s t : ByteArray) (w : World) : Calls Try.prog 9 #[.string s, .string t] w (JP w) := by
  by_cases h0 : 8192 < s.size
  · exact joins_g1 s t w h0
  by_cases h1 : 8192 < t.size
  · exact joins_g2 s t w h0 h1
  by_cases h2 : 8192 < s.size + 1 + t.size
  · exact joins_g3 s t w h0 h1 h2
  have h : s.size + 1 + t.size ≤ 8192 := by omega
  have key : ∀ x : ByteArray, (∃ er a, parV x = .error (er, a) ∧ er ≠ 0) ∨ ∃ l, parV x = .ok l ∧ cntB l ≤ 600 := by
    intro x; rcases parV_cases x with ⟨a, e, h, h1, h2, h3, h4⟩ | ⟨T, r, h, H, h1, h2, h3⟩
    · exact .inl ⟨e, a, h4, h1⟩
    · rcases r with ⟨er, at_⟩ | l
      · obtain ⟨_, q3⟩ := h3
        dsimp only at q3; exact .inl ⟨er, at_, h2, by omega⟩
      · exact .inr ⟨l, h2, h3.2⟩
  rcases key s with ⟨er, a, hr, he⟩ | ⟨l, hs, hl⟩
  · exact joins_e1 s t er a h hr he w
  rcases key t with ⟨er, a, hr, he⟩ | ⟨m, ht, hm⟩
  · exact joins_e2 s t l er a h hs hr he w
  obtain ⟨p1, p2⟩ := par_join h hs ht; by_cases hq : cntB l + cntB m ≤ 600
  · exact joins_ok s t l m h hs ht hq (p1 hq) w
  · obtain ⟨p, hp⟩ := p2 (by omega)
    exact joins_many s t l m p h hs ht hl hm (by omega) hp w
end Go.Proofs.Ytobkdmmnbnpemaa.K
