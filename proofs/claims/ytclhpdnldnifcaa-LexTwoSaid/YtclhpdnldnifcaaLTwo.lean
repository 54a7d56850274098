/- LexTwo walked by hand. -/
import Derived.Test.YtclhpdnldnifcaaPureT
import Derived.Test.YtclhpdnldnifcaaPureN
import Derived.BigQuiet
import Derived.Deep.RegionHeld3
namespace Go.Proofs.Ytclhpdnldnifcaa.K
open Go.RowKit Go.Proofs.YtclhpdnldnifcaaW.PrintWords Go.Proofs.YtclhpdnldnifcaaW.PrintLast Go.Proofs.YtclhpdnldnifcaaW.PrintMore
attribute [local go_sem] max2_int min2_int max_two min_two max_three min_three max_four min_four
set_option linter.unusedVariables false
set_option linter.unusedSimpArgs false

set_option maxHeartbeats 1000000 in
theorem two_g1 (s t : ByteArray) (w : World) (h : 8192 < s.size) : Calls Try.prog 6 #[.string s, .string t] w (TrueP w) := by
  have h' : (8192 : Int) < (s.size : Int) := by omega
  go_enter Try.func6, Try.ntmps6
  go_wp2
  go_ret
  exact ⟨rfl, Below.refl _ _⟩
set_option maxHeartbeats 1000000 in
theorem two_g2 (s t : ByteArray) (w : World) (h0 : ¬ 8192 < s.size) (h : 8192 < t.size) : Calls Try.prog 6 #[.string s, .string t] w (TrueP w) := by
  have g0 : decide ((8192 : Int) < (s.size : Int)) = false := decide_eq_false (by omega)
  have h' : (8192 : Int) < (t.size : Int) := by omega
  go_enter Try.func6, Try.ntmps6
  go_wp2
  go_ret
  exact ⟨rfl, Below.refl _ _⟩
set_option maxHeartbeats 1000000 in
theorem two_g3 (s t : ByteArray) (w : World) (h0 : ¬ 8192 < s.size) (h1 : ¬ 8192 < t.size) (h : 8192 < s.size + 1 + t.size) : Calls Try.prog 6 #[.string s, .string t] w (TrueP w) := by
  have g0 : decide ((8192 : Int) < (s.size : Int)) = false := decide_eq_false (by omega)
  have g1 : decide ((8192 : Int) < (t.size : Int)) = false := decide_eq_false (by omega)
  have h' : (8192 : Int) < (s.size : Int) + 1 + (t.size : Int) := by omega
  have b0 : (s.size : Int) ≤ 8192 := by omega
  have b1 : (t.size : Int) ≤ 8192 := by omega
  go_enter Try.func6, Try.ntmps6
  go_wp2
  go_ret
  exact ⟨rfl, Below.refl _ _⟩

set_option maxHeartbeats 4000000 in
set_option maxRecDepth 100000 in
theorem two_err (s t : ByteArray) (w : World) (h : s.size + 1 + t.size ≤ 8192) (i j e : Int) (X : List S33 × Int × Int) (c1 : cutP s = ([], i, e)) (c2 : cutP t = X) (c3 : cutP (two s t) = ([], j, e)) (he : e ≠ 0) : Calls Try.prog 6 #[.string s, .string t] w (TrueP w) := by
  have g0 : decide ((8192 : Int) < (s.size : Int)) = false := decide_eq_false (by omega)
  have g1 : decide ((8192 : Int) < (t.size : Int)) = false := decide_eq_false (by omega)
  have g2 : decide ((8192 : Int) < (s.size : Int) + 1 + (t.size : Int)) = false := decide_eq_false (by omega)
  have b0 : (s.size : Int) ≤ 8192 := by omega
  have b1 : (t.size : Int) ≤ 8192 := by omega
  obtain ⟨k4, h4⟩ := alive_ok
  have al := Lib.hid (fun W => outriderlaw03_alive.calls k4 true W h4)
  obtain ⟨x1, x2, x3⟩ := X
  have q1 := Lib.hid (fun W => lex_Cut.calls s [] i e W (by rw [cut_f, c1]))
  have q2 := Lib.hid (fun W => lex_Cut.calls t x1 x2 x3 W (by rw [cut_f, c2]))
  have q3 := Lib.hid (fun W => lex_Cut.calls (s ++ ⟨#[10]⟩ ++ t) [] j e W (by have := cut_f (two s t); rw [c3] at this; exact this))
  have HB := Aside0.mk (Below.refl w.heap.size w)
  have e1 : (e != 0) = true := by rw [bne_iff_ne]; exact he
  clear c1 c2 c3 h4 h he
  go_enter Try.func6, Try.ntmps6
  go_wp2_with fail
  refine (q1.out _).mono ?_
  rintro e5 w1 ⟨v1, rfl, ho, hb⟩
  have n1_ := Aside0.mk (below_step HB.out hb)
  clear HB hb ho
  have HB := n1_
  clear n1_
  go_wp2_with fail
  refine (q2.out _).mono ?_
  rintro e5 w2 ⟨v2, rfl, ho, hb⟩
  have n1_ := Aside0.mk (below_step HB.out hb)
  clear HB hb ho
  have HB := n1_
  clear n1_
  go_wp2_with fail
  refine (q3.out _).mono ?_
  rintro e5 w3 ⟨v3, rfl, ho, hb⟩
  obtain ⟨A3, c3, rfl⟩ := Kd.R_slice ho
  have n1_ := Aside0.mk (below_step HB.out hb)
  clear HB hb ho
  have HB := n1_
  clear n1_
  go_wp2_with fail
  refine (al.out _).mono ?_
  rintro e5 w4 ⟨rfl, hb⟩
  have n1_ := Aside0.mk (below_step HB.out hb)
  clear HB hb
  have HB := n1_
  clear n1_
  go_wp2
  go_ret
  exact ⟨rfl, HB.out⟩
set_option maxHeartbeats 4000000 in
set_option maxRecDepth 100000 in
theorem two_err2 (s t : ByteArray) (w : World) (h : s.size + 1 + t.size ≤ 8192) (A : List S33) (p : Nat) (f : Int) (c1 : cutP s = (A, 0, 0)) (c2 : cutP t = ([], (p : Int), f)) (c3 : cutP (two s t) = ([], ((s.size + 1 + p : Nat) : Int), f)) (he : f ≠ 0) (hp : p ≤ 8192) : Calls Try.prog 6 #[.string s, .string t] w (TrueP w) := by
  have g0 : decide ((8192 : Int) < (s.size : Int)) = false := decide_eq_false (by omega)
  have g1 : decide ((8192 : Int) < (t.size : Int)) = false := decide_eq_false (by omega)
  have g2 : decide ((8192 : Int) < (s.size : Int) + 1 + (t.size : Int)) = false := decide_eq_false (by omega)
  have b0 : (s.size : Int) ≤ 8192 := by omega
  have b1 : (t.size : Int) ≤ 8192 := by omega
  obtain ⟨k4, h4⟩ := alive_ok
  have al := Lib.hid (fun W => outriderlaw03_alive.calls k4 true W h4)
  have q1 := Lib.hid (fun W => lex_Cut.calls s A 0 0 W (by rw [cut_f, c1]))
  have q2 := Lib.hid (fun W => lex_Cut.calls t [] (p : Int) f W (by rw [cut_f, c2]))
  have q3 := Lib.hid (fun W => lex_Cut.calls (s ++ ⟨#[10]⟩ ++ t) [] ((s.size + 1 + p : Nat) : Int) f W (by have := cut_f (two s t); rw [c3] at this; exact this))
  have HB := Aside0.mk (Below.refl w.heap.size w)
  have e1 : (f != 0) = true := by rw [bne_iff_ne]; exact he
  have hz : ((s.size + 1 + p : Nat) : Int) = (s.size : Int) + 1 + (p : Int) := by omega
  rw [hz] at q3
  have b3 : (p : Int) ≤ 8192 := by omega
  have b4 : (0 : Int) ≤ (p : Int) := by omega
  obtain ⟨P, hP⟩ : ∃ P : Int, P = (p : Int) := ⟨_, rfl⟩
  rw [← hP] at q2 q3 b3 b4
  clear c1 c2 c3 h4 h he hz hP hp
  go_enter Try.func6, Try.ntmps6
  go_wp2_with fail
  refine (q1.out _).mono ?_
  rintro e5 w1 ⟨v1, rfl, ho, hb⟩
  have n1_ := Aside0.mk (below_step HB.out hb)
  clear HB hb ho
  have HB := n1_
  clear n1_
  go_wp2_with fail
  refine (q2.out _).mono ?_
  rintro e5 w2 ⟨v2, rfl, ho, hb⟩
  have n1_ := Aside0.mk (below_step HB.out hb)
  clear HB hb ho
  have HB := n1_
  clear n1_
  go_wp2_with fail
  refine (q3.out _).mono ?_
  rintro e5 w3 ⟨v3, rfl, ho, hb⟩
  obtain ⟨A3, c3, rfl⟩ := Kd.R_slice ho
  have n1_ := Aside0.mk (below_step HB.out hb)
  clear HB hb ho
  have HB := n1_
  clear n1_
  go_wp2_with fail
  refine (al.out _).mono ?_
  rintro e5 w4 ⟨rfl, hb⟩
  have n1_ := Aside0.mk (below_step HB.out hb)
  clear HB hb
  have HB := n1_
  clear n1_
  go_wp2
  go_ret
  exact ⟨rfl, HB.out⟩
set_option maxHeartbeats 4000000 in
set_option maxRecDepth 100000 in
theorem two_ok (s t : ByteArray) (w : World) (h : s.size + 1 + t.size ≤ 8192) (A B C : List S33) (H : TwoOk s t A B C) : Calls Try.prog 6 #[.string s, .string t] w (TrueP w) := by
  have g0 : decide ((8192 : Int) < (s.size : Int)) = false := decide_eq_false (by omega)
  have g1 : decide ((8192 : Int) < (t.size : Int)) = false := decide_eq_false (by omega)
  have g2 : decide ((8192 : Int) < (s.size : Int) + 1 + (t.size : Int)) = false := decide_eq_false (by omega)
  have b0 : (s.size : Int) ≤ 8192 := by omega
  have b1 : (t.size : Int) ≤ 8192 := by omega
  obtain ⟨k4, h4⟩ := alive_ok
  have al := Lib.hid (fun W => outriderlaw03_alive.calls k4 true W h4)
  have q1 := Lib.hid (fun W => lex_Cut.calls s A 0 0 W (by rw [cut_f, H.a]))
  have q2 := Lib.hid (fun W => lex_Cut.calls t B 0 0 W (by rw [cut_f, H.b]))
  have q3 := Lib.hid (fun W => lex_Cut.calls (s ++ ⟨#[10]⟩ ++ t) C 0 0 W (by have := cut_f (two s t); rw [H.c] at this; exact this))
  obtain ⟨n, hn⟩ : ∃ n, A.length = n + 1 := ⟨A.length - 1, by have := H.la; omega⟩
  have hCl : C.length = n + B.length := by have := H.len; omega
  have hs1 : sameGo true (C.take n) (A.take n) = true := by have := H.same1; rw [hn] at this; exact this
  have hs2 : sameGo false (C.drop n) B = true := by have := H.same2; rw [hn] at this; exact this
  have hlim := H.lim
  have hBp : 1 ≤ B.length := by
    cases hB : B with
    | nil =>
      exfalso
      rw [hB] at hs2 hCl
      have := same_len false _ _ hs2
      have h2 := H.b
      rw [hB] at h2
      have := cutP_small t (by omega)
      rw [h2] at this
      cases hq : cutL (t.size + 1) (lst t) with
      | mk us er =>
        rw [hq] at this
        cases er with
        | none => simp at this
        | some ep => obtain ⟨f, p⟩ := ep; simp at this; exact cut_err (t.size + 1) (lst t) f p (by rw [hq]) this.2.symm
    | cons x xs => simp
  have HS1 := Lib.hid hs1
  have HS2 := Lib.hid hs2
  have HCL := Lib.hid hCl
  have HN := Lib.hid hn
  have HB := Aside0.mk (Below.refl w.heap.size w)
  clear h4 h H hs1 hs2
  go_enter Try.func6, Try.ntmps6
  go_wp2_with fail
  refine (q1.out _).mono ?_
  rintro e5 w1 ⟨v1, rfl, ho1, hb⟩
  obtain ⟨A1, c1, rfl⟩ := Kd.R_slice ho1
  have n1_ := Aside0.mk (below_step HB.out hb)
  have n2_ := Aside0.mk (Kd.R_reads' ho1)
  clear HB hb ho1
  have HB := n1_
  have R1 := n2_
  clear n1_ n2_
  go_wp2_with fail
  refine (q2.out _).mono ?_
  rintro e5 w2 ⟨v2, rfl, ho2, hb⟩
  obtain ⟨A2, c2, rfl⟩ := Kd.R_slice ho2
  have n1_ := Aside0.mk (below_step HB.out hb)
  have n2_ := Aside0.mk (Kd.R_reads' ho2)
  have n3_ := Aside0.mk (Kd.C_below R1.out.2.2 hb)
  clear HB hb ho2
  have HB := n1_
  have R2 := n2_
  have C1 := n3_
  clear n1_ n2_ n3_
  go_wp2_with fail
  refine (q3.out _).mono ?_
  rintro e5 w3 ⟨v3, rfl, ho3, hb⟩
  obtain ⟨g, c3, e3, _, _, _, _⟩ := Kd.R_form ho3 (by omega)
  subst e3
  have n1_ := Aside0.mk (below_step HB.out hb)
  have n2_ := Aside0.mk (Kd.R_reads' ho3)
  have n3_ := Aside0.mk (Kd.C_below C1.out hb)
  have n4_ := Aside0.mk (Kd.C_below R2.out.2.2 hb)
  have hcap3 := (Kd.R_reads' ho3).2.1
  have hcap1 := R1.out.2.1
  clear HB hb ho3 C1
  have HB := n1_
  have R3 := n2_
  have C1 := n3_
  have C2 := n4_
  clear n1_ n2_ n3_ n4_ q1 q2 q3


  have g3 : (((C.length : Nat) : Int) + 1 != ((n + 1 : Nat) : Int) + ((B.length : Nat) : Int)) = false := by rw [bne_eq_false_iff_eq]; omega
  have g4 : (((C.length : Nat) : Int) + 1 != ((n : Nat) : Int) + 1 + ((B.length : Nat) : Int)) = false := by rw [bne_eq_false_iff_eq]; omega
  go_wp2
  have hc4 : n ≤ C.length := by omega
  have hc5 : n < c3 := by omega
  have hn1 : n ≤ c1 := by omega
  have z0 : ((0 : Int) ≤ (n : Int)) := by omega
  have z1 : ((n : Int) ≤ (c3 : Int)) := by omega
  have z2 : ((n : Int) ≤ (c1 : Int)) := by omega
  have z3 : ((n : Int) ≤ (C.length : Int)) := by omega
  have z4 : ¬ ((c3 : Int) = (n : Int)) := by omega
  have z5 : ¬ (c3 = n) := by omega
  have wn : IntKind.i64.wrap ((n : Int) + 1 - 1) = (n : Int) := by rw [show (n : Int) + 1 - 1 = n by omega]; exact IntWalk.i64_in _ (by omega)
  have wn2 : IntKind.i64.wrap (n : Int) = (n : Int) := IntWalk.i64_in _ (by omega)
  have hc6 : n ≤ c3 := by omega
  have hl1 : (C.take n).length = n := by rw [List.length_take]; omega
  have hl2 : (A.take n).length = n := by rw [List.length_take]; have := HN.out; omega
  have hl3 : (C.drop n).length = B.length := by rw [List.length_drop]; omega
  have hn4 : n ≤ A.length := by have := HN.out; omega
  have t1 := Lib.hid (fun W (hb : Below w3.heap.size w3 W) => show Calls Try.prog 10 #[.slice (some ⟨g, 0, none⟩) n c3, .slice A1 n c1, .bool true] W (fun e w' => e = .returned (.bool true) ∧ Below W.heap.size W w') by
    have := outriderref03_Same.calls (some ⟨g, 0, none⟩) c3 (C.take n) A1 c1 (A.take n) true true W (Kd.C_take (Kd.C_below R3.out.2.2 hb) hc4) (by omega) (Kd.C_take (Kd.C_below C1.out hb) hn4) (by omega) (by unfold outriderref03_Same.f; rw [HS1.out])
    rw [hl1, hl2] at this
    exact this)
  have t2 := Lib.hid (fun W (hb : Below w3.heap.size w3 W) => show Calls Try.prog 10 #[.slice (some ⟨g, n * 4, none⟩) B.length (c3 - n), .slice A2 B.length c2, .bool false] W (fun e w' => e = .returned (.bool true) ∧ Below W.heap.size W w') by
    have hd := Kd.C_drop (Kd.C_below R3.out.2.2 hb) hc4 hcap3
    rw [if_neg z5] at hd
    have := outriderref03_Same.calls _ (c3 - n) (C.drop n) A2 c2 B false true W hd (by omega) (Kd.C_below C2.out hb) R2.out.2.1 (by unfold outriderref03_Same.f; rw [HS2.out])
    rw [hl3] at this
    have ea : Option.map (fun x : Addr => x.add (n * k33.sz)) (some ⟨g, 0, none⟩) = some ⟨g, n * 4, none⟩ := by
      show some (Addr.add ⟨g, 0, none⟩ (n * 4)) = _
      simp [Addr.add]
      omega
    rw [ea] at this
    exact this)
  have hc7 : n + B.length ≤ c3 := by omega
  have z6 : ((n : Int) ≤ (n : Int) + (B.length : Int)) := by omega
  have hc8 : ((n : Int) + (B.length : Int)) ≤ (c3 : Int) := by omega
  have HW := Aside0.mk (Below.refl w3.heap.size w3)
  clear R1 R2 R3 C1 C2 HS1 HS2 hl1 hl2 hl3 hn4
  go_region_held3 (fun w' => True) (exact trivial)
    (first
      | (go_at_call 10; (with_reducible refine (t1.out _ (by first | exact HW.out | exact below_drew HW.out | exact pw_below_drewN HW.out _)).mono ?_); rintro e5 w5 ⟨rfl, hb⟩; have m1_ := Aside0.mk (below_step (W := _) (by first | exact HW.out | exact below_drew HW.out | exact pw_below_drewN HW.out _) hb); clear HW hb; have HW := m1_; clear m1_)
      | (go_at_call 10; (with_reducible refine (t2.out _ (by first | exact HW.out | exact below_drew HW.out | exact pw_below_drewN HW.out _)).mono ?_); rintro e5 w5 ⟨rfl, hb⟩; have m1_ := Aside0.mk (below_step (W := _) (by first | exact HW.out | exact below_drew HW.out | exact pw_below_drewN HW.out _) hb); clear HW hb; have HW := m1_; clear m1_)
      | (go_at_call 11; refine (al.out _).mono ?_; rintro e5 w5 ⟨rfl, hb⟩; have m1_ := Aside0.mk (below_step (W := _) (by first | exact HW.out | exact below_drew HW.out | exact pw_below_drewN HW.out _) hb); clear HW hb; have HW := m1_; clear m1_))
  all_goals go_wp2
  all_goals go_ret
  all_goals exact ⟨rfl, below_step HB.out (by first | exact HW.out | exact below_drew HW.out | exact pw_below_drewN HW.out _)⟩
theorem two_calls (s t : ByteArray) (w : World) : Calls Try.prog 6 #[.string s, .string t] w (TrueP w) := by
  by_cases h0 : 8192 < s.size
  · exact two_g1 s t w h0
  · by_cases h1 : 8192 < t.size
    · exact two_g2 s t w h0 h1
    · by_cases h2 : 8192 < s.size + 1 + t.size
      · exact two_g3 s t w h0 h1 h2
      · have h : s.size + 1 + t.size ≤ 8192 := by omega
        cases two_all s t h with
        | err i j e X c1 c2 c3 he => exact two_err s t w h i j e X c1 c2 c3 he
        | err2 A p f c1 c2 c3 he hp => exact two_err2 s t w h A p f c1 c2 c3 he hp
        | ok A B C H => exact two_ok s t w h A B C H
end Go.Proofs.Ytclhpdnldnifcaa.K
