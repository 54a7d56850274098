/- The counter: a statement told; a block; Right: walked by hand. -/
import Derived.Test.YtobkdmmnbnpemaaXTY2
namespace Go.Proofs.Ytobkdmmnbnpemaa.K
open Go.RowKit Go.Proofs.YtobkdmmnbnpemaaW.PrintWords Go.Proofs.YtobkdmmnbnpemaaW.PrintLast Go.Proofs.YtobkdmmnbnpemaaW.PrintMore
attribute [local go_sem] max2_int min2_int max_two min_two max_three min_three max_four min_four
set_option linter.unusedVariables false
set_option linter.unusedSimpArgs false
theorem want_cases (k : Int) : ((∀ j : Int, 1 ≤ j → j ≤ 9 → k ≠ j) ∧ wantS k = none) ∨ ∃ (W : Nat) (nm : Bool), wantS k = some (W, nm) ∧ W ≤ 2 ∧
    ((k = 1 ∧ (W : Int) = 1 ∧ nm = true) ∨ (k = 2 ∧ (W : Int) = 1 ∧ nm = true) ∨ (k = 3 ∧ (W : Int) = 2 ∧ nm = false) ∨ (k = 4 ∧ (W : Int) = 1 ∧ nm = false) ∨ (k = 5 ∧ (W : Int) = 1 ∧ nm = false) ∨ (k = 6 ∧ (W : Int) = 1 ∧ nm = false) ∨ (k = 7 ∧ (W : Int) = 1 ∧ nm = false) ∨ (k = 8 ∧ (W : Int) = 1 ∧ nm = false) ∨ (k = 9 ∧ (W : Int) = 0 ∧ nm = false)) := by
  by_cases h1 : k = 1
  · subst h1; exact .inr ⟨1, true, rfl, by omega, .inl ⟨rfl, rfl, rfl⟩⟩
  by_cases h2 : k = 2
  · subst h2; exact .inr ⟨1, true, rfl, by omega, .inr (.inl ⟨rfl, rfl, rfl⟩)⟩
  by_cases h3 : k = 3
  · subst h3; exact .inr ⟨2, false, rfl, by omega, .inr (.inr (.inl ⟨rfl, rfl, rfl⟩))⟩
  by_cases h4 : k = 4
  · subst h4; exact .inr ⟨1, false, rfl, by omega, .inr (.inr (.inr (.inl ⟨rfl, rfl, rfl⟩)))⟩
  by_cases h5 : k = 5
  · subst h5; exact .inr ⟨1, false, rfl, by omega, .inr (.inr (.inr (.inr (.inl ⟨rfl, rfl, rfl⟩))))⟩
  by_cases h6 : k = 6
  · subst h6; exact .inr ⟨1, false, rfl, by omega, .inr (.inr (.inr (.inr (.inr (.inl ⟨rfl, rfl, rfl⟩)))))⟩
  by_cases h7 : k = 7
  · subst h7; exact .inr ⟨1, false, rfl, by omega, .inr (.inr (.inr (.inr (.inr (.inr (.inl ⟨rfl, rfl, rfl⟩))))))⟩
  by_cases h8 : k = 8
  · subst h8; exact .inr ⟨1, false, rfl, by omega, .inr (.inr (.inr (.inr (.inr (.inr (.inr (.inl ⟨rfl, rfl, rfl⟩)))))))⟩
  by_cases h9 : k = 9
  · subst h9; exact .inr ⟨0, false, rfl, by omega, .inr (.inr (.inr (.inr (.inr (.inr (.inr (.inr ⟨rfl, rfl, rfl⟩)))))))⟩
  · refine .inl ⟨fun j a b e => by omega, ?_⟩
    unfold wantS
    rw [if_neg h1, if_neg h2, if_neg h3, if_neg h4, if_neg h8, if_neg h5, if_neg h6, if_neg h7, if_neg h9]
theorem empty_of {α : Type} (l : List α) : l.isEmpty = decide (l.length = 0) := by cases l <;> simp
theorem head_eq (k : Int) (f1 : ByteArray) (f2 : Int) (l3 : List S38) (l4 l5 : List S41) (W : Nat) (nm : Bool) (h : wantS k = some (W, nm)) :
    headB ⟨k, f1, f2, l3, l4, l5⟩ = (l3.length == W && ((nm == nameB (lst f1)) && (nm || (f1.toList == ([] : List UInt8)))) && cellB k f2 && (loopsB k || decide (l4.length = 0)) && (k == 6 || decide (l5.length = 0))) := by
  unfold headB
  simp only [h, empty_of]
theorem cS_ok (rec_ : Int → List S41 → Bool × Int) (n k : Int) (f1 : ByteArray) (f2 : Int) (l3 : List S38) (l4 l5 : List S41) (h : headB ⟨k, f1, f2, l3, l4, l5⟩ = true) : cS rec_ n ⟨k, f1, f2, l3, l4, l5⟩ =
    (if (goE (cE 48) n l3).1 = true then (if loopsB k = true then (if (rec_ (goE (cE 48) n l3).2 l4).1 = true then (if l5.length = 0 then (true, (rec_ (goE (cE 48) n l3).2 l4).2) else rec_ (rec_ (goE (cE 48) n l3).2 l4).2 l5) else (false, (rec_ (goE (cE 48) n l3).2 l4).2)) else (true, (goE (cE 48) n l3).2)) else (false, (goE (cE 48) n l3).2)) := by
  unfold cS
  rw [if_pos h]
theorem stmt_all (b : Nat) (BC : BlockC b) (hb13 : b ≤ 13) (k : Int) (f1 : ByteArray) (f2 : Int) (l3 : List S38) (l4 l5 : List S41) (A3 A4 A5 : Option Addr) (c3 c4 c5 : Nat) (n : Int) (g : Nat) (w0 w : World) (h0 : 0 ≤ n) (h1 : n ≤ 600) (hI : IsS95 w0 w g n) (hB : Below w0.heap.size w0 w)
    (hC3 : Kd.C k38 w0 A3 l3.length l3) (hC4 : Kd.C k41 w0 A4 l4.length l4) (hC5 : Kd.C k41 w0 A5 l5.length l5) (hcs4 : l4.length ≤ c4) (hcs5 : l5.length ≤ c5) (r : Bool) (m : Int) (hr : cS (cB b) n ⟨k, f1, f2, l3, l4, l5⟩ = (r, m)) (bl : Int) (hbl0 : 0 ≤ bl) (hbl : bl + 1 = 13 - (b : Int)) :
    Calls Try.prog 94 #[.pointer (some ⟨g, 0, none⟩), .agg #[.int .i64 k, .string f1, .int .i64 f2, .slice A3 l3.length c3, .slice A4 l4.length c4, .slice A5 l5.length c5], .int .i64 bl] w (CPost r m g w0 w) := by
  have hbl1 : bl ≤ 13 := by omega
  have bad : headB ⟨k, f1, f2, l3, l4, l5⟩ = false → (r, m) = (false, n) := by
    intro h
    unfold cS at hr
    rw [if_neg (by rw [h]; simp)] at hr
    exact hr.symm
  rcases want_cases k with ⟨hk, hw⟩ | ⟨W, nm, hw, hW2, hk⟩
  · have e := bad (by unfold headB; simp only [hw])
    injection e with e1 e2
    subst e1 e2
    exact stmt_kind k f1 f2 l3 l4 l5 l3.length l4.length l5.length A3 A4 A5 c3 c4 c5 _ g w0 w h0 h1 hI hB bl hbl0 hbl1 hk
  · have hd := head_eq k f1 f2 l3 l4 l5 W nm hw
    have hW : (0 : Int) ≤ (W : Int) ∧ (W : Int) ≤ 2 := by omega
    by_cases q1 : (l3.length : Int) = (W : Int)
    · have q1' : (l3.length == W) = true := beq_iff_eq.2 (by omega)
      rw [q1', Bool.true_and] at hd
      by_cases q2 : nm = nameB (lst f1)
      · have q2' : (nm == nameB (lst f1)) = true := beq_iff_eq.2 q2
        rw [q2', Bool.true_and] at hd
        by_cases q3 : nm = true ∨ f1.toList = []
        · have hn : (nm = true ∧ nameB (lst f1) = true) ∨ (nm = false ∧ nameB (lst f1) = false ∧ f1.toList = []) := by
            cases hnm : nm with
            | true => rw [hnm] at q2; exact .inl ⟨rfl, q2.symm⟩
            | false =>
              rw [hnm] at q2 q3
              exact .inr ⟨rfl, q2.symm, by rcases q3 with x | x; exact absurd x (by simp); exact x⟩
          have q3' : (nm || (f1.toList == ([] : List UInt8))) = true := by
            rcases q3 with x | x
            · rw [x]; rfl
            · rw [beq_iff_eq.2 x, Bool.or_true]
          rw [q3', Bool.true_and] at hd
          by_cases q4 : (k = 5 ∧ 0 ≤ f2 ∧ f2 ≤ 255) ∨ (k ≠ 5 ∧ f2 = 0)
          · have q4' : cellB k f2 = true := by
              unfold cellB
              rcases q4 with ⟨x, y, z⟩ | ⟨x, y⟩
              · rw [if_pos x, decide_eq_true y, decide_eq_true z]; rfl
              · rw [if_neg x, y]; rfl
            rw [q4', Bool.true_and] at hd
            by_cases k6 : k = 6
            · have q5 : loopsB k = true := by unfold loopsB; rw [k6]; rfl
              have q6 : (k == 6) = true := beq_iff_eq.2 k6
              rw [q5, q6, Bool.true_or, Bool.true_or, Bool.true_and] at hd
              refine stmt_ok k f1 f2 l3 l4 l5 l3.length l4.length l5.length A3 A4 A5 c3 c4 c5 n g w0 w h0 h1 hI hB bl hbl0 hbl1 W nm _ hW hk rfl q1 hn q4 b BC hbl rfl rfl rfl hC3 hC4 hC5 hcs4 hcs5 true (.inr (.inl ⟨k6, by omega, rfl⟩)) (.inl ⟨rfl, k6⟩) (goE (cE 48) n l3).1 (goE (cE 48) n l3).2 r m (by obtain ⟨a, c, e⟩ := pair_of (goE (cE 48) n l3); rw [e]) ?_
              have hin := goE_in (cE 48) (fun n x a c => cE_in 48 n x a c) l3 n h0 h1
              rw [cS_ok _ _ _ _ _ _ _ _ hd] at hr
              generalize goE (cE 48) n l3 = p at hr hin ⊢
              unfold SFin
              by_cases p1 : p.1 = true
              · obtain ⟨i1, i2, i3⟩ := hin
                have hin2 := cB_in b p.2 l4 i1 (i3 p1)
                rw [if_pos p1] at hr
                have hr' := hr
                simp only [q5, if_true] at hr'
                generalize hp : cB b p.2 l4 = p2 at hr' hin2 ⊢
                obtain ⟨p21, p22⟩ := p2
                by_cases p3 : p21 = true
                · subst p3
                  simp only [if_true] at hr'
                  by_cases p4 : l5.length = 0
                  · simp only [p4, if_true] at hr'
                    injection hr' with e1 e2
                    exact .inr (.inr (.inr (.inl ⟨p1, rfl, i1, i3 p1, by rw [← e2], e1.symm, p4⟩)))
                  · simp only [p4, if_false] at hr'
                    exact .inr (.inr (.inr (.inr ⟨p1, rfl, i1, i3 p1, p22, rfl, hin2.1, hin2.2.2 rfl, p4, hr'⟩)))
                · have p3' : p21 = false := by simpa using p3
                  subst p3'
                  simp only [Bool.false_eq_true, if_false] at hr'
                  injection hr' with e1 e2
                  exact .inr (.inr (.inl ⟨p1, rfl, i1, i3 p1, by rw [← e2], e1.symm⟩))
              · rw [if_neg p1] at hr
                injection hr with e1 e2
                exact .inl ⟨by simpa using p1, e1.symm, e2.symm⟩
            · have k6' : (k == 6) = false := beq_eq_false_iff_ne.2 k6
              rw [k6', Bool.false_or] at hd
              by_cases k7 : k = 7
              · have q5 : loopsB k = true := by unfold loopsB; rw [k7]; rfl
                rw [q5, Bool.true_or, Bool.true_and] at hd
                by_cases q6 : l5.length = 0
                · rw [decide_eq_true q6] at hd
                  refine stmt_ok k f1 f2 l3 l4 l5 l3.length l4.length l5.length A3 A4 A5 c3 c4 c5 n g w0 w h0 h1 hI hB bl hbl0 hbl1 W nm _ hW hk rfl q1 hn q4 b BC hbl rfl rfl rfl hC3 hC4 hC5 hcs4 hcs5 true (.inl ⟨k6, k7, rfl⟩) (.inr (.inl ⟨rfl, k6, q6⟩)) (goE (cE 48) n l3).1 (goE (cE 48) n l3).2 r m (by obtain ⟨a, c, e⟩ := pair_of (goE (cE 48) n l3); rw [e]) ?_
                  have hin := goE_in (cE 48) (fun n x a c => cE_in 48 n x a c) l3 n h0 h1
                  rw [cS_ok _ _ _ _ _ _ _ _ hd] at hr
                  generalize goE (cE 48) n l3 = p at hr hin ⊢
                  unfold SFin
                  by_cases p1 : p.1 = true
                  · obtain ⟨i1, i2, i3⟩ := hin
                    rw [if_pos p1] at hr
                    have hr' := hr
                    simp only [q5, if_true, q6] at hr'
                    generalize hp : cB b p.2 l4 = p2 at hr' ⊢
                    obtain ⟨p21, p22⟩ := p2
                    by_cases p3 : p21 = true
                    · subst p3
                      simp only [if_true] at hr'
                      injection hr' with e1 e2
                      exact .inr (.inr (.inr (.inl ⟨p1, rfl, i1, i3 p1, by rw [← e2], e1.symm, q6⟩)))
                    · have p3' : p21 = false := by simpa using p3
                      subst p3'
                      simp only [Bool.false_eq_true, if_false] at hr'
                      injection hr' with e1 e2
                      exact .inr (.inr (.inl ⟨p1, rfl, i1, i3 p1, by rw [← e2], e1.symm⟩))
                  · rw [if_neg p1] at hr
                    injection hr with e1 e2
                    exact .inl ⟨by simpa using p1, e1.symm, e2.symm⟩
                · rw [decide_eq_false q6] at hd
                  have e := bad hd
                  injection e with e1 e2
                  subst e1 e2
                  exact stmt_b6 k f1 f2 l3 l4 l5 l3.length l4.length l5.length A3 A4 A5 c3 c4 c5 _ g w0 w h0 h1 hI hB bl hbl0 hbl1 W nm _ hW hk rfl q1 hn q4 (.inl k7) k6 q6
              · have q5 : loopsB k = false := by unfold loopsB; rw [k6', beq_eq_false_iff_ne.2 k7]; rfl
                rw [q5, Bool.false_or] at hd
                by_cases q6 : l4.length = 0
                · rw [decide_eq_true q6, Bool.true_and] at hd
                  by_cases q7 : l5.length = 0
                  · rw [decide_eq_true q7] at hd
                    refine stmt_ok k f1 f2 l3 l4 l5 l3.length l4.length l5.length A3 A4 A5 c3 c4 c5 n g w0 w h0 h1 hI hB bl hbl0 hbl1 W nm _ hW hk rfl q1 hn q4 b BC hbl rfl rfl rfl hC3 hC4 hC5 hcs4 hcs5 false (.inr (.inr ⟨k6, k7, rfl⟩)) (.inr (.inr ⟨rfl, k6, q6, q7⟩)) (goE (cE 48) n l3).1 (goE (cE 48) n l3).2 r m (by obtain ⟨a, c, e⟩ := pair_of (goE (cE 48) n l3); rw [e]) ?_
                    rw [cS_ok _ _ _ _ _ _ _ _ hd] at hr
                    generalize goE (cE 48) n l3 = p at hr ⊢
                    unfold SFin
                    by_cases p1 : p.1 = true
                    · rw [if_pos p1] at hr
                      have hr' := hr
                      simp only [q5, Bool.false_eq_true, if_false] at hr'
                      injection hr' with e1 e2
                      exact .inr (.inl ⟨p1, rfl, q7, e1.symm, e2.symm⟩)
                    · rw [if_neg p1] at hr
                      injection hr with e1 e2
                      exact .inl ⟨by simpa using p1, e1.symm, e2.symm⟩
                  · rw [decide_eq_false q7] at hd
                    have e := bad hd
                    injection e with e1 e2
                    subst e1 e2
                    exact stmt_b6 k f1 f2 l3 l4 l5 l3.length l4.length l5.length A3 A4 A5 c3 c4 c5 _ g w0 w h0 h1 hI hB bl hbl0 hbl1 W nm _ hW hk rfl q1 hn q4 (.inr q6) k6 q7
                · rw [decide_eq_false q6, Bool.false_and] at hd
                  have e := bad hd
                  injection e with e1 e2
                  subst e1 e2
                  exact stmt_b5 k f1 f2 l3 l4 l5 l3.length l4.length l5.length A3 A4 A5 c3 c4 c5 _ g w0 w h0 h1 hI hB bl hbl0 hbl1 W nm _ hW hk rfl q1 hn q4 k7 k6 q6
          · have q4' : cellB k f2 = false := by
              unfold cellB
              by_cases x : k = 5
              · rw [if_pos x]
                cases hh : (decide (0 ≤ f2) && decide (f2 ≤ 255)) with
                | false => rfl
                | true => simp only [Bool.and_eq_true, decide_eq_true_eq] at hh; exact absurd (.inl ⟨x, hh.1, hh.2⟩) q4
              · rw [if_neg x]; exact beq_eq_false_iff_ne.2 (fun y => q4 (.inr ⟨x, y⟩))
            rw [q4', Bool.false_and, Bool.false_and] at hd
            have e := bad hd
            injection e with e1 e2
            subst e1 e2
            exact stmt_b4 k f1 f2 l3 l4 l5 l3.length l4.length l5.length A3 A4 A5 c3 c4 c5 _ g w0 w h0 h1 hI hB bl hbl0 hbl1 W nm _ hW hk rfl q1 hn (by
              by_cases x : k = 5
              · refine .inl ⟨x, ?_⟩
                by_cases y : f2 < 0
                · exact .inl y
                · exact .inr ⟨by omega, by
                    by_cases z : 255 < f2
                    · exact z
                    · exact absurd (.inl ⟨x, by omega, by omega⟩) q4⟩
              · exact .inr ⟨x, fun y => q4 (.inr ⟨x, y⟩)⟩)
        · have hnm : nm = false := by cases h : nm with | true => exact absurd (.inl h) q3 | false => rfl
          have hf : f1.toList ≠ [] := fun x => q3 (.inr x)
          rw [hnm, beq_eq_false_iff_ne.2 hf] at hd
          have e := bad (by rw [hd]; rfl)
          injection e with e1 e2
          subst e1 e2
          exact stmt_b3 k f1 f2 l3 l4 l5 l3.length l4.length l5.length A3 A4 A5 c3 c4 c5 _ g w0 w h0 h1 hI hB bl hbl0 hbl1 W nm _ hW hk rfl q1 hnm (by rw [← q2]; exact hnm) hf
      · rw [beq_eq_false_iff_ne.2 q2] at hd
        have e := bad (by rw [hd]; rfl)
        injection e with e1 e2
        subst e1 e2
        exact stmt_b2 k f1 f2 l3 l4 l5 l3.length l4.length l5.length A3 A4 A5 c3 c4 c5 _ g w0 w h0 h1 hI hB bl hbl0 hbl1 W nm _ hW hk rfl q1 q2
    · rw [show (l3.length == W) = false from beq_eq_false_iff_ne.2 (by omega)] at hd
      have e := bad (by rw [hd]; rfl)
      injection e with e1 e2
      subst e1 e2
      exact stmt_b1 k f1 f2 l3 l4 l5 l3.length l4.length l5.length A3 A4 A5 c3 c4 c5 _ g w0 w h0 h1 hI hB bl hbl0 hbl1 W nm _ hW hk rfl q1
end Go.Proofs.Ytobkdmmnbnpemaa.K
