/- The counter: a statement told; a block; Right: walked by hand. -/
import Derived.Test.YtobkdmmnbnpemaaXKY2
import Derived.Lib.Hide
namespace Go.Proofs.Ytobkdmmnbnpemaa.K
open Go.RowKit Go.Proofs.YtobkdmmnbnpemaaW.PrintWords Go.Proofs.YtobkdmmnbnpemaaW.PrintLast Go.Proofs.YtobkdmmnbnpemaaW.PrintMore
attribute [local go_sem] max2_int min2_int max_two min_two max_three min_three max_four min_four
set_option linter.unusedVariables false
set_option linter.unusedSimpArgs false
theorem want_cases (k : Int) : ((∀ j : Int, 1 ≤ j → j ≤ 9 → k ≠ j) ∧ wantS k = none) ∨ ∃ (W : Nat) (nm : Bool), wantS k = some (W, nm) ∧ W ≤ 2 ∧
    ((k = 1 ∧ (W : Int) = 1 ∧ nm = true) ∨ (k = 2 ∧ (W : Int) = 1 ∧ nm = true) ∨ (k = 3 ∧ (W : Int) = 2 ∧ nm = false) ∨ (k = 4 ∧ (W : Int) = 1 ∧ nm = false) ∨ (k = 5 ∧ (W : Int) = 1 ∧ nm = false) ∨ (k = 6 ∧ (W : Int) = 1 ∧ nm = false) ∨ (k = 7 ∧ (W : Int) = 1 ∧ nm = false) ∨ (k = 8 ∧ (W : Int) = 1 ∧ nm = false) ∨ (k = 9 ∧ (W : Int) = 0 ∧ nm = false)) := by
  by_cases h1 : k = 1
  · subst h1; exact .inr ⟨1, true, rfl, by omega, .inl ⟨rfl, rfl, rfl⟩⟩
  by_cases h2 : k = 2
  · subst h2; exact .inr ⟨1, true, rfl, by omega, .inr (.inl ⟨rfl, rfl, rfl⟩)⟩
  by_cases h3 : k = 3
  · subst h3; exact .inr ⟨2, false, rfl, by omega, .inr (.inr (.inl ⟨rfl, rfl, rfl⟩))⟩
  by_cases h4 : k = 4
  · subst h4; exact .inr ⟨1, false, rfl, by omega, .inr (.inr (.inr (.inl ⟨rfl, rfl, rfl⟩)))⟩
  by_cases h5 : k = 5
  · subst h5; exact .inr ⟨1, false, rfl, by omega, .inr (.inr (.inr (.inr (.inl ⟨rfl, rfl, rfl⟩))))⟩
  by_cases h6 : k = 6
  · subst h6; exact .inr ⟨1, false, rfl, by omega, .inr (.inr (.inr (.inr (.inr (.inl ⟨rfl, rfl, rfl⟩)))))⟩
  by_cases h7 : k = 7
  · subst h7; exact .inr ⟨1, false, rfl, by omega, .inr (.inr (.inr (.inr (.inr (.inr (.inl ⟨rfl, rfl, rfl⟩))))))⟩
  by_cases h8 : k = 8
  · subst h8; exact .inr ⟨1, false, rfl, by omega, .inr (.inr (.inr (.inr (.inr (.inr (.inr (.inl ⟨rfl, rfl, rfl⟩)))))))⟩
  by_cases h9 : k = 9
  · subst h9; exact .inr ⟨0, false, rfl, by omega, .inr (.inr (.inr (.inr (.inr (.inr (.inr (.inr ⟨rfl, rfl, rfl⟩)))))))⟩
  · refine .inl ⟨fun j a b e => by omega, ?_⟩
    unfold wantS; rw [if_neg h1, if_neg h2, if_neg h3, if_neg h4, if_neg h8, if_neg h5, if_neg h6, if_neg h7, if_neg h9]
theorem empty_of {α : Type} (l : List α) : l.isEmpty = decide (l.length = 0) := by cases l <;> simp
theorem head_eq (k : Int) (f1 : ByteArray) (f2 : Int) (l3 : List S38) (l4 l5 : List S41) (W : Nat) (nm : Bool) (h : wantS k = some (W, nm)) :
    headB ⟨k, f1, f2, l3, l4, l5⟩ = (l3.length == W && ((nm == nameB (lst f1)) && (nm || (f1.toList == ([] : List UInt8)))) && cellB k f2 && (loopsB k || decide (l4.length = 0)) && (k == 6 || decide (l5.length = 0))) := by
  unfold headB; simp only [h, empty_of]
theorem cS_ok (rec_ : Int → List S41 → Bool × Int) (n k : Int) (f1 : ByteArray) (f2 : Int) (l3 : List S38) (l4 l5 : List S41) (h : headB ⟨k, f1, f2, l3, l4, l5⟩ = true) : cS rec_ n ⟨k, f1, f2, l3, l4, l5⟩ =
    (if (goE (cE 48) n l3).1 = true then (if loopsB k = true then (if (rec_ (goE (cE 48) n l3).2 l4).1 = true then (if l5.length = 0 then (true, (rec_ (goE (cE 48) n l3).2 l4).2) else rec_ (rec_ (goE (cE 48) n l3).2 l4).2 l5) else (false, (rec_ (goE (cE 48) n l3).2 l4).2)) else (true, (goE (cE 48) n l3).2)) else (false, (goE (cE 48) n l3).2)) := by
  unfold cS; rw [if_pos h]
theorem stmt_all (b : Nat) (BC : BlockC b) (hb13 : b ≤ 13) (k : Int) (f1 : ByteArray) (f2 : Int) (l3 : List S38) (l4 l5 : List S41) (A3 A4 A5 : Option Addr) (c3 c4 c5 : Nat) (n : Int) (g : Nat) (w0 w : World) (h0 : 0 ≤ n) (h1 : n ≤ 600) (hI : IsS95 w0 w g n) (hB : Below w0.heap.size w0 w)
    (hC3 : Kd.C k38 w0 A3 l3.length l3) (hC4 : Kd.C k41 w0 A4 l4.length l4) (hC5 : Kd.C k41 w0 A5 l5.length l5) (hcs4 : l4.length ≤ c4) (hcs5 : l5.length ≤ c5) (r : Bool) (m : Int) (hr : cS (cB b) n ⟨k, f1, f2, l3, l4, l5⟩ = (r, m)) (bl : Int) (hbl0 : 0 ≤ bl) (hbl : bl + 1 = 13 - (b : Int)) :
    Calls Try.prog 94 #[.pointer (some ⟨g, 0, none⟩), .agg #[.int .i64 k, .string f1, .int .i64 f2, .slice A3 l3.length c3, .slice A4 l4.length c4, .slice A5 l5.length c5], .int .i64 bl] w (CPost r m g w0 w) := by
  have hbl1 : bl ≤ 13 := by omega
  have bad : headB ⟨k, f1, f2, l3, l4, l5⟩ = false → (r, m) = (false, n) := by
    intro h; unfold cS at hr; rw [if_neg (by rw [h]; simp)] at hr; exact hr.symm
  rcases want_cases k with ⟨hk, hw⟩ | ⟨W, nm, hw, hW2, hk⟩
  · have e := bad (by unfold headB; simp only [hw])
    injection e with e1 e2; subst e1 e2; exact stmt_kind k f1 f2 l3 l4 l5 l3.length l4.length l5.length A3 A4 A5 c3 c4 c5 _ g w0 w h0 h1 hI hB bl hbl0 hbl1 hk
  · have hd := head_eq k f1 f2 l3 l4 l5 W nm hw
    have hW : (0 : Int) ≤ (W : Int) ∧ (W : Int) ≤ 2 := by omega
    by_cases q1 : (l3.length : Int) = (W : Int)
    · have q1' : (l3.length == W) = true := beq_iff_eq.2 (by omega)
      rw [q1', Bool.true_and] at hd; by_cases q2 : nm = nameB (lst f1)
      · have q2' : (nm == nameB (lst f1)) = true := beq_iff_eq.2 q2
        rw [q2', Bool.true_and] at hd; by_cases q3 : nm = true ∨ f1.toList = []
        · have hn : (nm = true ∧ nameB (lst f1) = true) ∨ (nm = false ∧ nameB (lst f1) = false ∧ f1.toList = []) := by
            cases hnm : nm with
            | true => rw [hnm] at q2; exact .inl ⟨rfl, q2.symm⟩
            | false =>
              rw [hnm] at q2 q3; exact .inr ⟨rfl, q2.symm, by rcases q3 with x | x; exact absurd x (by simp); exact x⟩
          have q3' : (nm || (f1.toList == ([] : List UInt8))) = true := by
            rcases q3 with x | x
            · rw [x]; rfl
            · rw [beq_iff_eq.2 x, Bool.or_true]
          rw [q3', Bool.true_and] at hd; by_cases q4 : (k = 5 ∧ 0 ≤ f2 ∧ f2 ≤ 255) ∨ (k ≠ 5 ∧ f2 = 0)
          · have q4' : cellB k f2 = true := by
              unfold cellB; rcases q4 with ⟨x, y, z⟩ | ⟨x, y⟩
              · rw [if_pos x, decide_eq_true y, decide_eq_true z]; rfl
              · rw [if_neg x, y]; rfl
            rw [q4', Bool.true_and] at hd; by_cases k6 : k = 6
            · have q5 : loopsB k = true := by unfold loopsB; rw [k6]; rfl
              have q6 : (k == 6) = true := beq_iff_eq.2 k6; rw [q5, q6, Bool.true_or, Bool.true_or, Bool.true_and] at hd; refine stmt_ok k f1 f2 l3 l4 l5 l3.length l4.length l5.length A3 A4 A5 c3 c4 c5 n g w0 w h0 h1 hI hB bl hbl0 hbl1 W nm _ hW hk rfl q1 hn q4 b BC hbl rfl rfl rfl hC3 hC4 hC5 hcs4 hcs5 true (.inr (.inl ⟨k6, by omega, rfl⟩)) (.inl ⟨rfl, k6⟩) (goE (cE 48) n l3).1 (goE (cE 48) n l3).2 r m (z_199) ?_
              have hin := goE_in (cE 48) (fun n x a c => cE_in 48 n x a c) l3 n h0 h1; rw [cS_ok _ _ _ _ _ _ _ _ hd] at hr; generalize goE (cE 48) n l3 = p at hr hin ⊢; unfold SFin; by_cases p1 : p.1 = true
              · obtain ⟨i1, i2, i3⟩ := hin
                have hin2 := cB_in b p.2 l4 i1 (i3 p1); rw [if_pos p1] at hr; have hr' := hr; simp only [q5, if_true] at hr'; generalize hp : cB b p.2 l4 = p2 at hr' hin2 ⊢; obtain ⟨p21, p22⟩ := p2; by_cases p3 : p21 = true
                · subst p3
                  simp only [if_true] at hr'; by_cases p4 : l5.length = 0
                  · simp only [p4, if_true] at hr'
                    injection hr' with e1 e2; exact .inr (.inr (.inr (.inl ⟨p1, rfl, i1, i3 p1, by rw [← e2], e1.symm, p4⟩)))
                  · simp only [p4, if_false] at hr'
                    exact .inr (.inr (.inr (.inr ⟨p1, rfl, i1, i3 p1, p22, rfl, hin2.1, hin2.2.2 rfl, p4, hr'⟩)))
                · have p3' : p21 = false := by simpa using p3
                  subst p3'; simp only [Bool.false_eq_true, if_false] at hr'; injection hr' with e1 e2; exact .inr (.inr (.inl ⟨p1, rfl, i1, i3 p1, by rw [← e2], e1.symm⟩))
              · rw [if_neg p1] at hr
                injection hr with e1 e2; exact z_200
            · have k6' : (k == 6) = false := beq_eq_false_iff_ne.2 k6
              rw [k6', Bool.false_or] at hd; by_cases k7 : k = 7
              · have q5 : loopsB k = true := by unfold loopsB; rw [k7]; rfl
                rw [q5, Bool.true_or, Bool.true_and] at hd; by_cases q6 : l5.length = 0
                · rw [decide_eq_true q6] at hd
                  refine stmt_ok k f1 f2 l3 l4 l5 l3.length l4.length l5.length A3 A4 A5 c3 c4 c5 n g w0 w h0 h1 hI hB bl hbl0 hbl1 W nm _ hW hk rfl q1 hn q4 b BC hbl rfl rfl rfl hC3 hC4 hC5 hcs4 hcs5 true (.inl ⟨k6, k7, rfl⟩) (.inr (.inl ⟨rfl, k6, q6⟩)) (goE (cE 48) n l3).1 (goE (cE 48) n l3).2 r m (z_199) ?_
                  have hin := goE_in (cE 48) (fun n x a c => cE_in 48 n x a c) l3 n h0 h1; rw [cS_ok _ _ _ _ _ _ _ _ hd] at hr; generalize goE (cE 48) n l3 = p at hr hin ⊢; unfold SFin; by_cases p1 : p.1 = true
                  · obtain ⟨i1, i2, i3⟩ := hin
                    rw [if_pos p1] at hr; have hr' := hr; simp only [q5, if_true, q6] at hr'; generalize hp : cB b p.2 l4 = p2 at hr' ⊢; obtain ⟨p21, p22⟩ := p2; by_cases p3 : p21 = true
                    · subst p3
                      simp only [if_true] at hr'; injection hr' with e1 e2; exact .inr (.inr (.inr (.inl ⟨p1, rfl, i1, i3 p1, by rw [← e2], e1.symm, q6⟩)))
                    · have p3' : p21 = false := by simpa using p3
                      subst p3'; simp only [Bool.false_eq_true, if_false] at hr'; injection hr' with e1 e2; exact .inr (.inr (.inl ⟨p1, rfl, i1, i3 p1, by rw [← e2], e1.symm⟩))
                  · rw [if_neg p1] at hr
                    injection hr with e1 e2; exact z_200
                · rw [decide_eq_false q6] at hd
                  have e := bad hd; injection e with e1 e2; subst e1 e2; exact stmt_b6 k f1 f2 l3 l4 l5 l3.length l4.length l5.length A3 A4 A5 c3 c4 c5 _ g w0 w h0 h1 hI hB bl hbl0 hbl1 W nm _ hW hk rfl q1 hn q4 (.inl k7) k6 q6
              · have q5 : loopsB k = false := by unfold loopsB; rw [k6', beq_eq_false_iff_ne.2 k7]; rfl
                rw [q5, Bool.false_or] at hd; by_cases q6 : l4.length = 0
                · rw [decide_eq_true q6, Bool.true_and] at hd
                  by_cases q7 : l5.length = 0
                  · rw [decide_eq_true q7] at hd
                    refine stmt_ok k f1 f2 l3 l4 l5 l3.length l4.length l5.length A3 A4 A5 c3 c4 c5 n g w0 w h0 h1 hI hB bl hbl0 hbl1 W nm _ hW hk rfl q1 hn q4 b BC hbl rfl rfl rfl hC3 hC4 hC5 hcs4 hcs5 false (.inr (.inr ⟨k6, k7, rfl⟩)) (.inr (.inr ⟨rfl, k6, q6, q7⟩)) (goE (cE 48) n l3).1 (goE (cE 48) n l3).2 r m (z_199) ?_
                    rw [cS_ok _ _ _ _ _ _ _ _ hd] at hr; generalize goE (cE 48) n l3 = p at hr ⊢; unfold SFin; by_cases p1 : p.1 = true
                    · rw [if_pos p1] at hr
                      have hr' := hr; simp only [q5, Bool.false_eq_true, if_false] at hr'; injection hr' with e1 e2; exact .inr (.inl ⟨p1, rfl, q7, e1.symm, e2.symm⟩)
                    · rw [if_neg p1] at hr
                      injection hr with e1 e2; exact z_200
                  · rw [decide_eq_false q7] at hd
                    have e := bad hd; injection e with e1 e2; subst e1 e2; exact stmt_b6 k f1 f2 l3 l4 l5 l3.length l4.length l5.length A3 A4 A5 c3 c4 c5 _ g w0 w h0 h1 hI hB bl hbl0 hbl1 W nm _ hW hk rfl q1 hn q4 (.inr q6) k6 q7
                · rw [decide_eq_false q6, Bool.false_and] at hd
                  have e := bad hd; injection e with e1 e2; subst e1 e2; exact stmt_b5 k f1 f2 l3 l4 l5 l3.length l4.length l5.length A3 A4 A5 c3 c4 c5 _ g w0 w h0 h1 hI hB bl hbl0 hbl1 W nm _ hW hk rfl q1 hn q4 k7 k6 q6
          · have q4' : cellB k f2 = false := by
              unfold cellB; by_cases x : k = 5
              · rw [if_pos x]
                cases hh : (decide (0 ≤ f2) && decide (f2 ≤ 255)) with
                | false => rfl
                | true => simp only [Bool.and_eq_true, decide_eq_true_eq] at hh; exact absurd (.inl ⟨x, hh.1, hh.2⟩) q4
              · rw [if_neg x]; exact beq_eq_false_iff_ne.2 (fun y => q4 (.inr ⟨x, y⟩))
            rw [q4', Bool.false_and, Bool.false_and] at hd; have e := bad hd; injection e with e1 e2; subst e1 e2; exact stmt_b4 k f1 f2 l3 l4 l5 l3.length l4.length l5.length A3 A4 A5 c3 c4 c5 _ g w0 w h0 h1 hI hB bl hbl0 hbl1 W nm _ hW hk rfl q1 hn (by
              by_cases x : k = 5
              · refine .inl ⟨x, ?_⟩
                by_cases y : f2 < 0
                · exact .inl y
                · exact .inr ⟨by omega, by
                    by_cases z : 255 < f2
                    · exact z
                    · exact absurd (.inl ⟨x, by omega, by omega⟩) q4⟩
              · exact .inr ⟨x, fun y => q4 (.inr ⟨x, y⟩)⟩)
        · have hnm : nm = false := by cases h : nm with | true => exact absurd (.inl h) q3 | false => rfl
          have hf : f1.toList ≠ [] := fun x => q3 (.inr x); rw [hnm, beq_eq_false_iff_ne.2 hf] at hd; have e := bad (by rw [hd]; rfl); injection e with e1 e2; subst e1 e2; exact stmt_b3 k f1 f2 l3 l4 l5 l3.length l4.length l5.length A3 A4 A5 c3 c4 c5 _ g w0 w h0 h1 hI hB bl hbl0 hbl1 W nm _ hW hk rfl q1 hnm (by rw [← q2]; exact hnm) hf
      · rw [beq_eq_false_iff_ne.2 q2] at hd
        have e := bad (by rw [hd]; rfl); injection e with e1 e2; subst e1 e2; exact stmt_b2 k f1 f2 l3 l4 l5 l3.length l4.length l5.length A3 A4 A5 c3 c4 c5 _ g w0 w h0 h1 hI hB bl hbl0 hbl1 W nm _ hW hk rfl q1 q2
    · rw [show (l3.length == W) = false from beq_eq_false_iff_ne.2 (by omega)] at hd
      have e := bad (by rw [hd]; rfl); injection e with e1 e2; subst e1 e2; exact stmt_b1 k f1 f2 l3 l4 l5 l3.length l4.length l5.length A3 A4 A5 c3 c4 c5 _ g w0 w h0 h1 hI hB bl hbl0 hbl1 W nm _ hW hk rfl q1
end Go.Proofs.Ytobkdmmnbnpemaa.K
namespace Go.Proofs.Ytobkdmmnbnpemaa.K
open Go.RowKit Go.Proofs.YtobkdmmnbnpemaaW.PrintWords Go.Proofs.YtobkdmmnbnpemaaW.PrintLast Go.Proofs.YtobkdmmnbnpemaaW.PrintMore
attribute [local go_sem] max2_int min2_int max_two min_two max_three min_three max_four min_four
set_option linter.unusedVariables false
set_option linter.unusedSimpArgs false
theorem drop_rd41 (l : List S41) (i : Int) (h0 : 0 ≤ i) (h1 : i < (l.length : Int)) : l.drop i.toNat = rd_T41 l i :: l.drop (i + 1).toNat := by
  have hl : i.toNat < l.length := by omega
  rw [List.drop_eq_getElem_cons hl]; unfold rd_T41; rw [List.getD_eq_getElem?_getD, List.getElem?_eq_getElem hl]; have : (i + 1).toNat = i.toNat + 1 := by omega
  rw [this]
  rfl
theorem eta41 (x : S41) : (⟨x.f0, x.f1, x.f2, x.f3, x.f4, x.f5⟩ : S41) = x := by cases x; rfl
set_option maxHeartbeats 4000000 in
set_option maxRecDepth 100000 in
theorem block_deep (L : Nat) (A : Option Addr) (c : Nat) (n : Int) (g : Nat) (w0 w : World) (hI : IsS95 w0 w g n) (hB : Below w0.heap.size w0 w) :
    Calls Try.prog 55 #[.pointer (some ⟨g, 0, none⟩), .slice A L c, .int .i64 13] w (CPost false n g w0 w) := by
  have HI := A_0 hI; have HB := A_0 hB; have HK := A_0 (KeepBut.refl w g none); clear hI hB; by_cases hL : 600 < L
  · have e1 : decide ((600 : Int) < (L : Int)) = true := decide_eq_true (by omega)
    have e2 : decide (600 < L) = true := decide_eq_true (by omega)
    go_enter Try.func55, Try.ntmps55
    go_wp2
    go_ret
    exact z_193
  · have e1 : decide ((600 : Int) < (L : Int)) = false := decide_eq_false (by omega)
    have e2 : decide (600 < L) = false := decide_eq_false (by omega)
    go_enter Try.func55, Try.ntmps55
    go_wp2
    go_ret
    exact z_193
set_option maxHeartbeats 4000000 in
set_option maxRecDepth 100000 in
theorem block_long (L : Nat) (A : Option Addr) (c : Nat) (n : Int) (g : Nat) (w0 w : World) (hI : IsS95 w0 w g n) (hB : Below w0.heap.size w0 w) (bl : Int) (hL : 600 < L) :
    Calls Try.prog 55 #[.pointer (some ⟨g, 0, none⟩), .slice A L c, .int .i64 bl] w (CPost false n g w0 w) := by
  have HI := A_0 hI; have HB := A_0 hB; have HK := A_0 (KeepBut.refl w g none); clear hI hB; have e1 : decide ((600 : Int) < (L : Int)) = true := decide_eq_true (by omega); have e2 : decide (600 < L) = true := decide_eq_true (by omega)
  go_enter Try.func55, Try.ntmps55
  go_wp2
  go_ret
  exact z_193
def BRel (b : Nat) (l : List S41) (L : Nat) (r : Bool × Int) (g : Nat) (w0 w : World) (v : Value) (w' : World) : Prop :=
  ∃ (i m : Int), v = .int .i64 i ∧ 0 ≤ i ∧ i ≤ (L : Int) ∧ 0 ≤ m ∧ m ≤ 600 ∧ Aside0 (goE (oneS (cB b)) m (l.drop i.toNat) = r) ∧ Aside0 (IsS95 w0 w' g m) ∧ Aside0 (Below w0.heap.size w0 w') ∧ Aside0 (KeepBut w w' g none)
set_option maxHeartbeats 8000000 in
set_option maxRecDepth 100000 in
theorem block_step (b : Nat) (BC0 : BlockC b) (hb13 : b ≤ 12) (l : List S41) (L : Nat) (A : Option Addr) (c : Nat) (n : Int) (r : Bool) (m : Int) (g : Nat) (w0 w : World) (hL : l.length = L) (hC : Kd.C k41 w0 A l.length l) (hc : L ≤ c) (h0 : 0 ≤ n) (h1 : n ≤ 600) (hI : IsS95 w0 w g n) (hB : Below w0.heap.size w0 w) (hLs : L ≤ 600) (hr : goE (oneS (cB b)) n l = (r, m)) (bl : Int) (hbl0 : 0 ≤ bl) (hbl : bl + 1 = 13 - (b : Int)) :
    Calls Try.prog 55 #[.pointer (some ⟨g, 0, none⟩), .slice A L c, .int .i64 bl] w (CPost r m g w0 w) := by
  have hu41 := Try.underlying41; have HI := A_0 hI; have HB := A_0 hB; have HK := A_0 (KeepBut.refl w g none); have HL := A_0 hL; have HC := A_0 hC; have HCC := A_0 hc; have HR := A_0 hr; have BC := A_0 BC0; have HBL := A_0 hbl; have HB13 := A_0 hb13; have e1 : decide ((600 : Int) < (L : Int)) = false := decide_eq_false (by omega); have e2 : decide (600 < L) = false := decide_eq_false (by omega); have e3 : decide (12 < bl) = false := decide_eq_false (by omega); clear hI hB hL hC hc hr BC0 hbl hb13
  go_enter Try.func55, Try.ntmps55
  go_wp2
  go_loopw [18] (fun v wr => BRel b l L (r, m) g w0 w v wr) (fun v _ => L - (intOf v).toNat)
  case atStart => exact ⟨0, n, rfl, Int.le_refl _, by omega, h0, h1, HR, ⟨z_195⟩, ⟨z_16⟩, ⟨z_196⟩⟩
  case round =>
    unfold BRel at hrel; clear HR HI HB HK; obtain ⟨i, j, rfl, hi0, hi1, hj0, hj1, HR, HI, HB, HK⟩ := hrel; by_cases hlt : i < (L : Int)
    · have hlt' : i < (l.length : Int) := by rw [HL.out]; exact hlt
      have hb0 : decide (i < (L : Int)) = true := decide_eq_true hlt; have hdr := drop_rd41 l i hi0 hlt'; have HR0 := HR.out; rw [hdr] at HR0; unfold goE at HR0; obtain ⟨ad, A3, c3, A4, c4, A5, c5, eA, hx0, hx1, hx2, hx3, hx4, hx5, hl3, hi3, hl4, hi4, hl5, hi5⟩ := at_T41 HC.out i hi0 hlt'; subst eA; replace hx0 := (HB.out.cell (World.block_lt_of_cell? w0 _ hx0)).trans hx0; replace hx1 := (HB.out.cell (World.block_lt_of_cell? w0 _ hx1)).trans hx1; replace hx2 := (HB.out.cell (World.block_lt_of_cell? w0 _ hx2)).trans hx2; replace hx3 := (HB.out.cell (World.block_lt_of_cell? w0 _ hx3)).trans hx3; replace hx4 := (HB.out.cell (World.block_lt_of_cell? w0 _ hx4)).trans hx4; replace hx5 := (HB.out.cell (World.block_lt_of_cell? w0 _ hx5)).trans hx5; have HC3 := A_0 hi3; have HC4 := A_0 hi4; have HC5 := A_0 hi5; have HL4 := A_0 hl4; have HL5 := A_0 hl5; have p1 := eq_true hi0; have p2 := eq_true hlt; clear hdr hi3 hi4 hi5 hl3 hl4 hl5 HR; by_cases q : j + 1 ≤ 600
      · have H1 := A_0 (one_t j hj0 q)
        have hj2 : 0 ≤ j + 1 := by omega
        obtain ⟨bq, mq, hr1⟩ : ∃ bq mq, cS (cB b) (j + 1) (rd_T41 l i) = (bq, mq) := pair_of _; have hone : oneS (cB b) j (rd_T41 l i) = (bq, mq) := by unfold oneS; rw [if_neg (by omega)]; exact hr1
        have hin := cS_in (cB b) (fun n l a c => cB_in b n l a c) (j + 1) (rd_T41 l i) hj2 q; rw [hone] at HR0; rw [hr1] at hin; have HR1 := A_0 (show cS (cB b) (j + 1) ⟨(rd_T41 l i).f0, (rd_T41 l i).f1, (rd_T41 l i).f2, (rd_T41 l i).f3, (rd_T41 l i).f4, (rd_T41 l i).f5⟩ = (bq, mq) from by rw [eta41]; exact hr1)
        have HIN := A_0 hin; clear hr1 hone hin; cases bq with
        | true =>
          have HR := A_0 (show goE (oneS (cB b)) mq (l.drop (i + 1).toNat) = (r, m) from HR0); clear HR0
          go_wp2_with fail
          have BK := A_0 (blk_new wr (.cells #[.int .i64 (rd_T41 l i).f0, .string (rd_T41 l i).f1, .int .i64 (rd_T41 l i).f2, .slice A3 (rd_T41 l i).f3.length c3, .slice A4 (rd_T41 l i).f4.length c4, .slice A5 (rd_T41 l i).f5.length c5] 41 (0, 0))); have GN := A_0 (show wr.heap.size ≠ g from IsS95.fresh HI.out wr.heap.size (Nat.le_refl _))
          (with_reducible refine (tree_counter_one.calls g j _ _ w0 _ (z_195) (z_16) H1.out).mono ?_)
          rintro e w5 ⟨rfl, hi5, hb5, hk5⟩; have n0_ := A_0 hi5; have n1_ := A_0 hb5; have n3_ := A_0 (KeepBut.blk hk5 BK.out GN.out (by simp)); have n2_ := A_0 (KeepBut.trans (show KeepBut w _ g none from z_196) hk5 (.inl rfl)); clear HI HB HK BK hi5 hb5 hk5 hx0 hx1 hx2 hx3 hx4 hx5; have HI := n0_; have HB := n1_; have HK := n2_; have BK := n3_; clear n0_ n1_ n2_ n3_; have hcz0 : w5.cell? ⟨wr.heap.size, 0, none⟩ = some (.int .i64 (rd_T41 l i).f0) := (blk_cell BK.out 0).trans rfl; have hfz0 := blk_frozen BK.out 0; have hcz1 : w5.cell? ⟨wr.heap.size, 1, none⟩ = some (.string (rd_T41 l i).f1) := (blk_cell BK.out 1).trans rfl; have hfz1 := blk_frozen BK.out 1; have hcz2 : w5.cell? ⟨wr.heap.size, 2, none⟩ = some (.int .i64 (rd_T41 l i).f2) := (blk_cell BK.out 2).trans rfl; have hfz2 := blk_frozen BK.out 2; have hcz3 : w5.cell? ⟨wr.heap.size, 3, none⟩ = some (.slice A3 (rd_T41 l i).f3.length c3) := (blk_cell BK.out 3).trans rfl; have hfz3 := blk_frozen BK.out 3; have hcz4 : w5.cell? ⟨wr.heap.size, 4, none⟩ = some (.slice A4 (rd_T41 l i).f4.length c4) := (blk_cell BK.out 4).trans rfl; have hfz4 := blk_frozen BK.out 4; have hcz5 : w5.cell? ⟨wr.heap.size, 5, none⟩ = some (.slice A5 (rd_T41 l i).f5.length c5) := (blk_cell BK.out 5).trans rfl; have hfz5 := blk_frozen BK.out 5
          go_wp2_with fail
          (with_reducible refine (stmt_all b BC.out (by have := HB13.out; omega) (rd_T41 l i).f0 (rd_T41 l i).f1 (rd_T41 l i).f2 (rd_T41 l i).f3 (rd_T41 l i).f4 (rd_T41 l i).f5 A3 A4 A5 c3 c4 c5 (j + 1) g w0 _ hj2 q (z_195) (z_16) HC3.out HC4.out HC5.out HL4.out HL5.out true mq HR1.out bl hbl0 HBL.out).mono ?_)
          rintro e w6 ⟨rfl, hi5, hb5, hk5⟩; clear BK hcz0 hfz0 hcz1 hfz1 hcz2 hfz2 hcz3 hfz3 hcz4 hfz4 hcz5 hfz5; have n0_ := A_0 hi5; have n1_ := A_0 hb5; have n2_ := A_0 (KeepBut.trans (show KeepBut w _ g none from z_196) hk5 (.inl rfl)); clear HI HB HK hi5 hb5 hk5; have HI := n0_; have HB := n1_; have HK := n2_; clear n0_ n1_ n2_
          go_wp2
          go_roundw
          case rel => exact ⟨i + 1, mq, rfl, by omega, by omega, HIN.out.1, HIN.out.2.2 rfl, HR, ⟨z_195⟩, ⟨z_16⟩, ⟨z_196⟩⟩
          case measure => simp [intOf]; omega
        | false =>
          have HE := A_0 (show (false, mq) = (r, m) from HR0); clear HR0
          go_wp2_with fail
          have BK := A_0 (blk_new wr (.cells #[.int .i64 (rd_T41 l i).f0, .string (rd_T41 l i).f1, .int .i64 (rd_T41 l i).f2, .slice A3 (rd_T41 l i).f3.length c3, .slice A4 (rd_T41 l i).f4.length c4, .slice A5 (rd_T41 l i).f5.length c5] 41 (0, 0))); have GN := A_0 (show wr.heap.size ≠ g from IsS95.fresh HI.out wr.heap.size (Nat.le_refl _))
          (with_reducible refine (tree_counter_one.calls g j _ _ w0 _ (z_195) (z_16) H1.out).mono ?_)
          rintro e w5 ⟨rfl, hi5, hb5, hk5⟩; have n0_ := A_0 hi5; have n1_ := A_0 hb5; have n3_ := A_0 (KeepBut.blk hk5 BK.out GN.out (by simp)); have n2_ := A_0 (KeepBut.trans (show KeepBut w _ g none from z_196) hk5 (.inl rfl)); clear HI HB HK BK hi5 hb5 hk5 hx0 hx1 hx2 hx3 hx4 hx5; have HI := n0_; have HB := n1_; have HK := n2_; have BK := n3_; clear n0_ n1_ n2_ n3_; have hcz0 : w5.cell? ⟨wr.heap.size, 0, none⟩ = some (.int .i64 (rd_T41 l i).f0) := (blk_cell BK.out 0).trans rfl; have hfz0 := blk_frozen BK.out 0; have hcz1 : w5.cell? ⟨wr.heap.size, 1, none⟩ = some (.string (rd_T41 l i).f1) := (blk_cell BK.out 1).trans rfl; have hfz1 := blk_frozen BK.out 1; have hcz2 : w5.cell? ⟨wr.heap.size, 2, none⟩ = some (.int .i64 (rd_T41 l i).f2) := (blk_cell BK.out 2).trans rfl; have hfz2 := blk_frozen BK.out 2; have hcz3 : w5.cell? ⟨wr.heap.size, 3, none⟩ = some (.slice A3 (rd_T41 l i).f3.length c3) := (blk_cell BK.out 3).trans rfl; have hfz3 := blk_frozen BK.out 3; have hcz4 : w5.cell? ⟨wr.heap.size, 4, none⟩ = some (.slice A4 (rd_T41 l i).f4.length c4) := (blk_cell BK.out 4).trans rfl; have hfz4 := blk_frozen BK.out 4; have hcz5 : w5.cell? ⟨wr.heap.size, 5, none⟩ = some (.slice A5 (rd_T41 l i).f5.length c5) := (blk_cell BK.out 5).trans rfl; have hfz5 := blk_frozen BK.out 5
          go_wp2_with fail
          (with_reducible refine (stmt_all b BC.out (by have := HB13.out; omega) (rd_T41 l i).f0 (rd_T41 l i).f1 (rd_T41 l i).f2 (rd_T41 l i).f3 (rd_T41 l i).f4 (rd_T41 l i).f5 A3 A4 A5 c3 c4 c5 (j + 1) g w0 _ hj2 q (z_195) (z_16) HC3.out HC4.out HC5.out HL4.out HL5.out false mq HR1.out bl hbl0 HBL.out).mono ?_)
          rintro e w6 ⟨rfl, hi5, hb5, hk5⟩; clear BK hcz0 hfz0 hcz1 hfz1 hcz2 hfz2 hcz3 hfz3 hcz4 hfz4 hcz5 hfz5; have n0_ := A_0 hi5; have n1_ := A_0 hb5; have n2_ := A_0 (KeepBut.trans (show KeepBut w _ g none from z_196) hk5 (.inl rfl)); clear HI HB HK hi5 hb5 hk5; have HI := n0_; have HB := n1_; have HK := n2_; clear n0_ n1_ n2_
          go_wp2
          go_ret
          have he := HE.out; injection he with he1 he2; subst he1 he2; exact z_193
      · have H1 := A_0 (one_f j hj0 hj1 q)
        have hone : oneS (cB b) j (rd_T41 l i) = (false, j + 1) := by unfold oneS; rw [if_pos (by omega)]
        rw [hone] at HR0; have HE := A_0 (show (false, j + 1) = (r, m) from HR0); clear HR0 hone
        go_wp2_with fail
        have BK := A_0 (blk_new wr (.cells #[.int .i64 (rd_T41 l i).f0, .string (rd_T41 l i).f1, .int .i64 (rd_T41 l i).f2, .slice A3 (rd_T41 l i).f3.length c3, .slice A4 (rd_T41 l i).f4.length c4, .slice A5 (rd_T41 l i).f5.length c5] 41 (0, 0))); have GN := A_0 (show wr.heap.size ≠ g from IsS95.fresh HI.out wr.heap.size (Nat.le_refl _))
        (with_reducible refine (tree_counter_one.calls g j _ _ w0 _ (z_195) (z_16) H1.out).mono ?_)
        rintro e w5 ⟨rfl, hi5, hb5, hk5⟩; have n0_ := A_0 hi5; have n1_ := A_0 hb5; have n3_ := A_0 (KeepBut.blk hk5 BK.out GN.out (by simp)); have n2_ := A_0 (KeepBut.trans (show KeepBut w _ g none from z_196) hk5 (.inl rfl)); clear HI HB HK BK hi5 hb5 hk5 hx0 hx1 hx2 hx3 hx4 hx5; have HI := n0_; have HB := n1_; have HK := n2_; have BK := n3_; clear n0_ n1_ n2_ n3_
        go_wp2
        go_ret
        have he := HE.out; injection he with he1 he2; subst he1 he2; exact z_193
    · have hb0 : decide (i < (L : Int)) = false := decide_eq_false hlt
      have he : goE (oneS (cB b)) j (l.drop i.toNat) = (true, j) := by
        rw [List.drop_eq_nil_of_le (by have := HL.out; omega)]
        rfl
      have HE := A_0 (he.symm.trans HR.out); clear he HR
      go_wp2
      go_ret
      have he := HE.out; injection he with he1 he2; subst he1 he2; exact z_193
theorem block_all : ∀ b : Nat, b ≤ 13 → BlockC b
  | 0, _ => by
    intro l L A c n r m g w0 w hL hC hc h0 h1 hI hB hr bl hbl; have e : bl = 13 := by omega
    subst e; injection hr with e1 e2; subst e1 e2; exact block_deep L A c _ g w0 w hI hB
  | b + 1, hb => by
    have ih := block_all b (by omega); intro l L A c n r m g w0 w hL hC hc h0 h1 hI hB hr bl hbl; unfold cB at hr; by_cases q : 600 < l.length
    · rw [if_pos q] at hr
      injection hr with e1 e2; subst e1 e2; exact block_long L A c _ g w0 w hI hB bl (by omega)
    · rw [if_neg q] at hr
      exact block_step b ih (by omega) l L A c n r m g w0 w hL hC hc h0 h1 hI hB (by omega) hr bl (by omega) (by omega)
def rightB (l : List S41) : Bool := (cB 13 0 l).1
set_option maxHeartbeats 4000000 in
set_option maxRecDepth 100000 in
theorem right_calls (A : Option Addr) (c : Nat) (l : List S41) (w : World) (hC : Kd.C k41 w A l.length l) (hc : l.length ≤ c) (r : Bool) (h : rightB l = r) :
    Calls Try.prog 34 #[.slice A l.length c] w fun e w' => e = .returned (.bool r) ∧ Below w.heap.size w w' := by
  obtain ⟨r', m, hr⟩ : ∃ r' m, cB 13 0 l = (r', m) := pair_of _; have e : r' = r := by unfold rightB at h; rw [hr] at h; exact h
  subst e; have HC := A_0 hC; have HCC := A_0 hc; have HR := A_0 hr; have HB := A_0 (Below.refl w.heap.size w); have BC := A_0 (block_all 13 (Nat.le_refl _)); clear hC hc hr h
  go_enter Try.func34, Try.ntmps34
  go_wp2_with (first | ((with_reducible refine gate_dst (N := 5) rfl ?_); refine box_event ?hg (N := 5) ?hd (cs := #[.int .i64 0]) (t := 95) ?hr ?_; (case hd => rfl); (case hg => rfl); (case hr => first | (go_simp; done) | (go_simp; rfl)); intro g hg w3 hbox hb; have m1_ := A_0 (below_step HB.out hb); have m2_ := A_0 (show IsS95 w w3 g 0 from ⟨hbox, (by rw [hg]; exact below_size HB.out)⟩); clear HB hb hbox hg; have HB := m1_; have HI := m2_; clear m1_ m2_))
  (with_reducible refine (BC.out.use l _ A c 0 r' m g w _ rfl HC.out HCC.out (Int.le_refl _) (by omega) HI.out HB.out HR.out 0 (by omega)).mono ?_)
  rintro e w5 ⟨rfl, hi5, hb5, hk5⟩; have n1_ := A_0 hb5; clear HB hb5; have HB := n1_
  go_wp2
  go_ret
  exact z_30
end Go.Proofs.Ytobkdmmnbnpemaa.K
