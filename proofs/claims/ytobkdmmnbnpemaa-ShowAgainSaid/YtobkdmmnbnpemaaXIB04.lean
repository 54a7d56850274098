/- Texts of the claim, one behind the other. -/
import Derived.Test.YtobkdmmnbnpemaaXIB03
import Derived.Lib.Hide
import Derived.StillTailTactics
import Derived.Deep.RegionHeld3
set_option maxHeartbeats 16000000
set_option maxRecDepth 100000
namespace Go.Proofs.Ytobkdmmnbnpemaa.K
open Go.RowKit Go.Proofs.YtobkdmmnbnpemaaW.PrintWords Go.Proofs.YtobkdmmnbnpemaaW.PrintLast Go.Proofs.YtobkdmmnbnpemaaW.PrintMore
attribute [local go_sem] max2_int min2_int max_two min_two max_three min_three max_four min_four
set_option linter.unusedVariables false
set_option linter.unusedSimpArgs false
theorem want_cases (k : Int) : ((∀ j : Int, 1 ≤ j → j ≤ 9 → k ≠ j) ∧ wantS k = none) ∨ ∃ (W : Nat) (nm : Bool), wantS k = some (W, nm) ∧ W ≤ 2 ∧
  ((k = 1 ∧ (W : Int) = 1 ∧ nm = true) ∨ (k = 2 ∧ (W : Int) = 1 ∧ nm = true) ∨ (k = 3 ∧ (W : Int) = 2 ∧ nm = false) ∨ (k = 4 ∧ (W : Int) = 1 ∧ nm = false) ∨ (k = 5 ∧ (W : Int) = 1 ∧ nm = false) ∨ (k = 6 ∧ (W : Int) = 1 ∧ nm = false) ∨ (k = 7 ∧ (W : Int) = 1 ∧ nm = false) ∨ (k = 8 ∧ (W : Int) = 1 ∧ nm = false) ∨ (k = 9 ∧ (W : Int) = 0 ∧ nm = false)) := by
 by_cases h1 : k = 1
 ·subst h1; exact .inr ⟨1, true, rfl, by omega, .inl ⟨rfl, rfl, rfl⟩⟩
 by_cases h2 : k = 2
 ·subst h2; exact .inr ⟨1, true, rfl, by omega, .inr (.inl ⟨rfl, rfl, rfl⟩)⟩
 by_cases h3 : k = 3
 ·subst h3; exact .inr ⟨2, false, rfl, by omega, .inr (.inr (.inl ⟨rfl, rfl, rfl⟩))⟩
 by_cases h4 : k = 4
 ·subst h4; exact .inr ⟨1, false, rfl, by omega, .inr (.inr (.inr (.inl ⟨rfl, rfl, rfl⟩)))⟩
 by_cases h5 : k = 5
 ·subst h5; exact .inr ⟨1, false, rfl, by omega, .inr (.inr (.inr (.inr (.inl ⟨rfl, rfl, rfl⟩))))⟩
 by_cases h6 : k = 6
 ·subst h6; exact .inr ⟨1, false, rfl, by omega, .inr (.inr (.inr (.inr (.inr (.inl ⟨rfl, rfl, rfl⟩)))))⟩
 by_cases h7 : k = 7
 ·subst h7; exact .inr ⟨1, false, rfl, by omega, .inr (.inr (.inr (.inr (.inr (.inr (.inl ⟨rfl, rfl, rfl⟩))))))⟩
 by_cases h8 : k = 8
 ·subst h8; exact .inr ⟨1, false, rfl, by omega, .inr (.inr (.inr (.inr (.inr (.inr (.inr (.inl ⟨rfl, rfl, rfl⟩)))))))⟩
 by_cases h9 : k = 9
 ·subst h9; exact .inr ⟨0, false, rfl, by omega, .inr (.inr (.inr (.inr (.inr (.inr (.inr (.inr ⟨rfl, rfl, rfl⟩)))))))⟩
 ·refine .inl ⟨fun j a b e => by omega, ?_⟩
  unfold wantS; rw [if_neg h1, if_neg h2, if_neg h3, if_neg h4, if_neg h8, if_neg h5, if_neg h6, if_neg h7, if_neg h9]
theorem empty_of {α : Type} (l : List α) : l.isEmpty = decide (l.length = 0) := by cases l <;> simp
theorem head_eq (k : Int) (f1 : ByteArray) (f2 : Int) (l3 : List S38) (l4 l5 : List S41) (W : Nat) (nm : Bool) (h : wantS k = some (W, nm)) :
  headB ⟨k, f1, f2, l3, l4, l5⟩ = (l3.length == W && ((nm == nameB (lst f1)) && (nm || (f1.toList == ([] : List UInt8)))) && cellB k f2 && (loopsB k || decide (l4.length = 0)) && (k == 6 || decide (l5.length = 0))) := by
 unfold headB; simp only [h, empty_of]
theorem cS_ok (rec_ : Int → List S41 → Bool × Int) (n k : Int) (f1 : ByteArray) (f2 : Int) (l3 : List S38) (l4 l5 : List S41) (h : headB ⟨k, f1, f2, l3, l4, l5⟩ = true) : cS rec_ n ⟨k, f1, f2, l3, l4, l5⟩ =
  (if (goE (cE 48) n l3).1 = true then (if loopsB k = true then (if (rec_ (goE (cE 48) n l3).2 l4).1 = true then (if l5.length = 0 then (true, (rec_ (goE (cE 48) n l3).2 l4).2) else rec_ (rec_ (goE (cE 48) n l3).2 l4).2 l5) else (false, (rec_ (goE (cE 48) n l3).2 l4).2)) else (true, (goE (cE 48) n l3).2)) else (false, (goE (cE 48) n l3).2)) := by
 unfold cS; rw [if_pos h]
theorem stmt_all (b : Nat) (BC : BlockC b) (hb13 : b ≤ 13) (k : Int) (f1 : ByteArray) (f2 : Int) (l3 : List S38) (l4 l5 : List S41) (A3 A4 A5 : Option Addr) (c3 c4 c5 : Nat) (n : Int) (g : Nat) (w0 w : World) (h0 : 0 ≤ n) (h1 : n ≤ 600) (hI : IsS95 w0 w g n) (hB : Below w0.heap.size w0 w)
    (hC3 : Kd.C k38 w0 A3 l3.length l3) (hC4 : Kd.C k41 w0 A4 l4.length l4) (hC5 : Kd.C k41 w0 A5 l5.length l5) (hcs4 : l4.length ≤ c4) (hcs5 : l5.length ≤ c5) (r : Bool) (m : Int) (hr : cS (cB b) n ⟨k, f1, f2, l3, l4, l5⟩ = (r, m)) (bl : Int) (hbl0 : 0 ≤ bl) (hbl : bl + 1 = 13 - (b : Int)) :
    Calls Try.prog 94 #[.pointer (some ⟨g, 0, none⟩), .agg #[.int .i64 k, .string f1, .int .i64 f2, .slice A3 l3.length c3, .slice A4 l4.length c4, .slice A5 l5.length c5], .int .i64 bl] w (CPost r m g w0 w) := by
  have hbl1 : bl ≤ 13 := by omega
  have bad : headB ⟨k, f1, f2, l3, l4, l5⟩ = false → (r, m) = (false, n) := by
    intro h; unfold cS at hr; rw [if_neg (by rw [h]; simp)] at hr; exact hr.symm
  rcases want_cases k with ⟨hk, hw⟩ | ⟨W, nm, hw, hW2, hk⟩
  · have e := bad (by unfold headB; simp only [hw])
    injection e with e1 e2; subst e1 e2; exact stmt_kind k f1 f2 l3 l4 l5 l3.length l4.length l5.length A3 A4 A5 c3 c4 c5 _ g w0 w h0 h1 hI hB bl hbl0 hbl1 hk
  · have hd := head_eq k f1 f2 l3 l4 l5 W nm hw
    have hW : (0 : Int) ≤ (W : Int) ∧ (W : Int) ≤ 2 := by omega
    by_cases q1 : (l3.length : Int) = (W : Int)
    · have q1' : (l3.length == W) = true := beq_iff_eq.2 (by omega)
      rw [q1', Bool.true_and] at hd; by_cases q2 : nm = nameB (lst f1)
      · have q2' : (nm == nameB (lst f1)) = true := beq_iff_eq.2 q2
        rw [q2', Bool.true_and] at hd; by_cases q3 : nm = true ∨ f1.toList = []
        · have hn : (nm = true ∧ nameB (lst f1) = true) ∨ (nm = false ∧ nameB (lst f1) = false ∧ f1.toList = []) := by
            cases hnm : nm with
            | true => rw [hnm] at q2; exact .inl ⟨rfl, q2.symm⟩
            | false =>
              rw [hnm] at q2 q3; exact .inr ⟨rfl, q2.symm, by rcases q3 with x | x; exact absurd x (by simp); exact x⟩
          have q3' : (nm || (f1.toList == ([] : List UInt8))) = true := by
            rcases q3 with x | x
            · rw [x]; rfl
            · rw [beq_iff_eq.2 x, Bool.or_true]
          rw [q3', Bool.true_and] at hd; by_cases q4 : (k = 5 ∧ 0 ≤ f2 ∧ f2 ≤ 255) ∨ (k ≠ 5 ∧ f2 = 0)
          · have q4' : cellB k f2 = true := by
              unfold cellB; rcases q4 with ⟨x, y, z⟩ | ⟨x, y⟩
              · rw [if_pos x, xdt y, xdt z]; rfl
              · rw [if_neg x, y]; rfl
            rw [q4', Bool.true_and] at hd; by_cases k6 : k = 6
            · have q5 : loopsB k = true := by unfold loopsB; rw [k6]; rfl
              have q6 : (k == 6) = true := beq_iff_eq.2 k6; rw [q5, q6, Bool.true_or, Bool.true_or, Bool.true_and] at hd; refine stmt_ok k f1 f2 l3 l4 l5 l3.length l4.length l5.length A3 A4 A5 c3 c4 c5 n g w0 w h0 h1 hI hB bl hbl0 hbl1 W nm _ hW hk rfl q1 hn q4 b BC hbl rfl rfl rfl hC3 hC4 hC5 hcs4 hcs5 true (.inr (.inl ⟨k6, by omega, rfl⟩)) (.inl ⟨rfl, k6⟩) (goE (cE 48) n l3).1 (goE (cE 48) n l3).2 r m (z_221) ?_
              have hin := goE_in (cE 48) (fun n x a c => cE_in 48 n x a c) l3 n h0 h1; rw [cS_ok _ _ _ _ _ _ _ _ hd] at hr; generalize goE (cE 48) n l3 = p at hr hin ⊢; unfold SFin; by_cases p1 : p.1 = true
              · obtain ⟨i1, i2, i3⟩ := hin
                have hin2 := cB_in b p.2 l4 i1 (i3 p1); rw [if_pos p1] at hr; have hr' := hr; simp only [q5, if_true] at hr'; generalize hp : cB b p.2 l4 = p2 at hr' hin2 ⊢; obtain ⟨p21, p22⟩ := p2; by_cases p3 : p21 = true
                · subst p3
                  simp only [if_true] at hr'; by_cases p4 : l5.length = 0
                  · simp only [p4, if_true] at hr'
                    injection hr' with e1 e2; exact .inr (.inr (.inr (.inl ⟨p1, rfl, i1, i3 p1, by rw [← e2], e1.symm, p4⟩)))
                  · simp only [p4, if_false] at hr'
                    exact .inr (.inr (.inr (.inr ⟨p1, rfl, i1, i3 p1, p22, rfl, hin2.1, hin2.2.2 rfl, p4, hr'⟩)))
                · have p3' : p21 = false := by simpa using p3
                  subst p3'; simp only [Bool.false_eq_true, if_false] at hr'; injection hr' with e1 e2; exact .inr (.inr (.inl ⟨p1, rfl, i1, i3 p1, by rw [← e2], e1.symm⟩))
              · rw [if_neg p1] at hr
                injection hr with e1 e2; exact z_222
            · have k6' : (k == 6) = false := beq_eq_false_iff_ne.2 k6
              rw [k6', Bool.false_or] at hd; by_cases k7 : k = 7
              · have q5 : loopsB k = true := by unfold loopsB; rw [k7]; rfl
                rw [q5, Bool.true_or, Bool.true_and] at hd; by_cases q6 : l5.length = 0
                · rw [xdt q6] at hd
                  refine stmt_ok k f1 f2 l3 l4 l5 l3.length l4.length l5.length A3 A4 A5 c3 c4 c5 n g w0 w h0 h1 hI hB bl hbl0 hbl1 W nm _ hW hk rfl q1 hn q4 b BC hbl rfl rfl rfl hC3 hC4 hC5 hcs4 hcs5 true (.inl ⟨k6, k7, rfl⟩) (.inr (.inl ⟨rfl, k6, q6⟩)) (goE (cE 48) n l3).1 (goE (cE 48) n l3).2 r m (z_221) ?_
                  have hin := goE_in (cE 48) (fun n x a c => cE_in 48 n x a c) l3 n h0 h1; rw [cS_ok _ _ _ _ _ _ _ _ hd] at hr; generalize goE (cE 48) n l3 = p at hr hin ⊢; unfold SFin; by_cases p1 : p.1 = true
                  · obtain ⟨i1, i2, i3⟩ := hin
                    rw [if_pos p1] at hr; have hr' := hr; simp only [q5, if_true, q6] at hr'; generalize hp : cB b p.2 l4 = p2 at hr' ⊢; obtain ⟨p21, p22⟩ := p2; by_cases p3 : p21 = true
                    · subst p3
                      simp only [if_true] at hr'; injection hr' with e1 e2; exact .inr (.inr (.inr (.inl ⟨p1, rfl, i1, i3 p1, by rw [← e2], e1.symm, q6⟩)))
                    · have p3' : p21 = false := by simpa using p3
                      subst p3'; simp only [Bool.false_eq_true, if_false] at hr'; injection hr' with e1 e2; exact .inr (.inr (.inl ⟨p1, rfl, i1, i3 p1, by rw [← e2], e1.symm⟩))
                  · rw [if_neg p1] at hr
                    injection hr with e1 e2; exact z_222
                · rw [xdf q6] at hd
                  have e := bad hd; injection e with e1 e2; subst e1 e2; exact stmt_b6 k f1 f2 l3 l4 l5 l3.length l4.length l5.length A3 A4 A5 c3 c4 c5 _ g w0 w h0 h1 hI hB bl hbl0 hbl1 W nm _ hW hk rfl q1 hn q4 (.inl k7) k6 q6
              · have q5 : loopsB k = false := by unfold loopsB; rw [k6', beq_eq_false_iff_ne.2 k7]; rfl
                rw [q5, Bool.false_or] at hd; by_cases q6 : l4.length = 0
                · rw [xdt q6, Bool.true_and] at hd
                  by_cases q7 : l5.length = 0
                  · rw [xdt q7] at hd
                    refine stmt_ok k f1 f2 l3 l4 l5 l3.length l4.length l5.length A3 A4 A5 c3 c4 c5 n g w0 w h0 h1 hI hB bl hbl0 hbl1 W nm _ hW hk rfl q1 hn q4 b BC hbl rfl rfl rfl hC3 hC4 hC5 hcs4 hcs5 false (.inr (.inr ⟨k6, k7, rfl⟩)) (.inr (.inr ⟨rfl, k6, q6, q7⟩)) (goE (cE 48) n l3).1 (goE (cE 48) n l3).2 r m (z_221) ?_
                    rw [cS_ok _ _ _ _ _ _ _ _ hd] at hr; generalize goE (cE 48) n l3 = p at hr ⊢; unfold SFin; by_cases p1 : p.1 = true
                    · rw [if_pos p1] at hr
                      have hr' := hr; simp only [q5, Bool.false_eq_true, if_false] at hr'; injection hr' with e1 e2; exact .inr (.inl ⟨p1, rfl, q7, e1.symm, e2.symm⟩)
                    · rw [if_neg p1] at hr
                      injection hr with e1 e2; exact z_222
                  · rw [xdf q7] at hd
                    have e := bad hd; injection e with e1 e2; subst e1 e2; exact stmt_b6 k f1 f2 l3 l4 l5 l3.length l4.length l5.length A3 A4 A5 c3 c4 c5 _ g w0 w h0 h1 hI hB bl hbl0 hbl1 W nm _ hW hk rfl q1 hn q4 (.inr q6) k6 q7
                · rw [xdf q6, Bool.false_and] at hd
                  have e := bad hd; injection e with e1 e2; subst e1 e2; exact stmt_b5 k f1 f2 l3 l4 l5 l3.length l4.length l5.length A3 A4 A5 c3 c4 c5 _ g w0 w h0 h1 hI hB bl hbl0 hbl1 W nm _ hW hk rfl q1 hn q4 k7 k6 q6
          · have q4' : cellB k f2 = false := by
              unfold cellB; by_cases x : k = 5
              · rw [if_pos x]
                cases hh : (decide (0 ≤ f2) && decide (f2 ≤ 255)) with
                | false => rfl
                | true => simp only [Bool.and_eq_true, decide_eq_true_eq] at hh; exact absurd (.inl ⟨x, hh.1, hh.2⟩) q4
              · rw [if_neg x]; exact beq_eq_false_iff_ne.2 (fun y => q4 (.inr ⟨x, y⟩))
            rw [q4', Bool.false_and, Bool.false_and] at hd; have e := bad hd; injection e with e1 e2; subst e1 e2
            exact stmt_b4 k f1 f2 l3 l4 l5 l3.length l4.length l5.length A3 A4 A5 c3 c4 c5 _ g w0 w h0 h1 hI hB bl hbl0 hbl1 W nm _ hW hk rfl q1 hn (by
              by_cases x : k = 5
              · refine .inl ⟨x, ?_⟩
                by_cases y : f2 < 0
                · exact .inl y
                · exact .inr ⟨by omega, by
                    by_cases z : 255 < f2
                    · exact z
                    · exact absurd (.inl ⟨x, by omega, by omega⟩) q4⟩
              · exact .inr ⟨x, fun y => q4 (.inr ⟨x, y⟩)⟩)
        · have hnm : nm = false := by cases h : nm with | true => exact absurd (.inl h) q3 | false => rfl
          have hf : f1.toList ≠ [] := fun x => q3 (.inr x); rw [hnm, beq_eq_false_iff_ne.2 hf] at hd; have e := bad (by rw [hd]; rfl); injection e with e1 e2; subst e1 e2; exact stmt_b3 k f1 f2 l3 l4 l5 l3.length l4.length l5.length A3 A4 A5 c3 c4 c5 _ g w0 w h0 h1 hI hB bl hbl0 hbl1 W nm _ hW hk rfl q1 hnm (by rw [← q2]; exact hnm) hf
      · rw [beq_eq_false_iff_ne.2 q2] at hd
        have e := bad (by rw [hd]; rfl); injection e with e1 e2; subst e1 e2; exact stmt_b2 k f1 f2 l3 l4 l5 l3.length l4.length l5.length A3 A4 A5 c3 c4 c5 _ g w0 w h0 h1 hI hB bl hbl0 hbl1 W nm _ hW hk rfl q1 q2
    · rw [show (l3.length == W) = false from beq_eq_false_iff_ne.2 (by omega)] at hd
      have e := bad (by rw [hd]; rfl); injection e with e1 e2; subst e1 e2; exact stmt_b1 k f1 f2 l3 l4 l5 l3.length l4.length l5.length A3 A4 A5 c3 c4 c5 _ g w0 w h0 h1 hI hB bl hbl0 hbl1 W nm _ hW hk rfl q1
theorem drop_rd41 (l : List S41) (i : Int) (h0 : 0 ≤ i) (h1 : i < (l.length : Int)) : l.drop i.toNat = rd_T41 l i :: l.drop (i + 1).toNat := by
 have hl : i.toNat < l.length := by omega
 rw [List.drop_eq_getElem_cons hl]; unfold rd_T41; rw [List.getD_eq_getElem?_getD, List.getElem?_eq_getElem hl]; have : (i + 1).toNat = i.toNat + 1 := by omega
 rw [this]
 rfl
theorem eta41 (x : S41) : (⟨x.f0, x.f1, x.f2, x.f3, x.f4, x.f5⟩ : S41) = x := by cases x; rfl
theorem block_deep (L : Nat) (A : Option Addr) (c : Nat) (n : Int) (g : Nat) (w0 w : World) (hI : IsS95 w0 w g n) (hB : Below w0.heap.size w0 w) :
  Calls Try.prog 55 #[.pointer (some ⟨g, 0, none⟩), .slice A L c, .int .i64 13] w (CPost false n g w0 w) := by
 have HI := A_0 hI; have HB := A_0 hB; have HK := A_0 (KeepBut.refl w g none); clear hI hB; by_cases hL : 600 < L
 ·have e1 : decide ((600 : Int) < (L : Int)) = true := xdt (by omega)
  have e2 : decide (600 < L) = true := xdt (by omega)
  go_enter Try.func55, Try.ntmps55
  go_wp2
  go_ret
  exact z_217
 ·have e1 : decide ((600 : Int) < (L : Int)) = false := xdf (by omega)
  have e2 : decide (600 < L) = false := xdf (by omega)
  go_enter Try.func55, Try.ntmps55
  go_wp2
  go_ret
  exact z_217
theorem block_long (L : Nat) (A : Option Addr) (c : Nat) (n : Int) (g : Nat) (w0 w : World) (hI : IsS95 w0 w g n) (hB : Below w0.heap.size w0 w) (bl : Int) (hL : 600 < L) :
  Calls Try.prog 55 #[.pointer (some ⟨g, 0, none⟩), .slice A L c, .int .i64 bl] w (CPost false n g w0 w) := by
 have HI := A_0 hI; have HB := A_0 hB; have HK := A_0 (KeepBut.refl w g none); clear hI hB; have e1 : decide ((600 : Int) < (L : Int)) = true := xdt (by omega); have e2 : decide (600 < L) = true := xdt (by omega)
 go_enter Try.func55, Try.ntmps55
 go_wp2
 go_ret
 exact z_217
def BRel (b : Nat) (l : List S41) (L : Nat) (r : Bool × Int) (g : Nat) (w0 w : World) (v : Value) (w' : World) : Prop :=
 ∃ (i m : Int), v = .int .i64 i ∧ 0 ≤ i ∧ i ≤ (L : Int) ∧ 0 ≤ m ∧ m ≤ 600 ∧ Aside0 (goE (oneS (cB b)) m (l.drop i.toNat) = r) ∧ Aside0 (IsS95 w0 w' g m) ∧ Aside0 (Below w0.heap.size w0 w') ∧ Aside0 (KeepBut w w' g none)
theorem block_step (b : Nat) (BC0 : BlockC b) (hb13 : b ≤ 12) (l : List S41) (L : Nat) (A : Option Addr) (c : Nat) (n : Int) (r : Bool) (m : Int) (g : Nat) (w0 w : World) (hL : l.length = L) (hC : Kd.C k41 w0 A l.length l) (hc : L ≤ c) (h0 : 0 ≤ n) (h1 : n ≤ 600) (hI : IsS95 w0 w g n) (hB : Below w0.heap.size w0 w) (hLs : L ≤ 600) (hr : goE (oneS (cB b)) n l = (r, m)) (bl : Int) (hbl0 : 0 ≤ bl) (hbl : bl + 1 = 13 - (b : Int)) :
  Calls Try.prog 55 #[.pointer (some ⟨g, 0, none⟩), .slice A L c, .int .i64 bl] w (CPost r m g w0 w) := by
 have hu41 := Try.underlying41; have HI := A_0 hI; have HB := A_0 hB; have HK := A_0 (KeepBut.refl w g none); have HL := A_0 hL; have HC := A_0 hC; have HCC := A_0 hc; have HR := A_0 hr; have BC := A_0 BC0; have HBL := A_0 hbl; have HB13 := A_0 hb13; have e1 : decide ((600 : Int) < (L : Int)) = false := xdf (by omega); have e2 : decide (600 < L) = false := xdf (by omega); have e3 : decide (12 < bl) = false := xdf (by omega); clear hI hB hL hC hc hr BC0 hbl hb13
 go_enter Try.func55, Try.ntmps55
 go_wp2
 go_loopw [18] (fun v wr => BRel b l L (r, m) g w0 w v wr) (fun v _ => L - (intOf v).toNat)
 case atStart => exact ⟨0, n, rfl, Int.le_refl _, by omega, h0, h1, HR, ⟨z_219⟩, ⟨z_12⟩, ⟨z_220⟩⟩
 case round =>
  unfold BRel at hrel; clear HR HI HB HK; obtain ⟨i, j, rfl, hi0, hi1, hj0, hj1, HR, HI, HB, HK⟩ := hrel; by_cases hlt : i < (L : Int)
  ·have hlt' : i < (l.length : Int) := by rw [HL.out]; exact hlt
   have hb0 := xdt hlt; have hdr := drop_rd41 l i hi0 hlt'; have HR0 := HR.out; rw [hdr] at HR0; unfold goE at HR0; obtain ⟨ad, A3, c3, A4, c4, A5, c5, eA, hx0, hx1, hx2, hx3, hx4, hx5, hl3, hi3, hl4, hi4, hl5, hi5⟩ := at_T41 HC.out i hi0 hlt'; subst eA; replace hx0 := (HB.out.cell (xqb w0 _ hx0)).trans hx0; replace hx1 := (HB.out.cell (xqb w0 _ hx1)).trans hx1; replace hx2 := (HB.out.cell (xqb w0 _ hx2)).trans hx2; replace hx3 := (HB.out.cell (xqb w0 _ hx3)).trans hx3; replace hx4 := (HB.out.cell (xqb w0 _ hx4)).trans hx4; replace hx5 := (HB.out.cell (xqb w0 _ hx5)).trans hx5; have HC3 := A_0 hi3; have HC4 := A_0 hi4; have HC5 := A_0 hi5; have HL4 := A_0 hl4; have HL5 := A_0 hl5; have p1 := eq_true hi0; have p2 := eq_true hlt; clear hdr hi3 hi4 hi5 hl3 hl4 hl5 HR; by_cases q : j + 1 ≤ 600
   ·have H1 := A_0 (one_t j hj0 q)
    have hj2 : 0 ≤ j + 1 := by omega
    obtain ⟨bq, mq, hr1⟩ : ∃ bq mq, cS (cB b) (j + 1) (rd_T41 l i) = (bq, mq) := pair_of _; have hone : oneS (cB b) j (rd_T41 l i) = (bq, mq) := by unfold oneS; rw [if_neg (by omega)]; exact hr1
    have hin := cS_in (cB b) (fun n l a c => cB_in b n l a c) (j + 1) (rd_T41 l i) hj2 q; rw [hone] at HR0; rw [hr1] at hin; have HR1 := A_0 (show cS (cB b) (j + 1) ⟨(rd_T41 l i).f0, (rd_T41 l i).f1, (rd_T41 l i).f2, (rd_T41 l i).f3, (rd_T41 l i).f4, (rd_T41 l i).f5⟩ = (bq, mq) from by rw [eta41]; exact hr1)
    have HIN := A_0 hin; clear hr1 hone hin; cases bq with
    | true =>
     have HR := A_0 (show goE (oneS (cB b)) mq (l.drop (i + 1).toNat) = (r, m) from HR0); clear HR0
     go_wp2_with fail
     have BK := A_0 (blk_new wr (b41 (rd_T41 l i).f0 (rd_T41 l i).f1 (rd_T41 l i).f2 A3 (rd_T41 l i).f3.length c3 A4 (rd_T41 l i).f4.length c4 A5 (rd_T41 l i).f5.length c5)); have GN := A_0 (show wr.heap.size ≠ g from IsS95.fresh HI.out wr.heap.size (xlr _))
     (with_reducible refine (tree_counter_one.calls g j _ _ w0 _ (z_219) (z_12) H1.out).mono ?_)
     rintro e w5 ⟨rfl, hi5, hb5, hk5⟩; have n0_ := A_0 hi5; have n1_ := A_0 hb5; have n3_ := A_0 (KeepBut.blk hk5 BK.out GN.out (by simp)); have n2_ := A_0 (KeepBut.trans (show KeepBut w _ g none from z_220) hk5 (.inl rfl)); clear HI HB HK BK hi5 hb5 hk5 hx0 hx1 hx2 hx3 hx4 hx5; have HI := n0_; have HB := n1_; have HK := n2_; have BK := n3_; clear n0_ n1_ n2_ n3_; have hcz0 : w5.cell? ⟨wr.heap.size, 0, none⟩ = some (.int .i64 (rd_T41 l i).f0) := (xbc BK.out 0).trans rfl; have hfz0 := xbz BK.out 0; have hcz1 : w5.cell? ⟨wr.heap.size, 1, none⟩ = some (.string (rd_T41 l i).f1) := (xbc BK.out 1).trans rfl; have hfz1 := xbz BK.out 1; have hcz2 : w5.cell? ⟨wr.heap.size, 2, none⟩ = some (.int .i64 (rd_T41 l i).f2) := (xbc BK.out 2).trans rfl; have hfz2 := xbz BK.out 2; have hcz3 : w5.cell? ⟨wr.heap.size, 3, none⟩ = some (.slice A3 (rd_T41 l i).f3.length c3) := (xbc BK.out 3).trans rfl; have hfz3 := xbz BK.out 3; have hcz4 : w5.cell? ⟨wr.heap.size, 4, none⟩ = some (.slice A4 (rd_T41 l i).f4.length c4) := (xbc BK.out 4).trans rfl; have hfz4 := xbz BK.out 4; have hcz5 : w5.cell? ⟨wr.heap.size, 5, none⟩ = some (.slice A5 (rd_T41 l i).f5.length c5) := (xbc BK.out 5).trans rfl; have hfz5 := xbz BK.out 5
     go_wp2_with fail
     (with_reducible refine (stmt_all b BC.out (by have := HB13.out; omega) (rd_T41 l i).f0 (rd_T41 l i).f1 (rd_T41 l i).f2 (rd_T41 l i).f3 (rd_T41 l i).f4 (rd_T41 l i).f5 A3 A4 A5 c3 c4 c5 (j + 1) g w0 _ hj2 q (z_219) (z_12) HC3.out HC4.out HC5.out HL4.out HL5.out true mq HR1.out bl hbl0 HBL.out).mono ?_)
     rintro e w6 ⟨rfl, hi5, hb5, hk5⟩; clear BK hcz0 hfz0 hcz1 hfz1 hcz2 hfz2 hcz3 hfz3 hcz4 hfz4 hcz5 hfz5; have n0_ := A_0 hi5; have n1_ := A_0 hb5; have n2_ := A_0 (KeepBut.trans (show KeepBut w _ g none from z_220) hk5 (.inl rfl)); clear HI HB HK hi5 hb5 hk5; have HI := n0_; have HB := n1_; have HK := n2_; clear n0_ n1_ n2_
     go_wp2
     go_roundw
     case rel => exact ⟨i + 1, mq, rfl, by omega, by omega, HIN.out.1, HIN.out.2.2 rfl, HR, ⟨z_219⟩, ⟨z_12⟩, ⟨z_220⟩⟩
     case measure => simp [intOf]; omega
    | false =>
     have HE := A_0 (show (false, mq) = (r, m) from HR0); clear HR0
     go_wp2_with fail
     have BK := A_0 (blk_new wr (b41 (rd_T41 l i).f0 (rd_T41 l i).f1 (rd_T41 l i).f2 A3 (rd_T41 l i).f3.length c3 A4 (rd_T41 l i).f4.length c4 A5 (rd_T41 l i).f5.length c5)); have GN := A_0 (show wr.heap.size ≠ g from IsS95.fresh HI.out wr.heap.size (xlr _))
     (with_reducible refine (tree_counter_one.calls g j _ _ w0 _ (z_219) (z_12) H1.out).mono ?_)
     rintro e w5 ⟨rfl, hi5, hb5, hk5⟩; have n0_ := A_0 hi5; have n1_ := A_0 hb5; have n3_ := A_0 (KeepBut.blk hk5 BK.out GN.out (by simp)); have n2_ := A_0 (KeepBut.trans (show KeepBut w _ g none from z_220) hk5 (.inl rfl)); clear HI HB HK BK hi5 hb5 hk5 hx0 hx1 hx2 hx3 hx4 hx5; have HI := n0_; have HB := n1_; have HK := n2_; have BK := n3_; clear n0_ n1_ n2_ n3_; have hcz0 : w5.cell? ⟨wr.heap.size, 0, none⟩ = some (.int .i64 (rd_T41 l i).f0) := (xbc BK.out 0).trans rfl; have hfz0 := xbz BK.out 0; have hcz1 : w5.cell? ⟨wr.heap.size, 1, none⟩ = some (.string (rd_T41 l i).f1) := (xbc BK.out 1).trans rfl; have hfz1 := xbz BK.out 1; have hcz2 : w5.cell? ⟨wr.heap.size, 2, none⟩ = some (.int .i64 (rd_T41 l i).f2) := (xbc BK.out 2).trans rfl; have hfz2 := xbz BK.out 2; have hcz3 : w5.cell? ⟨wr.heap.size, 3, none⟩ = some (.slice A3 (rd_T41 l i).f3.length c3) := (xbc BK.out 3).trans rfl; have hfz3 := xbz BK.out 3; have hcz4 : w5.cell? ⟨wr.heap.size, 4, none⟩ = some (.slice A4 (rd_T41 l i).f4.length c4) := (xbc BK.out 4).trans rfl; have hfz4 := xbz BK.out 4; have hcz5 : w5.cell? ⟨wr.heap.size, 5, none⟩ = some (.slice A5 (rd_T41 l i).f5.length c5) := (xbc BK.out 5).trans rfl; have hfz5 := xbz BK.out 5
     go_wp2_with fail
     (with_reducible refine (stmt_all b BC.out (by have := HB13.out; omega) (rd_T41 l i).f0 (rd_T41 l i).f1 (rd_T41 l i).f2 (rd_T41 l i).f3 (rd_T41 l i).f4 (rd_T41 l i).f5 A3 A4 A5 c3 c4 c5 (j + 1) g w0 _ hj2 q (z_219) (z_12) HC3.out HC4.out HC5.out HL4.out HL5.out false mq HR1.out bl hbl0 HBL.out).mono ?_)
     rintro e w6 ⟨rfl, hi5, hb5, hk5⟩; clear BK hcz0 hfz0 hcz1 hfz1 hcz2 hfz2 hcz3 hfz3 hcz4 hfz4 hcz5 hfz5; have n0_ := A_0 hi5; have n1_ := A_0 hb5; have n2_ := A_0 (KeepBut.trans (show KeepBut w _ g none from z_220) hk5 (.inl rfl)); clear HI HB HK hi5 hb5 hk5; have HI := n0_; have HB := n1_; have HK := n2_; clear n0_ n1_ n2_
     go_wp2
     go_ret
     have he := HE.out; injection he with he1 he2; subst he1 he2; exact z_217
   ·have H1 := A_0 (one_f j hj0 hj1 q)
    have hone : oneS (cB b) j (rd_T41 l i) = (false, j + 1) := by unfold oneS; rw [if_pos (by omega)]
    rw [hone] at HR0; have HE := A_0 (show (false, j + 1) = (r, m) from HR0); clear HR0 hone
    go_wp2_with fail
    have BK := A_0 (blk_new wr (b41 (rd_T41 l i).f0 (rd_T41 l i).f1 (rd_T41 l i).f2 A3 (rd_T41 l i).f3.length c3 A4 (rd_T41 l i).f4.length c4 A5 (rd_T41 l i).f5.length c5)); have GN := A_0 (show wr.heap.size ≠ g from IsS95.fresh HI.out wr.heap.size (xlr _))
    (with_reducible refine (tree_counter_one.calls g j _ _ w0 _ (z_219) (z_12) H1.out).mono ?_)
    rintro e w5 ⟨rfl, hi5, hb5, hk5⟩; have n0_ := A_0 hi5; have n1_ := A_0 hb5; have n3_ := A_0 (KeepBut.blk hk5 BK.out GN.out (by simp)); have n2_ := A_0 (KeepBut.trans (show KeepBut w _ g none from z_220) hk5 (.inl rfl)); clear HI HB HK BK hi5 hb5 hk5 hx0 hx1 hx2 hx3 hx4 hx5; have HI := n0_; have HB := n1_; have HK := n2_; have BK := n3_; clear n0_ n1_ n2_ n3_
    go_wp2
    go_ret
    have he := HE.out; injection he with he1 he2; subst he1 he2; exact z_217
  ·have hb0 := xdf hlt
   have he : goE (oneS (cB b)) j (l.drop i.toNat) = (true, j) := by
    rw [List.drop_eq_nil_of_le (by have := HL.out; omega)]
    rfl
   have HE := A_0 (he.symm.trans HR.out); clear he HR
   go_wp2
   go_ret
   have he := HE.out; injection he with he1 he2; subst he1 he2; exact z_217
theorem block_all : ∀ b : Nat, b ≤ 13 → BlockC b
 | 0, _ => by
  intro l L A c n r m g w0 w hL hC hc h0 h1 hI hB hr bl hbl; have e : bl = 13 := by omega
  subst e; injection hr with e1 e2; subst e1 e2; exact block_deep L A c _ g w0 w hI hB
 | b + 1, hb => by
  have ih := block_all b (by omega); intro l L A c n r m g w0 w hL hC hc h0 h1 hI hB hr bl hbl; unfold cB at hr; by_cases q : 600 < l.length
  ·rw [if_pos q] at hr
   injection hr with e1 e2; subst e1 e2; exact block_long L A c _ g w0 w hI hB bl (by omega)
  ·rw [if_neg q] at hr
   exact block_step b ih (by omega) l L A c n r m g w0 w hL hC hc h0 h1 hI hB (by omega) hr bl (by omega) (by omega)
def rightB (l : List S41) : Bool := (cB 13 0 l).1
theorem right_calls (A : Option Addr) (c : Nat) (l : List S41) (w : World) (hC : Kd.C k41 w A l.length l) (hc : l.length ≤ c) (r : Bool) (h : rightB l = r) :
  Calls Try.prog 34 #[.slice A l.length c] w fun e w' => e = .returned (.bool r) ∧ Below w.heap.size w w' := by
 obtain ⟨r', m, hr⟩ : ∃ r' m, cB 13 0 l = (r', m) := pair_of _; have e : r' = r := by unfold rightB at h; rw [hr] at h; exact h
 subst e; have HC := A_0 hC; have HCC := A_0 hc; have HR := A_0 hr; have HB := A_0 (xbr w.heap.size w); have BC := A_0 (block_all 13 (xlr _)); clear hC hc hr h
 go_enter Try.func34, Try.ntmps34
 go_wp2_with (first | ((with_reducible refine gate_dst (N := 5) rfl ?_); refine bx #[.int .i64 0] 95 ?_; intro g hg w3 hbox hb; have HI := A_0 (show IsS95 w w3 g 0 from ⟨hbox, (z_4)⟩); replace HB := A_0 (xbs HB.out hb); clear hb hbox hg))
 (with_reducible refine (BC.out.use l _ A c 0 r' m g w _ rfl HC.out HCC.out (Int.le_refl _) (by omega) HI.out HB.out HR.out 0 (by omega)).mono ?_)
 rintro e w5 ⟨rfl, hi5, hb5, hk5⟩; have n1_ := A_0 hb5; clear HB hb5; have HB := n1_
 go_wp2
 go_ret
 exact z_13
def exT (K : Nat) (e : S38) : Option ByteArray := show_Expr.f K e.f0 e.f1 e.f2 e.f3 e.f4
def argsT (K : Nat) : List S38 → Option (List ByteArray)
 | [] => some []
 | e :: es => (exT K e).bind fun x => (argsT K es).bind fun xs => some (x :: xs)
def sB (f : Int → S41 → Option (List UInt8)) (n : Int) : List S41 → Option (List UInt8)
 | [] => some []
 | s :: l => (f n s).bind fun a => (sB f n l).bind fun b => some (a ++ b)
def sBx (f : Int → S41 → Option (List UInt8)) (n : Int) (l : List S41) : Option (List UInt8) := if l.length ≤ 1000000 then sB f n l else none
def head1 (xs : List ByteArray) (f : ByteArray → Option (List UInt8)) : Option (List UInt8) := match xs with | [] => none | x :: _ => f x
def head2 (xs : List ByteArray) (f : ByteArray → ByteArray → Option (List UInt8)) : Option (List UInt8) := match xs with | x :: y :: _ => f x y | _ => none
def stF (K : Nat) (f : Int → S41 → Option (List UInt8)) (br : Int → ByteArray → S41 → ByteArray → Option (List UInt8)) (n : Int) (s : S41) : Option (List UInt8) :=
 (argsT K s.f3).bind fun xs =>
 if s.f0 = 1 then head1 xs fun x => some (lineB n [⟨#[118, 97, 114, 32]⟩, s.f1, ⟨#[32, 61, 32]⟩, x, ⟨#[59]⟩])
 else if s.f0 = 2 then head1 xs fun x => some (lineB n [s.f1, ⟨#[32, 61, 32]⟩, x, ⟨#[59]⟩])
 else if s.f0 = 3 then head2 xs fun x y => some (lineB n [⟨#[109, 91]⟩, x, ⟨#[93, 32, 61, 32]⟩, y, ⟨#[59]⟩])
 else if s.f0 = 4 then head1 xs fun x => some (lineB n [⟨#[101, 109, 105, 116, 32]⟩, x, ⟨#[59]⟩])
 else if s.f0 = 5 then (num_Text.f s.f2).bind fun c => head1 xs fun x => some (lineB n [⟨#[105, 110, 116, 111, 32]⟩, c, ⟨#[32]⟩, x, ⟨#[59]⟩])
 else if s.f0 = 8 then head1 xs fun x => some (lineB n [⟨#[102, 97, 105, 108, 32]⟩, x, ⟨#[59]⟩])
 else if s.f0 = 9 then some (lineB n [⟨#[115, 116, 111, 112, 59]⟩])
 else if s.f0 = 7 then head1 xs fun x => (sBx f (n + 1) s.f4).bind fun b => some (lineB n [⟨#[119, 104, 105, 108, 101, 32, 40]⟩, x, ⟨#[41, 32, 123]⟩] ++ (b ++ lineB n [⟨#[125]⟩]))
 else if s.f0 = 6 then head1 xs fun x => br n ⟨#[]⟩ s x
 else some []
def brF (K : Nat) (f : Int → S41 → Option (List UInt8)) (br : Int → ByteArray → S41 → ByteArray → Option (List UInt8)) (n : Int) (ahead : ByteArray) (s : S41) (test : ByteArray) : Option (List UInt8) :=
 (sBx f (n + 1) s.f4).bind fun b =>
 if s.f5.length = 1 ∧ (rd_T41 s.f5 0).f0 = 6 then
  (if (rd_T41 s.f5 0).f3.length = 0 then none else (exT K (rd_T38 (rd_T41 s.f5 0).f3 0)).bind fun x => (br n ⟨#[125, 32, 101, 108, 115, 101, 32]⟩ (rd_T41 s.f5 0) x).bind fun r => some (lineB n [ahead, ⟨#[105, 102, 32, 40]⟩, test, ⟨#[41, 32, 123]⟩] ++ (b ++ r)))
 else if s.f5.length = 0 then some (lineB n [ahead, ⟨#[105, 102, 32, 40]⟩, test, ⟨#[41, 32, 123]⟩] ++ (b ++ lineB n [⟨#[125]⟩]))
 else (sBx f (n + 1) s.f5).bind fun r => some (lineB n [ahead, ⟨#[105, 102, 32, 40]⟩, test, ⟨#[41, 32, 123]⟩] ++ (b ++ (lineB n [⟨#[125, 32, 101, 108, 115, 101, 32, 123]⟩] ++ (r ++ lineB n [⟨#[125]⟩]))))
theorem IsW.dent {B : Nat} {W : World} {g : Nat} {t : List UInt8} {n : Int} (h : IsW B W g t n) (m : Int) : IsW B (W.setCell ⟨g, 1, none⟩ (.int .i64 m)) g t m := by
 obtain ⟨v, h⟩ := h; exact ⟨v, h.dent m⟩
theorem IsW.cell1 {B : Nat} {W : World} {g : Nat} {t : List UInt8} {n : Int} (h : IsW B W g t n) : W.cell? ⟨g, 1, none⟩ = some (.int .i64 n) ∧ W.frozen? ⟨g, 1, none⟩ = false := by
 obtain ⟨v, h⟩ := h; exact ⟨(xbc h.1 1).trans rfl, xbz h.1 1⟩
def StC (d : Nat) (f : Int → S41 → Option (List UInt8)) : Prop := ∀ (k : Int) (f1 : ByteArray) (f2 : Int) (l3 : List S38) (l4 l5 : List S41) (A3 A4 A5 : Option Addr) (c3 c4 c5 : Nat) (n : Int) (r t : List UInt8) (g : Nat) (w0 w : World),
 f n ⟨k, f1, f2, l3, l4, l5⟩ = some r → 0 ≤ n → n + d ≤ 900 → IsW w0.heap.size w g t n → Below w0.heap.size w0 w → Kd.C k38 w0 A3 l3.length l3 → Kd.C k41 w0 A4 l4.length l4 → Kd.C k41 w0 A5 l5.length l5 → l3.length ≤ c3 → l4.length ≤ c4 → l5.length ≤ c5 → t.length + r.length ≤ 1000000000 →
 Calls Try.prog 39 #[.pointer (some ⟨g, 0, none⟩), .agg #[.int .i64 k, .string f1, .int .i64 f2, .slice A3 l3.length c3, .slice A4 l4.length c4, .slice A5 l5.length c5]] w (LPost w0.heap.size g (t ++ r) n w0 w)
theorem StC.use {d : Nat} {f : Int → S41 → Option (List UInt8)} (h : StC d f) (x : S41) (A3 A4 A5 : Option Addr) (c3 c4 c5 : Nat) (n : Int) (r t : List UInt8) (g : Nat) (w0 w : World)
 (hr : f n x = some r) (h0 : 0 ≤ n) (h1 : n + d ≤ 900) (hw : IsW w0.heap.size w g t n) (hb : Below w0.heap.size w0 w) (h3 : Kd.C k38 w0 A3 x.f3.length x.f3) (h4 : Kd.C k41 w0 A4 x.f4.length x.f4) (h5 : Kd.C k41 w0 A5 x.f5.length x.f5) (g3 : x.f3.length ≤ c3) (g4 : x.f4.length ≤ c4) (g5 : x.f5.length ≤ c5) (hs : t.length + r.length ≤ 1000000000) :
 Calls Try.prog 39 #[.pointer (some ⟨g, 0, none⟩), .agg #[.int .i64 x.f0, .string x.f1, .int .i64 x.f2, .slice A3 x.f3.length c3, .slice A4 x.f4.length c4, .slice A5 x.f5.length c5]] w (LPost w0.heap.size g (t ++ r) n w0 w) :=
 h x.f0 x.f1 x.f2 x.f3 x.f4 x.f5 A3 A4 A5 c3 c4 c5 n r t g w0 w (by rw [eta41]; exact hr) h0 h1 hw hb h3 h4 h5 g3 g4 g5 hs
def WiRel (f : Int → S41 → Option (List UInt8)) (l : List S41) (L : Nat) (n : Int) (tr : List UInt8) (g : Nat) (w0 w : World) (v15 : Value) (w' : World) : Prop :=
 ∃ (i : Int) (t1 r1 : List UInt8), v15 = .int .i64 i ∧ 0 ≤ i ∧ i ≤ (L : Int) ∧ Aside0 (sB f n (l.drop i.toNat) = some r1) ∧ Aside0 (t1 ++ r1 = tr) ∧ Aside0 (IsW w0.heap.size w' g t1 n) ∧ Aside0 (Below w0.heap.size w0 w') ∧ Aside0 (KeepT w w' g)
theorem within_calls (d : Nat) (f : Int → S41 → Option (List UInt8)) (SC0 : StC d f) (l : List S41) (L : Nat) (A : Option Addr) (c : Nat) (n : Int) (r t : List UInt8) (g : Nat) (w0 w : World) (hr : sB f (n + 1) l = some r) (hn0 : 0 ≤ n) (hn1 : n + 1 + d ≤ 900) (hL : l.length = L) (hW : IsW w0.heap.size w g t n) (hB : Below w0.heap.size w0 w)
  (hC : Kd.C k41 w0 A l.length l) (hc : L ≤ c) (hLs : L ≤ 1000000) (hs : t.length + r.length ≤ 1000000000) :
  Calls Try.prog 61 #[.pointer (some ⟨g, 0, none⟩), .slice A L c] w (LPost w0.heap.size g (t ++ r) n w0 w) := by
 have hu41 := Try.underlying41; have HW := A_0 hW; have HB := A_0 hB; have HL := A_0 hL; have HC := A_0 hC; have HS := A_0 hs; have HR := A_0 hr; have SC := A_0 SC0; have HN1 := A_0 hn1; have GE := A_0 hW.ge; have HK := A_0 (KeepT.refl w g); obtain ⟨hcg1, hfg1⟩ := hW.cell1; have hn9 : n ≤ 900 := by omega
 clear hW hB hL hC hs hr SC0 hn1
 go_enter Try.func61, Try.ntmps61
 go_wp2
 replace HW := A_0 (IsW.dent HW.out (n + 1)); replace HB := A_0 (show Below w0.heap.size w0 (w.setCell ⟨g, 1, none⟩ (.int .i64 (n + 1))) from below_set HB.out GE.out); replace HK := A_0 (HK.out.set 1 (.int .i64 (n + 1))); clear hcg1 hfg1
 go_loopw [15] (fun v15 wr => WiRel f l L (n + 1) (t ++ r) g w0 w v15 wr) (fun v15 _ => L - (intOf v15).toNat)
 case atStart => exact ⟨0, t, r, rfl, Int.le_refl _, by omega, HR, ⟨rfl⟩, HW, HB, HK⟩
 case round =>
  unfold WiRel at hrel; clear HR HW HB HK; obtain ⟨i, t1, r1, rfl, hi0, hi1, HR, HT, HW, HB, HK⟩ := hrel; by_cases hlt : i < (L : Int)
  ·have hlt' : i < (l.length : Int) := by rw [HL.out]; exact hlt
   have hb0 := xdt hlt; have hdr := drop_rd41 l i hi0 hlt'; have HR0 := HR.out; rw [hdr] at HR0; unfold sB at HR0; obtain ⟨ra, hra, HR0⟩ := Option.bind_eq_some_iff.mp HR0; obtain ⟨rb, hrb, HR0⟩ := Option.bind_eq_some_iff.mp HR0; have HR1 := A_0 hra; have HR2 := A_0 hrb; have HE := A_0 (xsi HR0); obtain ⟨ad, A3, c3, A4, c4, A5, c5, eA, hx0, hx1, hx2, hx3, hx4, hx5, hl3, hi3, hl4, hi4, hl5, hi5⟩ := at_T41 HC.out i hi0 hlt'; subst eA; replace hx0 := (HB.out.cell (xqb w0 _ hx0)).trans hx0; replace hx1 := (HB.out.cell (xqb w0 _ hx1)).trans hx1; replace hx2 := (HB.out.cell (xqb w0 _ hx2)).trans hx2; replace hx3 := (HB.out.cell (xqb w0 _ hx3)).trans hx3; replace hx4 := (HB.out.cell (xqb w0 _ hx4)).trans hx4; replace hx5 := (HB.out.cell (xqb w0 _ hx5)).trans hx5; have HC3 := A_0 hi3; have HC4 := A_0 hi4; have HC5 := A_0 hi5; have HL3 := A_0 hl3; have HL4 := A_0 hl4; have HL5 := A_0 hl5; have p1 := eq_true hi0; have p2 := eq_true hlt
   have HSZ := A_0 (show t1.length + ra.length ≤ 1000000000 by
    have h1 := congrArg List.length HT.out; have h2 := congrArg List.length HE.out; have := HS.out; simp only [List.length_append] at h1 h2
    omega)
   have hnn : 0 ≤ n + 1 := by omega
   clear hdr hra hrb HR0 hi3 hi4 hi5 hl3 hl4 hl5 HR
   go_wp2_with fail
   (with_reducible refine (SC.out.use (rd_T41 l i) A3 A4 A5 c3 c4 c5 (n + 1) ra t1 g w0 _ HR1.out hnn (by have := HN1.out; omega) (z_1) (z_2) HC3.out HC4.out HC5.out HL3.out HL4.out HL5.out HSZ.out).mono ?_)
   rintro e w5 ⟨rfl, hw5, hb5, hk5⟩; have n0_ := A_0 hw5; have n1_ := A_0 hb5; have n2_ := A_0 (KeepT.trans (show KeepT w _ g from z_3) hk5); clear HW HB HK hw5 hb5 hk5 hx0 hx1 hx2 hx3 hx4 hx5; have HW := n0_; have HB := n1_; have HK := n2_; clear n0_ n1_ n2_
   go_wp2
   go_roundw
   case rel => exact ⟨i + 1, t1 ++ ra, rb, by go_num, by omega, by omega, HR2, ⟨by rw [List.append_assoc, HE.out]; exact HT.out⟩, HW, HB, HK⟩
   case measure => simp [intOf]; omega
  ·have hb0 := xdf hlt
   have he : some ([] : List UInt8) = some r1 := by
    have := HR.out; rw [List.drop_eq_nil_of_le (by have := HL.out; omega)] at this; exact this
   have he1 := xsi he; subst he1; have ht := HT.out; rw [List.append_nil] at ht; subst ht; obtain ⟨hcg1, hfg1⟩ := HW.out.cell1; clear he HT HR; have n0_ := A_0 (IsW.dent HW.out n)
   go_wp2
   go_end0
   exact ⟨rfl, n0_.out, z_2, z_3⟩
theorem infoS : (Try.prog.info? 9).map (fun i => (i.zero, i.size, i.bytes)) = some (some (.string ⟨#[]⟩), 1, 16) := by kernel_rfl
def ARel (K : Nat) (l3 : List S38) (L3 : Nat) (XS : List ByteArray) (gb : Nat) (cs : Array Value) (w : World) (v4 v10 : Value) (w' : World) : Prop :=
 ∃ (i : Int) (xs ys : List ByteArray), v10 = .int .i64 i ∧ 0 ≤ i ∧ i ≤ (L3 : Int) ∧ xs.length ≤ i.toNat ∧ Aside0 (argsT K (l3.drop i.toNat) = some ys) ∧ Aside0 (xs ++ ys = XS) ∧ Aside0 (w'.ownsRow w.heap.size 9 1 v4 xs.length (encs Value.string xs)) ∧ Aside0 (w'.heap[gb]? = some (.cells cs 41 (0, 0))) ∧ Aside0 (Below w.heap.size w w')
theorem own_row {W : World} {base : Nat} {e : TypeId} {size n : Nat} {v : Value} {xs : List Value} (h : W.ownsRow base e size v n xs) (k : Nat) (hk : v.ownBlock = some k) : ∃ cs, W.heap[k]? = some (.cells cs e (0, 0)) := by
 rcases h.2 with ⟨rfl, _⟩ | ⟨g', cap, cur, rfl, _, h4, _⟩
 ·simp [Value.ownBlock] at hk
 ·have e2 : g' = k := by simpa [Value.ownBlock] using hk
  subst e2; exact ⟨cur, h4⟩
theorem own_get {W : World} {base n : Nat} {v : Value} {x : ByteArray} {xs : List ByteArray} (h : W.ownsRow base 9 1 v n (encs Value.string (x :: xs))) : ∃ ga cap cur, v = .slice (some ⟨ga, 0, none⟩) n cap ∧ n ≤ cap ∧ n = xs.length + 1 ∧ base ≤ ga ∧ W.heap[ga]? = some (.cells cur 9 (0, 0)) ∧ ∀ j : Nat, j < n → W.cell? ⟨ga, j, none⟩ = some (.string ((x :: xs).getD j ⟨#[]⟩)) := by
  have h0 := h; obtain ⟨h1, h2⟩ := h; rcases h2 with ⟨_, h3⟩ | ⟨ga, cap, cur, rfl, hb, hc, hn, _⟩
  · subst h3; simp [encs] at h1
  · refine ⟨ga, cap, cur, rfl, hn, by simpa [encs] using h1.symm, hb, hc, fun j hj => ?_⟩
    rw [World.ownsRow.cellAt h0 j (by omega)]
    have hl : j < (x :: xs).length := by simp only [List.length_cons]; have : xs.length + 1 = n := by simpa [encs] using h1
                                         omega
    unfold encs; rw [List.getElem?_map, List.getElem?_eq_getElem hl, List.getD_eq_getElem?_getD, List.getElem?_eq_getElem hl]
    rfl
theorem blk_lit1 (W : World) (a0 : ByteArray) : (W.alloc (.cells #[.string a0] 9)).heap[W.heap.size]? = some (.cells (([a0] : List ByteArray).map Value.string).toArray 9 (0, 0)) := blk_new _ _
theorem blk_lit3 (W : World) (a0 a1 a2 : ByteArray) : (W.alloc (.cells #[.string a0, .string a1, .string a2] 9)).heap[W.heap.size]? = some (.cells (([a0, a1, a2] : List ByteArray).map Value.string).toArray 9 (0, 0)) := blk_new _ _
theorem blk_lit4 (W : World) (a0 a1 a2 a3 : ByteArray) : (W.alloc (.cells #[.string a0, .string a1, .string a2, .string a3] 9)).heap[W.heap.size]? = some (.cells (([a0, a1, a2, a3] : List ByteArray).map Value.string).toArray 9 (0, 0)) := blk_new _ _
theorem blk_lit5 (W : World) (a0 a1 a2 a3 a4 : ByteArray) : (W.alloc (.cells #[.string a0, .string a1, .string a2, .string a3, .string a4] 9)).heap[W.heap.size]? = some (.cells (([a0, a1, a2, a3, a4] : List ByteArray).map Value.string).toArray 9 (0, 0)) := blk_new _ _
theorem size_line {t : List UInt8} {n : Int} {ps : List ByteArray} (h : t.length + (lineB n ps).length ≤ 1000000000) : t.length + ((ps.map lst).flatten).length ≤ 1000000000 := by
 unfold lineB at h; simp only [List.length_append] at h
 omega
theorem own_sl2 {W : World} {base : Nat} {e : TypeId} {size n : Nat} {v : Value} {xs : List Value} (h : W.ownsRow base e size v n xs) : ∃ A c, v = .slice A n c := by
 rcases h.2 with ⟨rfl, h0⟩ | ⟨g', cap, cur, rfl, _⟩
 ·subst h0; exact ⟨_, _, rfl⟩
 ·exact ⟨_, _, rfl⟩
theorem conv_own {W : World} {base : Nat} {v : Value} {r : List UInt8} (h : W.ownsRow base 5 1 v (r.map c8).length (nums .u8 (r.map c8))) : (convert 62 9 v).run Try.prog W = .ok (.string (bs r)) W := by
  have h0 := h; rcases h.2 with ⟨rfl, h1⟩ | ⟨ga, cap, cur, rfl, _⟩
  · have : r = [] := by cases r with | nil => rfl | cons => simp at h1
    subst this; exact run_convert_bytes_nil (P := Try.prog) W 62 5 Try.underlying62 Try.underlying5 0 0 9 Try.underlying9
  · have := run_convert_bytes_arg (P := Try.prog) W 62 5 Try.underlying62 Try.underlying5 ga 0 (r.map c8).length cap (r.map c8) rfl (fun i hi => by
      rw [Nat.zero_add, World.ownsRow.cellAt h0 i (by omega)]; unfold nums; have hi2 : i < r.length := by simpa using hi
      simp [List.getD_eq_getElem?_getD, List.getElem?_eq_getElem hi2]) 9 Try.underlying9
    rw [this]
    have e : strOfNums (r.map c8) = bs r := by
      unfold strOfNums bs; rw [List.map_map]
      have : r.map ((fun n : Int => UInt8.ofNat n.toNat) ∘ c8) = r := by
        conv => rhs; rw [← List.map_id r]
        apply List.map_congr_left
        intro c _; simp [c8]
      rw [this]
    rw [e]
def TPost (s : ByteArray) (er : Int) (w : World) (e : Ending) (w' : World) : Prop := e = .returned (.tuple #[.string s, .int .i64 er]) ∧ Below w.heap.size w w'
theorem text_bad (l : List S41) (L : Nat) (A : Option Addr) (c : Nat) (w : World) (hL : l.length = L) (hC : Kd.C k41 w A l.length l) (hc : L ≤ c) (hr : rightB l = false) : Calls Try.prog 16 #[.slice A L c] w (TPost ⟨#[]⟩ 43 w) := by
 subst hL; have HC := A_0 hC; have HR := A_0 hr; have HCC := A_0 hc; clear hC hr hc
 go_enter Try.func16, Try.ntmps16
 go_wp2_with fail
 (with_reducible refine (right_calls A c l _ HC.out HCC.out false HR.out).mono ?_)
 rintro e w5 ⟨rfl, hb5⟩; have HB := A_0 hb5; clear hb5
 go_wp2
 go_ret2
 exact ⟨rfl, HB.out⟩
theorem text_calls (d : Nat) (hd : d ≤ 900) (f : Int → S41 → Option (List UInt8)) (SC0 : StC d f) (l : List S41) (L : Nat) (A : Option Addr) (c : Nat) (r : List UInt8) (w : World) (hsb : sB f 0 l = some r) (hL : l.length = L) (hC : Kd.C k41 w A l.length l) (hc : L ≤ c) (hLs : L ≤ 1000000) (hs : r.length ≤ 1000000000) (hr : rightB l = true) (s : ByteArray) (er : Int) (hres : (8192 < r.length ∧ s = ⟨#[]⟩ ∧ er = 30) ∨ (¬ 8192 < r.length ∧ s = bs r ∧ er = 0)) :
  Calls Try.prog 16 #[.slice A L c] w (TPost s er w) := by
 have HRES := Lib.hid hres; have hu41 := Try.underlying41; have HB := A_0 (xbr w.heap.size w); have HL := A_0 hL; have HC := A_0 hC; have HS := A_0 hs; have HSB := A_0 hsb; have HRT := A_0 hr; have SC := A_0 SC0; have HCC := A_0 hc; clear hL hC hs hr hsb SC0 hc hres
 go_enter Try.func16, Try.ntmps16
 go_wp2_with fail
 have HCR := A_0 (show Calls Try.prog 34 #[.slice A L c] w (fun e w' => e = .returned (.bool true) ∧ Below w.heap.size w w') by
  have hL := HL.out; subst hL; exact right_calls A c l w HC.out HCC.out true HRT.out)
 (with_reducible refine HCR.out.mono ?_)
 rintro e w5 ⟨rfl, hb5⟩; replace HB := A_0 hb5; clear hb5 HCR
 go_wp2_with (first | ((with_reducible refine gate_dst (N := 11) rfl ?_); refine bx #[.slice none 0 0, .int .i64 0] 64 ?_; intro g hg w3 hbox hb; have HW := A_0 (show IsW w.heap.size w3 g [] 0 from ⟨.slice none 0 0, hbox, (z_4), World.ownsRow_nil _ _ _ _⟩); replace HB := A_0 (xbs HB.out hb); clear hb hbox hg))
 have HK := A_0 (KeepT.refl w3 g); have GE := A_0 HW.out.ge
 go_loopw [14] (fun v14 wr => WiRel f l L 0 ([] ++ r) g w w3 v14 wr) (fun v14 _ => L - (intOf v14).toNat)
 case atStart => exact ⟨0, [], r, rfl, Int.le_refl _, by omega, HSB, ⟨rfl⟩, HW, HB, HK⟩
 case round =>
  unfold WiRel at hrel; clear HSB HW HB HK; obtain ⟨i, t1, r1, rfl, hi0, hi1, HR, HT, HW, HB, HK⟩ := hrel; by_cases hlt : i < (L : Int)
  ·have hlt' : i < (l.length : Int) := by rw [HL.out]; exact hlt
   have hb0 := xdt hlt; have hdr := drop_rd41 l i hi0 hlt'; have HR0 := HR.out; rw [hdr] at HR0; unfold sB at HR0; obtain ⟨ra, hra, HR0⟩ := Option.bind_eq_some_iff.mp HR0; obtain ⟨rb, hrb, HR0⟩ := Option.bind_eq_some_iff.mp HR0; have HR1 := A_0 hra; have HR2 := A_0 hrb; have HE := A_0 (xsi HR0); obtain ⟨ad, A3, c3, A4, c4, A5, c5, eA, hx0, hx1, hx2, hx3, hx4, hx5, hl3, hi3, hl4, hi4, hl5, hi5⟩ := at_T41 HC.out i hi0 hlt'; subst eA; replace hx0 := (HB.out.cell (xqb w _ hx0)).trans hx0; replace hx1 := (HB.out.cell (xqb w _ hx1)).trans hx1; replace hx2 := (HB.out.cell (xqb w _ hx2)).trans hx2; replace hx3 := (HB.out.cell (xqb w _ hx3)).trans hx3; replace hx4 := (HB.out.cell (xqb w _ hx4)).trans hx4; replace hx5 := (HB.out.cell (xqb w _ hx5)).trans hx5; have HC3 := A_0 hi3; have HC4 := A_0 hi4; have HC5 := A_0 hi5; have HL3 := A_0 hl3; have HL4 := A_0 hl4; have HL5 := A_0 hl5; have p1 := eq_true hi0; have p2 := eq_true hlt
   have HSZ := A_0 (show t1.length + ra.length ≤ 1000000000 by
    have h1 := congrArg List.length HT.out; have h2 := congrArg List.length HE.out; have := HS.out; simp only [List.length_append, List.length_nil] at h1 h2
    omega)
   clear hdr hra hrb HR0 hi3 hi4 hi5 hl3 hl4 hl5 HR
   go_wp2_with fail
   (with_reducible refine (SC.out.use (rd_T41 l i) A3 A4 A5 c3 c4 c5 0 ra t1 g w _ HR1.out (Int.le_refl _) (by omega) (z_1) (z_2) HC3.out HC4.out HC5.out HL3.out HL4.out HL5.out HSZ.out).mono ?_)
   rintro e w5 ⟨rfl, hw5, hb5, hk5⟩; have n0_ := A_0 hw5; have n1_ := A_0 hb5; have n2_ := A_0 (KeepT.trans (show KeepT w3 _ g from z_3) hk5); clear HW HB HK hw5 hb5 hk5 hx0 hx1 hx2 hx3 hx4 hx5; have HW := n0_; have HB := n1_; have HK := n2_; clear n0_ n1_ n2_
   go_wp2
   go_roundw
   case rel => exact ⟨i + 1, t1 ++ ra, rb, by go_num, by omega, by omega, HR2, ⟨by rw [List.append_assoc, HE.out]; exact HT.out⟩, HW, HB, HK⟩
   case measure => simp [intOf]; omega
  ·have hb0 := xdf hlt
   have he : some ([] : List UInt8) = some r1 := by
    have := HR.out; rw [List.drop_eq_nil_of_le (by have := HL.out; omega)] at this; exact this
   have he1 := xsi he; subst he1; have ht := HT.out; rw [List.append_nil, List.nil_append] at ht; subst ht; obtain ⟨v, hv⟩ := HW.out; obtain ⟨Av, cv, ev⟩ := own_sl2 hv.2.2; have hcv := conv_own hv.2.2; have hcg0 : wr.cell? ⟨g, 0, none⟩ = some v := (xbc hv.1 0).trans rfl; have hfg0 := xbz hv.1 0; obtain ⟨M, hM⟩ : ∃ M, M = (t1.map c8).length := ⟨_, rfl⟩; have hM2 : M = t1.length := by rw [hM, List.length_map]
   rw [← hM] at ev; subst ev; have HM := A_0 hM2; clear he HT HR hM hM2 hv HW; by_cases hbig : 8192 < t1.length
   ·have hbb : decide ((8192 : Int) < (M : Int)) = true := xdt (by have := HM.out; omega)
    have hbc : decide (8192 < M) = true := xdt (by have := HM.out; omega)
    go_wp2
    go_ret2
    exact ⟨by rcases HRES.out with ⟨_, a, b⟩ | ⟨a, _⟩; (rw [a, b]; rfl); exact absurd hbig a, HB.out⟩
   ·have hbb : decide ((8192 : Int) < (M : Int)) = false := xdf (by have := HM.out; omega)
    have hbc : decide (8192 < M) = false := xdf (by have := HM.out; omega)
    go_wp2
    go_ret2
    exact ⟨by rcases HRES.out with ⟨a, _⟩ | ⟨_, a, b⟩; exact absurd a (by omega); (rw [a, b]; rfl), HB.out⟩
def BrC (d : Nat) (br : Int → ByteArray → S41 → ByteArray → Option (List UInt8)) : Prop := ∀ (ahead test : ByteArray) (k : Int) (f1 : ByteArray) (f2 : Int) (l3 : List S38) (l4 l5 : List S41) (L3 L4 L5 : Nat) (A3 A4 A5 : Option Addr) (c3 c4 c5 : Nat) (n : Int) (r t : List UInt8) (g : Nat) (w0 w : World),
 br n ahead ⟨k, f1, f2, l3, l4, l5⟩ test = some r → 0 ≤ n → n + d ≤ 900 → IsW w0.heap.size w g t n → Below w0.heap.size w0 w → l3.length = L3 → l4.length = L4 → l5.length = L5 → Kd.C k38 w0 A3 l3.length l3 → Kd.C k41 w0 A4 l4.length l4 → Kd.C k41 w0 A5 l5.length l5 → L3 ≤ c3 → L4 ≤ c4 → L5 ≤ c5 → t.length + r.length ≤ 1000000000 →
 Calls Try.prog 62 #[.pointer (some ⟨g, 0, none⟩), .string ahead, .agg #[.int .i64 k, .string f1, .int .i64 f2, .slice A3 L3 c3, .slice A4 L4 c4, .slice A5 L5 c5], .string test] w (LPost w0.heap.size g (t ++ r) n w0 w)
theorem BrC.use {d : Nat} {br : Int → ByteArray → S41 → ByteArray → Option (List UInt8)} (h : BrC d br) : ∀ (ahead test : ByteArray) (k : Int) (f1 : ByteArray) (f2 : Int) (l3 : List S38) (l4 l5 : List S41) (L3 L4 L5 : Nat) (A3 A4 A5 : Option Addr) (c3 c4 c5 : Nat) (n : Int) (r t : List UInt8) (g : Nat) (w0 w : World),
 br n ahead ⟨k, f1, f2, l3, l4, l5⟩ test = some r → 0 ≤ n → n + d ≤ 900 → IsW w0.heap.size w g t n → Below w0.heap.size w0 w → l3.length = L3 → l4.length = L4 → l5.length = L5 → Kd.C k38 w0 A3 l3.length l3 → Kd.C k41 w0 A4 l4.length l4 → Kd.C k41 w0 A5 l5.length l5 → L3 ≤ c3 → L4 ≤ c4 → L5 ≤ c5 → t.length + r.length ≤ 1000000000 →
 Calls Try.prog 62 #[.pointer (some ⟨g, 0, none⟩), .string ahead, .agg #[.int .i64 k, .string f1, .int .i64 f2, .slice A3 L3 c3, .slice A4 L4 c4, .slice A5 L5 c5], .string test] w (LPost w0.heap.size g (t ++ r) n w0 w) := h
def SK (d : Nat) (f : Int → S41 → Option (List UInt8)) (k : Int) (f1 : ByteArray) (f2 : Int) (l3 : List S38) (l4 l5 : List S41) (n : Int) (r : List UInt8) (XS : List ByteArray) : Prop :=
 (k = 4 ∧ ∃ x xr, XS = x :: xr ∧ r = lineB n [⟨#[101, 109, 105, 116, 32]⟩, x, ⟨#[59]⟩]) ∨
 (k = 8 ∧ ∃ x xr, XS = x :: xr ∧ r = lineB n [⟨#[102, 97, 105, 108, 32]⟩, x, ⟨#[59]⟩]) ∨
 (k = 9 ∧ r = lineB n [⟨#[115, 116, 111, 112, 59]⟩]) ∨
 (k = 7 ∧ ∃ x xr b, XS = x :: xr ∧ sBx f (n + 1) l4 = some b ∧ r = lineB n [⟨#[119, 104, 105, 108, 101, 32, 40]⟩, x, ⟨#[41, 32, 123]⟩] ++ (b ++ lineB n [⟨#[125]⟩])) ∨
 (k = 1 ∧ ∃ x xr, XS = x :: xr ∧ r = lineB n [⟨#[118, 97, 114, 32]⟩, f1, ⟨#[32, 61, 32]⟩, x, ⟨#[59]⟩]) ∨
 (k = 2 ∧ ∃ x xr, XS = x :: xr ∧ r = lineB n [f1, ⟨#[32, 61, 32]⟩, x, ⟨#[59]⟩]) ∨
 (k = 3 ∧ ∃ x y xr, XS = x :: y :: xr ∧ r = lineB n [⟨#[109, 91]⟩, x, ⟨#[93, 32, 61, 32]⟩, y, ⟨#[59]⟩]) ∨
 (k = 5 ∧ ∃ cT, num_Text.f f2 = some cT ∧ ∃ x xr, XS = x :: xr ∧ r = lineB n [⟨#[105, 110, 116, 111, 32]⟩, cT, ⟨#[32]⟩, x, ⟨#[59]⟩]) ∨
 (k = 6 ∧ ∃ br, BrC (d + 1) br ∧ ∃ x xr, XS = x :: xr ∧ br n ⟨#[]⟩ ⟨6, f1, f2, l3, l4, l5⟩ x = some r)
theorem stmt_any (K d : Nat) (f : Int → S41 → Option (List UInt8)) (SC0 : StC d f) (k : Int) (f1 : ByteArray) (f2 : Int) (l3 : List S38) (l4 l5 : List S41) (L3 L4 L5 : Nat) (A3 A4 A5 : Option Addr) (c3 c4 c5 : Nat) (n : Int) (r t : List UInt8) (g : Nat) (w0 w : World) (XS : List ByteArray) (hXS : argsT K l3 = some XS) (hn0 : 0 ≤ n) (hn1 : n + d + 1 ≤ 900) (hW : IsW w0.heap.size w g t n) (hB : Below w0.heap.size w0 w) (hL3 : l3.length = L3) (hL4 : l4.length = L4) (hL5 : l5.length = L5) (hC3 : Kd.C k38 w0 A3 l3.length l3) (hC4 : Kd.C k41 w0 A4 l4.length l4) (hC5 : Kd.C k41 w0 A5 l5.length l5) (hc3 : L3 ≤ c3) (hc4 : L4 ≤ c4) (hc5 : L5 ≤ c5) (hL3s : L3 ≤ 2) (hs : t.length + r.length ≤ 1000000000)  (hsk : SK d f k f1 f2 l3 l4 l5 n r XS) :
  Calls Try.prog 39 #[.pointer (some ⟨g, 0, none⟩), .agg #[.int .i64 k, .string f1, .int .i64 f2, .slice A3 L3 c3, .slice A4 L4 c4, .slice A5 L5 c5]] w (LPost w0.heap.size g (t ++ r) n w0 w) := by
 have hu41 := Try.underlying41; have hu38 := Try.underlying38; have HW := A_0 hW; have HB := A_0 hB; have HB2 := A_0 (xbr w.heap.size w); have SC := A_0 SC0; have HXS := A_0 hXS; have HL3 := A_0 hL3; have HL4 := A_0 hL4; have HL5 := A_0 hL5; have HC3 := A_0 hC3; have HC4 := A_0 hC4; have HC5 := A_0 hC5; have HN1 := A_0 hn1; have HS := A_0 hs; have HC4L := A_0 hc4; have HC5L := A_0 hc5; have hn9 : n ≤ 900 := by omega
 have hL3i : (L3 : Int) ≤ 2 := by omega
 clear SC0 hXS hW hB hL3 hL4 hL5 hC3 hC4 hC5 hs hn1 hc4 hc5; have HSK := A_0 hsk; clear hsk
 go_enter Try.func39, Try.ntmps39
 go_wp2_with (first | ((with_reducible refine gate_dst (N := 3) rfl ?_); refine bx (a41 k f1 f2 A3 L3 c3 A4 L4 c4 A5 L5 c5) 41 ?_; intro gb hg w2 hbox hb; replace HB2 := A_0 (xbs HB2.out hb); have BK := A_0 hbox; have GE2 := A_0 (show w.heap.size ≤ gb by rw [hg]; exact xlr _); clear hb hbox hg; obtain ⟨hcz0, hcz1, hcz2, hcz3, hcz4, hcz5⟩ := blkc6 BK.out; obtain ⟨hfz0, hfz1, hfz2, hfz3, hfz4, hfz5⟩ := blkf6 BK.out))
 go_loopw [4, 10] (fun v4 v10 wr => ARel K l3 L3 XS gb #[.int .i64 k, .string f1, .int .i64 f2, .slice A3 L3 c3, .slice A4 L4 c4, .slice A5 L5 c5] w v4 v10 wr) (fun _ v10 _ => L3 - (intOf v10).toNat)
 case atStart => exact ⟨0, [], XS, rfl, Int.le_refl _, by omega, by simp, HXS, ⟨rfl⟩, ⟨World.ownsRow_nil _ _ _ _⟩, BK, HB2⟩
 case round =>
  unfold ARel at hrel; clear HXS HB2 BK hcz0 hfz0 hcz1 hfz1 hcz2 hfz2 hcz3 hfz3 hcz4 hfz4 hcz5 hfz5; obtain ⟨i, xs, ys, rfl, hi0, hi1, hxl, HXS, HX, HO, BK, HB2⟩ := hrel; have HXL := A_0 hxl; clear hxl; by_cases hlt : i < (L3 : Int)
  ·have hlt' : i < (l3.length : Int) := by rw [HL3.out]; exact hlt
   have hb0 := xdt hlt; have hdr := drop_rd38 l3 i hi0 hlt'; have HR0 := HXS.out; rw [hdr] at HR0; unfold argsT at HR0; obtain ⟨xq, hxq, HR0⟩ := Option.bind_eq_some_iff.mp HR0; obtain ⟨yq, hyq, HR0⟩ := Option.bind_eq_some_iff.mp HR0; have HR1 := A_0 (show show_Expr.f K (rd_T38 l3 i).f0 (rd_T38 l3 i).f1 (rd_T38 l3 i).f2 (rd_T38 l3 i).f3 (rd_T38 l3 i).f4 = some xq from hxq); have HR2 := A_0 hyq; have HE := A_0 (xsi HR0); have HBB := A_0 (show Below w0.heap.size w0 wr from (HB.out).trans (HB2.out.mono (below_size HB.out))); obtain ⟨ad, A9, c9, eA, hx0, hx1, hx2, hx3, hx4, hl4, hi4⟩ := at_T38 HC3.out i hi0 hlt'; subst eA; replace hx0 := (HBB.out.cell (xqb w0 _ hx0)).trans hx0; replace hx1 := (HBB.out.cell (xqb w0 _ hx1)).trans hx1; replace hx2 := (HBB.out.cell (xqb w0 _ hx2)).trans hx2; replace hx3 := (HBB.out.cell (xqb w0 _ hx3)).trans hx3; replace hx4 := (HBB.out.cell (xqb w0 _ hx4)).trans hx4; have HC9 := A_0 (Kd.C_below hi4 HBB.out); have HL9 := A_0 hl4; have p1 := eq_true hi0; have p2 := eq_true hlt; clear hdr hxq hyq HR0 hi4 hl4 HXS HBB
   go_wp2_with fail
   (with_reducible refine (show_Expr.calls K _ _ _ _ _ _ (rd_T38 l3 i).f4 xq _ (by (with_reducible repeat (first | refine Kd.C_alloc ?_ _ | refine Kd.C_drewN ?_ _ | refine Kd.C_drew ?_)); exact HC9.out) HL9.out HR1.out).mono ?_)
   rintro e w5 ⟨rfl, hb5⟩; have n0_ := A_0 (World.ownsRow.kept (show World.ownsRow _ w.heap.size 9 1 u4 xs.length (encs Value.string xs) from by (repeat (first | exact HO.out | apply World.ownsRow.alloc))) (grown_of_below hb5 none) (by cases u4.ownBlock with | none => exact .inl rfl | some q => exact .inr (by simp)))
   have n1_ := A_0 (xbs (by repeat (first | (with_reducible first | exact HB2.out | apply below_alloc | apply pw_below_drewN | apply below_drew1) | exact HB2.out)) hb5)
   have n2_ := A_0 (blk_below (g := gb) (o := b41 k f1 f2 _ L3 c3 A4 L4 c4 A5 L5 c5) (z_5) hb5); clear HO HB2 BK hb5 hx0 hx1 hx2 hx3 hx4; have HO := n0_; have HB2 := n1_; have BK := n2_; clear n0_ n1_ n2_
   go_wp2_with (first | ((with_reducible refine gate_builtin (b := .append) (xs := #[.tmp 14, .tmp 17]) rfl ?_); at_builtin; refine print_append_of (w0 := w) Value.string w.heap.size rfl (.tmp 14) (.tmp 17) 67 9 (.string ⟨#[]⟩) 16 rfl Try.underlying67 infoS rfl (by decide) u4 xs xq rfl rfl rfl HO.out HB2.out ?aS ?aL ?_; (case aS => exact below_size HB2.out); (case aL => have := HXL.out; omega); intro v1 w1 ho1 hb1 hg1 hat1; replace HB2 := A_0 hb1; replace BK := A_0 (blk_grown BK.out hg1 (by intro e; obtain ⟨cs_, hc_⟩ := own_row HO.out _ e.symm; exact (blk_ne BK.out hc_ (by decide)) rfl)); replace HO := A_0 ho1; clear ho1 hb1 hg1 hat1))
   go_roundw
   case rel => exact ⟨i + 1, xs ++ [xq], yq, by go_num, by omega, by omega, by have := HXL.out; simp only [List.length_append, List.length_singleton]; omega, HR2, ⟨by rw [List.append_assoc, List.singleton_append, HE.out]; exact HX.out⟩, HO, BK, HB2⟩
   case measure => simp [intOf]; omega
  ·have hb0 := xdf hlt
   clear hi0 hi1
   have he : some ([] : List ByteArray) = some ys := by
    have := HXS.out; rw [List.drop_eq_nil_of_le (by have := HL3.out; omega)] at this; exact this
   have he1 := xsi he; subst he1; have hx := HX.out; rw [List.append_nil] at hx; subst hx; replace HB := A_0 (show Below w0.heap.size w0 wr from (HB.out).trans (HB2.out.mono (below_size HB.out))); have HK := A_0 (KeepT.of_below HB2.out g); have GE := A_0 (IsW.ge HW.out); replace HW := A_0 (IsW.below HW.out HB2.out); clear he HX HXS HB2 hlt; obtain ⟨hcz0, hcz1, hcz2, hcz3, hcz4, hcz5⟩ := blkc6 BK.out; obtain ⟨hfz0, hfz1, hfz2, hfz3, hfz4, hfz5⟩ := blkf6 BK.out; have hsk := HSK.out; clear HSK; rcases hsk with ⟨rfl, x, xr, hxx, rfl⟩ | ⟨rfl, x, xr, hxx, rfl⟩ | ⟨rfl, rfl⟩ | ⟨rfl, x, xr, b, hxx, hb, hr⟩ | ⟨rfl, x, xr, hxx, rfl⟩ | ⟨rfl, x, xr, hxx, rfl⟩ | ⟨rfl, x, y, xr, hxx, rfl⟩ | ⟨rfl, cT, hct, x, xr, hxx, rfl⟩ | ⟨rfl, br, BC0, x, xr, hxx, hr⟩
   ·have HXX := Lib.hid hxx
    clear hxx; have hO := HO.out; rw [HXX.out] at hO; clear HO; obtain ⟨M, hM⟩ : ∃ M, M = (x :: xr).length := ⟨_, rfl⟩; rw [← hM] at hO; obtain ⟨ga, cap, cur, eu, hn9_, hnx, hbg, hcur, hread⟩ := own_get hO; subst eu; have hr0 : wr.cell? ⟨ga, 0, none⟩ = some (.string x) := hread 0 (by omega); have hnpos : 0 < M := by omega
    have hnposi : (0 : Int) < (M : Int) := by omega
    clear hread hnx hM hO hcur; have SZ := A_0 (size_line HS.out)
    go_wp2_with fail
    (with_reducible refine (line_calls t n [⟨#[101, 109, 105, 116, 32]⟩, x, ⟨#[59]⟩] _ 3 g w0 _ hn0 (by omega) rfl (by omega) (z_1) (z_2) (blk_lit3 _ _ _ _) SZ.out).mono ?_)
    rintro e w6 ⟨rfl, hw6, hb6, hk6⟩; have n0_ := A_0 hw6; have n1_ := A_0 hb6; have n3_ := A_0 (KeepT.trans (show KeepT w _ g from z_3) hk6); clear HW HB HK hw6 hb6 hk6; have HW := n0_; have HB := n1_; have HK := n3_; clear n0_ n1_ n3_
    go_wp2
    go_end0
    exact z_6
   ·have HXX := Lib.hid hxx
    clear hxx; have hO := HO.out; rw [HXX.out] at hO; clear HO; obtain ⟨M, hM⟩ : ∃ M, M = (x :: xr).length := ⟨_, rfl⟩; rw [← hM] at hO; obtain ⟨ga, cap, cur, eu, hn9_, hnx, hbg, hcur, hread⟩ := own_get hO; subst eu; have hr0 : wr.cell? ⟨ga, 0, none⟩ = some (.string x) := hread 0 (by omega); have hnpos : 0 < M := by omega
    have hnposi : (0 : Int) < (M : Int) := by omega
    clear hread hnx hM hO hcur; have SZ := A_0 (size_line HS.out)
    go_wp2_with fail
    (with_reducible refine (line_calls t n [⟨#[102, 97, 105, 108, 32]⟩, x, ⟨#[59]⟩] _ 3 g w0 _ hn0 (by omega) rfl (by omega) (z_1) (z_2) (blk_lit3 _ _ _ _) SZ.out).mono ?_)
    rintro e w6 ⟨rfl, hw6, hb6, hk6⟩; have n0_ := A_0 hw6; have n1_ := A_0 hb6; have n3_ := A_0 (KeepT.trans (show KeepT w _ g from z_3) hk6); clear HW HB HK hw6 hb6 hk6; have HW := n0_; have HB := n1_; have HK := n3_; clear n0_ n1_ n3_
    go_wp2
    go_end0
    exact z_6
   ·have SZ := A_0 (size_line HS.out)
    obtain ⟨Av, Mv, cv, rfl⟩ := own_sl HO.out
    go_wp2_with fail
    (with_reducible refine (line_calls t n [⟨#[115, 116, 111, 112, 59]⟩] _ 1 g w0 _ hn0 (by omega) rfl (by omega) (z_1) (z_2) (blk_lit1 _ _) SZ.out).mono ?_)
    rintro e w6 ⟨rfl, hw6, hb6, hk6⟩; have n0_ := A_0 hw6; have n1_ := A_0 hb6; have n3_ := A_0 (KeepT.trans (show KeepT w _ g from z_3) hk6); clear HW HB HK hw6 hb6 hk6; have HW := n0_; have HB := n1_; have HK := n3_; clear n0_ n1_ n3_
    go_wp2
    go_end0
    exact z_6
   ·have hl4 : l4.length ≤ 1000000 ∧ sB f (n + 1) l4 = some b := by
     unfold sBx at hb; by_cases q : l4.length ≤ 1000000
     ·rw [if_pos q] at hb; exact ⟨q, hb⟩
     ·rw [if_neg q] at hb; simp at hb
    have HBS := A_0 hl4; clear hl4 hb; have HXX := Lib.hid hxx; have HRR := A_0 hr; clear hr; clear hxx; have hO := HO.out; rw [HXX.out] at hO; clear HO; obtain ⟨M, hM⟩ : ∃ M, M = (x :: xr).length := ⟨_, rfl⟩; rw [← hM] at hO; obtain ⟨ga, cap, cur, eu, hn9_, hnx, hbg, hcur, hread⟩ := own_get hO; subst eu; have hr0 : wr.cell? ⟨ga, 0, none⟩ = some (.string x) := hread 0 (by omega); have hnpos : 0 < M := by omega
    have hnposi : (0 : Int) < (M : Int) := by omega
    clear hread hnx hM hO hcur
    have SZ := A_0 (show t.length + (([⟨#[119, 104, 105, 108, 101, 32, 40]⟩, x, ⟨#[41, 32, 123]⟩] : List ByteArray).map lst).flatten.length ≤ 1000000000 by
     refine size_line (n := n) ?_
     have := HS.out; rw [HRR.out] at this; simp only [List.length_append] at this
     omega)
    have SZ2 := A_0 (show (t ++ lineB n [⟨#[119, 104, 105, 108, 101, 32, 40]⟩, x, ⟨#[41, 32, 123]⟩]).length + b.length ≤ 1000000000 by
     have := HS.out; rw [HRR.out] at this; simp only [List.length_append] at this ⊢
     omega)
    have SZ3 := A_0 (show (t ++ lineB n [⟨#[119, 104, 105, 108, 101, 32, 40]⟩, x, ⟨#[41, 32, 123]⟩] ++ b).length + (([⟨#[125]⟩] : List ByteArray).map lst).flatten.length ≤ 1000000000 by
     refine size_line (n := n) ?_
     have := HS.out; rw [HRR.out] at this; simp only [List.length_append] at this ⊢
     omega)
    go_wp2_with fail
    (with_reducible refine (line_calls t n [⟨#[119, 104, 105, 108, 101, 32, 40]⟩, x, ⟨#[41, 32, 123]⟩] _ 3 g w0 _ hn0 (by omega) rfl (by omega) (z_1) (z_2) (blk_lit3 _ _ _ _) SZ.out).mono ?_)
    rintro e w6 ⟨rfl, hw6, hb6, hk6⟩; have n0_ := A_0 hw6; have n1_ := A_0 hb6; have n3_ := A_0 (KeepT.trans (show KeepT w _ g from z_3) hk6); have n4_ := A_0 (KeepT.blk hk6 (z_5) (IsW.ne_blk HW.out BK.out (by decide)) (by decide)); clear BK hcz0 hfz0 hcz1 hfz1 hcz2 hfz2 hcz3 hfz3 hcz4 hfz4 hcz5 hfz5 hr0; clear HW HB HK hw6 hb6 hk6; have HW := n0_; have HB := n1_; have HK := n3_; have BK := n4_; clear n0_ n1_ n3_ n4_; obtain ⟨hcz0, hcz1, hcz2, hcz3, hcz4, hcz5⟩ := blkc6 BK.out; obtain ⟨hfz0, hfz1, hfz2, hfz3, hfz4, hfz5⟩ := blkf6 BK.out
    go_wp2_with fail
    (with_reducible refine (within_calls d f SC.out l4 L4 A4 c4 n b (t ++ lineB n [⟨#[119, 104, 105, 108, 101, 32, 40]⟩, x, ⟨#[41, 32, 123]⟩]) g w0 _ HBS.out.2 hn0 (by have := HN1.out; omega) HL4.out (z_1) (z_2) HC4.out HC4L.out (z_7) SZ2.out).mono ?_)
    rintro e w7 ⟨rfl, hw6, hb6, hk6⟩; have n0_ := A_0 hw6; have n1_ := A_0 hb6; have n3_ := A_0 (KeepT.trans (show KeepT w _ g from z_3) hk6); clear HW HB HK hw6 hb6 hk6; have HW := n0_; have HB := n1_; have HK := n3_; clear n0_ n1_ n3_
    go_wp2_with fail
    (with_reducible refine (line_calls (t ++ lineB n [⟨#[119, 104, 105, 108, 101, 32, 40]⟩, x, ⟨#[41, 32, 123]⟩] ++ b) n [⟨#[125]⟩] _ 1 g w0 _ hn0 (by omega) rfl (by omega) (z_1) (z_2) (blk_lit1 _ _) SZ3.out).mono ?_)
    rintro e w8 ⟨rfl, hw8, hb6, hk6⟩; have n0_ := A_0 hw8; have n1_ := A_0 hb6; have n3_ := A_0 (KeepT.trans (show KeepT w _ g from z_3) hk6); clear HW HB HK hw8 hb6 hk6; have HW := n0_; have HB := n1_; have HK := n3_; clear n0_ n1_ n3_
    go_wp2
    go_end0
    exact z_8
   ·have HXX := Lib.hid hxx
    clear hxx; have hO := HO.out; rw [HXX.out] at hO; clear HO; obtain ⟨M, hM⟩ : ∃ M, M = (x :: xr).length := ⟨_, rfl⟩; rw [← hM] at hO; obtain ⟨ga, cap, cur, eu, hn9_, hnx, hbg, hcur, hread⟩ := own_get hO; subst eu; have hr0 : wr.cell? ⟨ga, 0, none⟩ = some (.string x) := hread 0 (by omega); have hnpos : 0 < M := by omega
    have hnposi : (0 : Int) < (M : Int) := by omega
    have HCUR := A_0 hcur; clear hread hnx hM hO hcur; have SZ := A_0 (size_line HS.out)
    go_wp2
    go_region_held3 (fun w' => w'.cell? ⟨gb, 1, none⟩ = some (.string f1) ∧ w'.cell? ⟨ga, 0, none⟩ = some (.string x)) (go_keep) ((go_at_call 59; (with_reducible refine (line_calls t n [⟨#[118, 97, 114, 32]⟩, f1, ⟨#[32, 61, 32]⟩, x, ⟨#[59]⟩] _ 5 g w0 _ hn0 (by omega) rfl (by omega) (z_1) (z_2) (z_9) SZ.out).mono ?_); rintro e w6 ⟨rfl, hw6, hb6, hk6⟩; have b1_ := KeepT.blk (cs := a41 1 f1 f2 A3 L3 c3 A4 L4 c4 A5 L5 c5) (t := 41) hk6 (z_5) (IsW.ne_blk HW.out BK.out (by decide)) (by decide); have kb1_ : w6.cell? ⟨gb, 1, none⟩ = some (.string f1) := (xbc b1_ 1).trans rfl; have b2_ := KeepT.blk (cs := cur) (t := 9) hk6 (z_10) (IsW.ne_blk HW.out HCUR.out (by decide)) (by decide); have kc0_ : w6.cell? ⟨ga, 0, none⟩ = some (.string x) := (xbc b2_ 0).trans ((xbc HCUR.out 0).symm.trans hr0); replace HW := A_0 hw6; replace HB := A_0 hb6; replace HK := A_0 (KeepT.trans (show KeepT w _ g from z_3) hk6); clear hw6 hb6 hk6))
    go_wp2
    go_end0
    exact z_6
   ·have HXX := Lib.hid hxx
    clear hxx; have hO := HO.out; rw [HXX.out] at hO; clear HO; obtain ⟨M, hM⟩ : ∃ M, M = (x :: xr).length := ⟨_, rfl⟩; rw [← hM] at hO; obtain ⟨ga, cap, cur, eu, hn9_, hnx, hbg, hcur, hread⟩ := own_get hO; subst eu; have hr0 : wr.cell? ⟨ga, 0, none⟩ = some (.string x) := hread 0 (by omega); have hnpos : 0 < M := by omega
    have hnposi : (0 : Int) < (M : Int) := by omega
    have HCUR := A_0 hcur; clear hread hnx hM hO hcur; have SZ := A_0 (size_line HS.out)
    go_wp2
    go_region_held3 (fun w' => w'.cell? ⟨gb, 1, none⟩ = some (.string f1) ∧ w'.cell? ⟨ga, 0, none⟩ = some (.string x)) (go_keep) ((go_at_call 59; (with_reducible refine (line_calls t n [f1, ⟨#[32, 61, 32]⟩, x, ⟨#[59]⟩] _ 4 g w0 _ hn0 (by omega) rfl (by omega) (z_1) (z_2) (by first | exact blk_lit4 _ _ _ _ _ | exact blk_drew (blk_lit4 _ _ _ _ _)) SZ.out).mono ?_); rintro e w6 ⟨rfl, hw6, hb6, hk6⟩; have b1_ := KeepT.blk (cs := a41 2 f1 f2 A3 L3 c3 A4 L4 c4 A5 L5 c5) (t := 41) hk6 (z_5) (IsW.ne_blk HW.out BK.out (by decide)) (by decide); have kb1_ : w6.cell? ⟨gb, 1, none⟩ = some (.string f1) := (xbc b1_ 1).trans rfl; have b2_ := KeepT.blk (cs := cur) (t := 9) hk6 (z_10) (IsW.ne_blk HW.out HCUR.out (by decide)) (by decide); have kc0_ : w6.cell? ⟨ga, 0, none⟩ = some (.string x) := (xbc b2_ 0).trans ((xbc HCUR.out 0).symm.trans hr0); replace HW := A_0 hw6; replace HB := A_0 hb6; replace HK := A_0 (KeepT.trans (show KeepT w _ g from z_3) hk6); clear hw6 hb6 hk6))
    go_wp2
    go_end0
    exact z_6
   ·have HXX := Lib.hid hxx
    clear hxx; have hO := HO.out; rw [HXX.out] at hO; clear HO; obtain ⟨M, hM⟩ : ∃ M, M = (x :: y :: xr).length := ⟨_, rfl⟩; rw [← hM] at hO; obtain ⟨ga, cap, cur, eu, hn9_, hnx, hbg, hcur, hread⟩ := own_get hO; subst eu; have hr0 : wr.cell? ⟨ga, 0, none⟩ = some (.string x) := hread 0 (by omega); have hr1 : wr.cell? ⟨ga, 1, none⟩ = some (.string y) := hread 1 (by simp only [List.length_cons] at hnx; omega); have hnp1 : 1 < M := by simp only [List.length_cons] at hnx; omega
    have hnp1i : (1 : Int) < (M : Int) := by omega
    have hnpos : 0 < M := by omega
    have hnposi : (0 : Int) < (M : Int) := by omega
    have HCUR := A_0 hcur; clear hread hnx hM hO hcur; have SZ := A_0 (size_line HS.out)
    go_wp2
    go_region_held3 (fun w' => w'.cell? ⟨ga, 0, none⟩ = some (.string x) ∧ w'.cell? ⟨ga, 1, none⟩ = some (.string y)) (go_keep) ((go_at_call 59; (with_reducible refine (line_calls t n [⟨#[109, 91]⟩, x, ⟨#[93, 32, 61, 32]⟩, y, ⟨#[59]⟩] _ 5 g w0 _ hn0 (by omega) rfl (by omega) (z_1) (z_2) (z_9) SZ.out).mono ?_); rintro e w6 ⟨rfl, hw6, hb6, hk6⟩; have b2_ := KeepT.blk (cs := cur) (t := 9) hk6 (z_10) (IsW.ne_blk HW.out HCUR.out (by decide)) (by decide); have kc0_ : w6.cell? ⟨ga, 0, none⟩ = some (.string x) := (xbc b2_ 0).trans ((xbc HCUR.out 0).symm.trans hr0); have kc1_ : w6.cell? ⟨ga, 1, none⟩ = some (.string y) := (xbc b2_ 1).trans ((xbc HCUR.out 1).symm.trans hr1); replace HW := A_0 hw6; replace HB := A_0 hb6; replace HK := A_0 (KeepT.trans (show KeepT w _ g from z_3) hk6); clear hw6 hb6 hk6))
    go_wp2
    go_end0
    exact z_6
   ·have HCT := A_0 hct
    clear hct; have HXX := Lib.hid hxx; clear hxx; have hO := HO.out; rw [HXX.out] at hO; clear HO; obtain ⟨M, hM⟩ : ∃ M, M = (x :: xr).length := ⟨_, rfl⟩; rw [← hM] at hO; obtain ⟨ga, cap, cur, eu, hn9_, hnx, hbg, hcur, hread⟩ := own_get hO; subst eu; have hr0 : wr.cell? ⟨ga, 0, none⟩ = some (.string x) := hread 0 (by omega); have hnpos : 0 < M := by omega
    have hnposi : (0 : Int) < (M : Int) := by omega
    have HCUR := A_0 hcur; clear hread hnx hM hO hcur; have SZ := A_0 (size_line HS.out)
    go_wp2
    go_region_held3 (fun w' => w'.cell? ⟨gb, 2, none⟩ = some (.int .i64 f2) ∧ w'.cell? ⟨ga, 0, none⟩ = some (.string x)) (go_keep) (first | (go_at_call 60; (with_reducible refine (num_Text.calls f2 cT _ HCT.out).mono ?_); rintro e w7 ⟨rfl, hb7⟩; have b1_ := blk_below (show _ = some (b41 5 f1 f2 A3 L3 c3 A4 L4 c4 A5 L5 c5) from (z_5)) hb7; have kb2_ : w7.cell? ⟨gb, 2, none⟩ = some (.int .i64 f2) := (xbc b1_ 2).trans rfl; have b2_ := blk_below (show _ = some (.cells cur 9 (0, 0)) from (z_10)) hb7; have kc0_ : w7.cell? ⟨ga, 0, none⟩ = some (.string x) := (xbc b2_ 0).trans ((xbc HCUR.out 0).symm.trans hr0); replace HW := A_0 (IsW.below (show IsW w0.heap.size _ g t n from z_1) hb7); replace HB := A_0 (xbs (z_2) hb7); replace HK := A_0 (KeepT.below (show KeepT w _ g from z_3) hb7); replace BK := A_0 b1_; replace HCUR := A_0 b2_; replace hr0 := kc0_; clear hb7 b1_ b2_) | (go_at_call 59; (with_reducible refine (line_calls t n [⟨#[105, 110, 116, 111, 32]⟩, cT, ⟨#[32]⟩, x, ⟨#[59]⟩] _ 5 g w0 _ hn0 (by omega) rfl (by omega) (z_1) (z_2) (z_9) SZ.out).mono ?_); rintro e w6 ⟨rfl, hw6, hb6, hk6⟩; have b1_ := KeepT.blk (cs := a41 5 f1 f2 A3 L3 c3 A4 L4 c4 A5 L5 c5) (t := 41) hk6 (z_5) (IsW.ne_blk HW.out BK.out (by decide)) (by decide); have kb2_ : w6.cell? ⟨gb, 2, none⟩ = some (.int .i64 f2) := (xbc b1_ 2).trans rfl; have b2_ := KeepT.blk (cs := cur) (t := 9) hk6 (z_10) (IsW.ne_blk HW.out HCUR.out (by decide)) (by decide); have kc0_ : w6.cell? ⟨ga, 0, none⟩ = some (.string x) := (xbc b2_ 0).trans ((xbc HCUR.out 0).symm.trans hr0); replace HW := A_0 hw6; replace HB := A_0 hb6; replace HK := A_0 (KeepT.trans (show KeepT w _ g from z_3) hk6); clear hw6 hb6 hk6))
    go_wp2
    go_end0
    exact z_6
   ·have BC := A_0 BC0
    have HR := A_0 hr; clear hr BC0; have HXX := Lib.hid hxx; clear hxx; have hO := HO.out; rw [HXX.out] at hO; clear HO; obtain ⟨M, hM⟩ : ∃ M, M = (x :: xr).length := ⟨_, rfl⟩; rw [← hM] at hO; obtain ⟨ga, cap, cur, eu, hn9_, hnx, hbg, hcur, hread⟩ := own_get hO; subst eu; have hr0 : wr.cell? ⟨ga, 0, none⟩ = some (.string x) := hread 0 (by omega); have hnpos : 0 < M := by omega
    have hnposi : (0 : Int) < (M : Int) := by omega
    have HCUR := A_0 hcur; clear hread hnx hM hO hcur
    go_wp2
    go_region_held3 (fun w' => w'.cell? ⟨gb, 0, none⟩ = some (.int .i64 6) ∧ w'.cell? ⟨gb, 1, none⟩ = some (.string f1) ∧ w'.cell? ⟨gb, 2, none⟩ = some (.int .i64 f2) ∧ w'.cell? ⟨gb, 3, none⟩ = some (.slice A3 L3 c3) ∧ w'.cell? ⟨gb, 4, none⟩ = some (.slice A4 L4 c4) ∧ w'.cell? ⟨gb, 5, none⟩ = some (.slice A5 L5 c5) ∧ w'.cell? ⟨ga, 0, none⟩ = some (.string x)) (go_keep) ((go_at_call 62; (with_reducible refine (BC.out.use _ x 6 f1 f2 l3 l4 l5 L3 L4 L5 A3 A4 A5 c3 c4 c5 n r t g w0 _ HR.out hn0 (by have := HN1.out; omega) (z_1) (z_2) HL3.out HL4.out HL5.out HC3.out HC4.out HC5.out hc3 HC4L.out HC5L.out HS.out).mono ?_); rintro e w6 ⟨rfl, hw6, hb6, hk6⟩; have b1_ := KeepT.blk (cs := a41 6 f1 f2 A3 L3 c3 A4 L4 c4 A5 L5 c5) (t := 41) hk6 (z_5) (IsW.ne_blk HW.out BK.out (by decide)) (by decide); have kb0_ : w6.cell? ⟨gb, 0, none⟩ = some (.int .i64 6) := (xbc b1_ 0).trans rfl; have kb1_ : w6.cell? ⟨gb, 1, none⟩ = some (.string f1) := (xbc b1_ 1).trans rfl; have kb2_ : w6.cell? ⟨gb, 2, none⟩ = some (.int .i64 f2) := (xbc b1_ 2).trans rfl; have kb3_ : w6.cell? ⟨gb, 3, none⟩ = some (.slice A3 L3 c3) := (xbc b1_ 3).trans rfl; have kb4_ : w6.cell? ⟨gb, 4, none⟩ = some (.slice A4 L4 c4) := (xbc b1_ 4).trans rfl; have kb5_ : w6.cell? ⟨gb, 5, none⟩ = some (.slice A5 L5 c5) := (xbc b1_ 5).trans rfl; have b2_ := KeepT.blk (cs := cur) (t := 9) hk6 (z_10) (IsW.ne_blk HW.out HCUR.out (by decide)) (by decide); have kc0_ : w6.cell? ⟨ga, 0, none⟩ = some (.string x) := (xbc b2_ 0).trans ((xbc HCUR.out 0).symm.trans hr0); replace HW := A_0 hw6; replace HB := A_0 hb6; replace HK := A_0 (KeepT.trans (show KeepT w _ g from z_3) hk6); clear hw6 hb6 hk6))
    go_wp2
    go_end0
    exact z_6
end Go.Proofs.Ytobkdmmnbnpemaa.K
