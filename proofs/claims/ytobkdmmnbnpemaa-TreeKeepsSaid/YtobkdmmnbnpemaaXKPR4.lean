/- What statements may be, told without a count. Plain. -/
import Derived.Test.YtobkdmmnbnpemaaXKPR0
namespace Go.Proofs.Ytobkdmmnbnpemaa.K
open Go.RowKit Go.Proofs.YtobkdmmnbnpemaaW.PrintWords Go.Proofs.YtobkdmmnbnpemaaW.PrintLast Go.Proofs.YtobkdmmnbnpemaaW.PrintMore
set_option linter.unusedVariables false
set_option linter.unusedSimpArgs false
mutual
def cntS : S41 → Nat
  | ⟨_, _, _, e, b, c⟩ => cntL e + (cntB b + cntB c)
def cntB : List S41 → Nat
  | [] => 0
  | x :: xs => 1 + cntS x + cntB xs
end
def fitSt (r : List S41 → Bool) (s : S41) : Bool := headB s && (fitL s.f3 && (decide (deepL s.f3 ≤ 48) && (!loopsB s.f0 || (r s.f4 && (decide (s.f5.length = 0) || r s.f5)))))
def fitB : Nat → List S41 → Bool
  | 0, _ => false
  | b + 1, l => l.all (fitSt (fitB b))
theorem len_cntB : ∀ l : List S41, l.length ≤ cntB l
  | [] => Nat.le_refl _
  | x :: xs => by have := len_cntB xs; simp only [List.length_cons, cntB]; omega
theorem cntS_eq (s : S41) : cntS s = cntL s.f3 + (cntB s.f4 + cntB s.f5) := by
  obtain ⟨_, _, _, _, _, _⟩ := s
  rfl
theorem head_empty {s : S41} (h : headB s = true) : (loopsB s.f0 = false → s.f4 = [] ∧ s.f5 = []) := by
  intro q; unfold headB at h; cases hw : wantS s.f0 with
  | none => rw [hw] at h; simp at h
  | some p =>
    rw [hw] at h; simp only [Bool.and_eq_true, Bool.or_eq_true, List.isEmpty_iff] at h; have h6 : (s.f0 == 6) = false := by
      unfold loopsB at q; simp only [Bool.or_eq_false_iff] at q; exact q.2
    refine ⟨?_, ?_⟩
    · rcases h.1.2 with z | z
      · rw [q] at z; simp at z
      · exact z
    · rcases h.2 with z | z
      · rw [h6] at z; simp at z
      · exact z
def Tells (c : Bool × Int) (fit : Bool) (n m : Int) : Prop := (c.1 = true ↔ fit = true ∧ n + m ≤ 600) ∧ (c.1 = true → c.2 = n + m)
theorem tells_no {fit : Bool} {n m k : Int} (h : ¬ (fit = true ∧ n + m ≤ 600)) : Tells (false, k) fit n m := ⟨⟨fun z => by simp at z, fun z => absurd z h⟩, fun z => by simp at z⟩
theorem cS_may (r : Int → List S41 → Bool × Int) (fr : List S41 → Bool) (hr : ∀ n l, 0 ≤ n → n ≤ 600 → Tells (r n l) (fr l) n (cntB l)) (n : Int) (s : S41) (h0 : 0 ≤ n) (h1 : n ≤ 600) : Tells (cS r n s) (fitSt fr s) n (cntS s) := by
  have E := goE_may 48 (fun n e a b => cE_may 48 n e a b) s.f3 n h0 h1; rw [cntS_eq]; unfold cS fitSt; cases hh : headB s with
  | false => rw [if_neg (by simp)]; exact tells_no (by simp)
  | true =>
    rw [if_pos rfl]; by_cases q : (goE (cE 48) n s.f3).1 = true
    · rw [if_pos q]
      obtain ⟨m1, m2, m3⟩ := E.1.mp q; have e := E.2 q; rw [e, m1, decide_eq_true m2]; cases hl : loopsB s.f0 with
      | false =>
        obtain ⟨a, b⟩ := head_empty hh hl; rw [if_neg (by simp), a, b]; exact z_159
      | true =>
        rw [if_pos rfl]; have R := hr (n + cntL s.f3) s.f4 (by omega) m3; by_cases p : (r (n + cntL s.f3) s.f4).1 = true
        · rw [if_pos p]
          obtain ⟨r1, r2⟩ := R.1.mp p; rw [R.2 p, r1]; by_cases z : s.f5.length = 0
          · rw [if_pos z, decide_eq_true z]
            have z' := List.eq_nil_of_length_eq_zero z; rw [z']; exact z_159
          · rw [if_neg z, decide_eq_false z]
            have R2 := hr (n + cntL s.f3 + cntB s.f4) s.f5 (by omega) r2; refine ⟨⟨fun y => ?_, fun y => R2.1.mpr ⟨by simpa using y.1, by have := y.2; omega⟩⟩, fun y => by rw [R2.2 y]; omega⟩
            have := R2.1.mp y; exact ⟨by simpa using this.1, by have := this.2; omega⟩
        · rw [if_neg p]
          refine tells_no fun y => p (R.1.mpr ⟨?_, by have := y.2; omega⟩)
          have := y.1; simp only [Bool.true_and, Bool.not_true, Bool.false_or, Bool.and_eq_true] at this; exact this.1
    · rw [if_neg q]
      refine tells_no fun y => q (E.1.mpr ?_)
      have := y.1; simp only [Bool.true_and, Bool.and_eq_true, decide_eq_true_eq] at this; exact ⟨this.1, this.2.1, by have := y.2; omega⟩
theorem oneS_may (r : Int → List S41 → Bool × Int) (fr : List S41 → Bool) (hr : ∀ n l, 0 ≤ n → n ≤ 600 → Tells (r n l) (fr l) n (cntB l)) (n : Int) (s : S41) (h0 : 0 ≤ n) (h1 : n ≤ 600) : Tells (oneS r n s) (fitSt fr s) n (1 + cntS s : Nat) := by
  unfold oneS; by_cases q : n + 1 > 600
  · rw [if_pos q]; exact tells_no fun y => by have := y.2; omega
  · rw [if_neg q]
    obtain ⟨a, b⟩ := cS_may r fr hr (n + 1) s (by omega) (by omega); exact ⟨⟨fun y => ⟨(a.mp y).1, by have := (a.mp y).2; omega⟩, fun y => a.mpr ⟨y.1, by have := y.2; omega⟩⟩, fun y => by rw [b y]; omega⟩
theorem goS_may (f : Int → S41 → Bool × Int) (p : S41 → Bool) (h : ∀ n s, 0 ≤ n → n ≤ 600 → Tells (f n s) (p s) n (1 + cntS s : Nat)) : ∀ (l : List S41) (n : Int), 0 ≤ n → n ≤ 600 → Tells (goE f n l) (l.all p) n (cntB l)
  | [], n, h0, h1 => ⟨⟨fun _ => ⟨rfl, by simp only [cntB]; omega⟩, fun _ => rfl⟩, fun _ => by simp only [cntB]; show n = _; omega⟩
  | x :: xs, n, h0, h1 => by
    obtain ⟨a, b⟩ := h n x h0 h1; unfold goE; by_cases c : (f n x).1 = true
    · rw [if_pos c]
      have m := a.mp c; have e := b c; obtain ⟨r, s⟩ := goS_may f p h xs (f n x).2 (by rw [e]; omega) (by rw [e]; exact m.2); rw [e] at r s ⊢; rw [List.all_cons, m.1, Bool.true_and]; simp only [cntB]; exact ⟨⟨fun y => ⟨(r.mp y).1, by have := (r.mp y).2; omega⟩, fun y => r.mpr ⟨y.1, by have := y.2; omega⟩⟩, fun y => by rw [s y]; omega⟩
    · rw [if_neg c]
      refine tells_no fun y => c (a.mpr ?_)
      have y1 := y.1; rw [List.all_cons, Bool.and_eq_true] at y1; have y2 := y.2; simp only [cntB] at y2; exact ⟨y1.1, by omega⟩
theorem cB_may : ∀ (b : Nat) (n : Int) (l : List S41), 0 ≤ n → n ≤ 600 → Tells (cB b n l) (fitB b l) n (cntB l)
  | 0, n, l, h0, h1 => tells_no fun y => by simp [fitB] at y
  | b + 1, n, l, h0, h1 => by
    unfold cB; by_cases q : 600 < l.length
    · rw [if_pos q]
      refine tells_no fun y => ?_
      have := len_cntB l; have := y.2
      omega
    · rw [if_neg q, fitB]
      exact goS_may _ _ (fun n s a c => oneS_may _ _ (fun n l a c => cB_may b n l a c) n s a c) l n h0 h1
end Go.Proofs.Ytobkdmmnbnpemaa.K
