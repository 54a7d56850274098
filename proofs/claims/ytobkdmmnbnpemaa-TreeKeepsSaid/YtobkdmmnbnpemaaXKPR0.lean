/- What may be, told without a count: nodes, depth, fields. Plain. -/
import Derived.Test.YtobkdmmnbnpemaaXKY0
namespace Go.Proofs.Ytobkdmmnbnpemaa.K
open Go.RowKit Go.Proofs.YtobkdmmnbnpemaaW.PrintWords Go.Proofs.YtobkdmmnbnpemaaW.PrintLast Go.Proofs.YtobkdmmnbnpemaaW.PrintMore
set_option linter.unusedVariables false
set_option linter.unusedSimpArgs false
mutual
def cntE : S38 → Nat
  | ⟨_, _, _, _, l⟩ => 1 + cntL l
def cntL : List S38 → Nat
  | [] => 0
  | x :: xs => cntE x + cntL xs
end
mutual
def deepE : S38 → Nat
  | ⟨_, _, _, _, l⟩ => 1 + deepL l
def deepL : List S38 → Nat
  | [] => 0
  | x :: xs => max (deepE x) (deepL xs)
end
mutual
def fitE : S38 → Bool
  | ⟨a, b, c, d, l⟩ => (wantE a == some l.length) && (fieldsB a b c d && fitL l)
def fitL : List S38 → Bool
  | [] => true
  | x :: xs => fitE x && fitL xs
end
def MayE (d : Nat) (n : Int) (e : S38) : Prop := fitE e = true ∧ deepE e ≤ d ∧ n + cntE e ≤ 600
def MayL (d : Nat) (n : Int) (l : List S38) : Prop := fitL l = true ∧ deepL l ≤ d ∧ n + cntL l ≤ 600
theorem goE_may (d : Nat) (h : ∀ n e, 0 ≤ n → n ≤ 600 → ((cE d n e).1 = true ↔ MayE d n e) ∧ ((cE d n e).1 = true → (cE d n e).2 = n + cntE e)) :
    ∀ (l : List S38) (n : Int), 0 ≤ n → n ≤ 600 → ((goE (cE d) n l).1 = true ↔ MayL d n l) ∧ ((goE (cE d) n l).1 = true → (goE (cE d) n l).2 = n + cntL l)
  | [], n, h0, h1 => ⟨⟨fun _ => ⟨rfl, Nat.zero_le _, by show n + ((0 : Nat) : Int) ≤ 600; omega⟩, fun _ => rfl⟩, fun _ => by show n = n + ((0 : Nat) : Int); omega⟩
  | x :: xs, n, h0, h1 => by
    obtain ⟨p, q⟩ := h n x h0 h1; unfold goE; by_cases c : (cE d n x).1 = true
    · rw [if_pos c]
      have e := q c; have m := p.mp c; obtain ⟨r, s⟩ := goE_may d h xs (cE d n x).2 (by rw [e]; omega) (by rw [e]; exact m.2.2); rw [e] at r s ⊢; refine ⟨⟨fun z => ?_, fun z => r.mpr ?_⟩, fun z => ?_⟩
      · have z' := r.mp z
        refine ⟨by simp only [fitL, m.1, z'.1, Bool.and_self], ?_, ?_⟩
        · have := m.2.1; have := z'.2.1; simp only [deepL]; omega
        · have := z'.2.2; simp only [cntL]; omega
      · have z1 := z.1
        simp only [fitL, Bool.and_eq_true] at z1; refine ⟨z1.2, ?_, ?_⟩
        · have := z.2.1; simp only [deepL] at this; omega
        · have := z.2.2; simp only [cntL] at this; omega
      · have := s z; simp only [cntL]; omega
    · rw [if_neg c]
      refine ⟨⟨fun z => by simp at z, fun z => absurd (p.mpr ?_) c⟩, fun z => by simp at z⟩
      have z1 := z.1; simp only [fitL, Bool.and_eq_true] at z1; refine ⟨z1.1, ?_, ?_⟩
      · have := z.2.1; simp only [deepL] at this; omega
      · have := z.2.2; simp only [cntL] at this; omega
theorem cE_may : ∀ (d : Nat) (n : Int) (e : S38), 0 ≤ n → n ≤ 600 → ((cE d n e).1 = true ↔ MayE d n e) ∧ ((cE d n e).1 = true → (cE d n e).2 = n + cntE e)
  | 0, n, ⟨a, b, c, f, l⟩, h0, h1 => ⟨⟨fun z => by simp [cE] at z, fun z => by have := z.2.1; simp only [deepE] at this; omega⟩, fun z => by simp [cE] at z⟩
  | d + 1, n, ⟨a, b, c, f, l⟩, h0, h1 => by
    have G := goE_may d (fun n e a b => cE_may d n e a b) l (n + 1) (by omega); unfold cE; by_cases q : n + 1 > 600
    · rw [if_pos q]
      refine ⟨⟨fun z => by simp at z, fun z => ?_⟩, fun z => by simp at z⟩
      have := z.2.2; simp only [cntE] at this; omega
    rw [if_neg q]; obtain ⟨r, s⟩ := G (by omega); show ((match wantE a with | none => (false, n + 1) | some k => if l.length = k then (if fieldsB a b c f = true then goE (cE d) (n + 1) l else (false, n + 1)) else (false, n + 1)).1 = true ↔ _) ∧ ((match wantE a with | none => (false, n + 1) | some k => if l.length = k then (if fieldsB a b c f = true then goE (cE d) (n + 1) l else (false, n + 1)) else (false, n + 1)).1 = true → (match wantE a with | none => (false, n + 1) | some k => if l.length = k then (if fieldsB a b c f = true then goE (cE d) (n + 1) l else (false, n + 1)) else (false, n + 1)).2 = _); have K : ∀ z : MayE (d + 1) n ⟨a, b, c, f, l⟩, wantE a = some l.length ∧ fieldsB a b c f = true ∧ MayL d (n + 1) l := by
      intro z; have z1 := z.1; simp only [fitE, Bool.and_eq_true, beq_iff_eq] at z1; refine ⟨z1.1, z1.2.1, z1.2.2, ?_, ?_⟩
      · have := z.2.1; simp only [deepE] at this; omega
      · have := z.2.2; simp only [cntE] at this; omega
    cases hw : wantE a with
    | none => exact ⟨⟨fun z => by simp at z, fun z => by have := (K z).1; rw [hw] at this; simp at this⟩, fun z => by simp at z⟩
    | some k =>
      dsimp only; by_cases q2 : l.length = k
      · rw [if_pos q2]
        by_cases q3 : fieldsB a b c f = true
        · rw [if_pos q3]
          refine ⟨⟨fun z => ?_, fun z => r.mpr (K z).2.2⟩, fun z => ?_⟩
          · have z' := r.mp z
            refine ⟨by simp only [fitE, hw, q2, q3, z'.1, Bool.and_self, beq_self_eq_true], ?_, ?_⟩
            · have := z'.2.1; simp only [deepE]; omega
            · have := z'.2.2; simp only [cntE]; omega
          · have := s z; simp only [cntE]; omega
        · rw [if_neg q3]
          exact ⟨⟨fun z => by simp at z, fun z => absurd (K z).2.1 q3⟩, fun z => by simp at z⟩
      · rw [if_neg q2]
        exact ⟨⟨fun z => by simp at z, fun z => by have := (K z).1; rw [hw] at this; exact absurd (Option.some.inj this).symm q2⟩, fun z => by simp at z⟩
end Go.Proofs.Ytobkdmmnbnpemaa.K
