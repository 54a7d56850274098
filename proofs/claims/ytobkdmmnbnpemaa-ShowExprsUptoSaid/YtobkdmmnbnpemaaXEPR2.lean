/- The reference's fits, on trees. Plain. -/
import Derived.Test.YtobkdmmnbnpemaaXEPR1
import Derived.Test.YtobkdmmnbnpemaaXEPL1
import Derived.Test.YtobkdmmnbnpemaaXER2
namespace Go.Proofs.Ytobkdmmnbnpemaa.K
open Go.RowKit Go.Proofs.YtobkdmmnbnpemaaW.PrintWords Go.Proofs.YtobkdmmnbnpemaaW.PrintLast Go.Proofs.YtobkdmmnbnpemaaW.PrintMore
set_option linter.unusedVariables false
set_option linter.unusedSimpArgs false
theorem rname_any (s : ByteArray) : ∃ k, outriderref03_Name.f k s = some (nameB (lst s)) := by
  by_cases h : s.size ≤ 140737488351232
  · exact rname_ok s h
  · have hlen := lst_len s
    refine ⟨0, ?_⟩
    unfold outriderref03_Name.f
    rw [if_neg (by omega)]
    cases hl : lst s with
    | nil => rw [hl] at hlen; simp at hlen; omega
    | cons c l =>
      rw [hl] at hlen
      have hnb : nameB (c :: l) = (decide ((c :: l).length ≤ 12) && (letB c && (!wordsB (c :: l) && l.all anB))) := rfl
      rw [hnb, decide_eq_false (by omega)]
      rfl
def opR (a : Int) (c : ByteArray) (f : Int) : Bool := if a = 2 then nameB (lst c) else if a = 4 then decide (f ≥ 19) && decide (f ≤ 21) else if a = 5 then decide (f ≥ 1) && decide (f ≤ 18) else true
theorem fits_j2 {k : Nat} {a b : Int} {c : ByteArray} {f : Int} {l : List S38} {v : Bool} (h : outriderref04_fits.l0 k 0 a b c f l = some v) (B : Bool) : outriderref04_fits.j2 (k + 1) B a b c f l = some (!B && v) := by
  rw [outriderref04_fits.j2]
  cases B with
  | true => rfl
  | false => rw [if_neg (by simp), h]; rfl
theorem fits_j1 {k : Nat} {a b : Int} {c : ByteArray} {f : Int} {l : List S38} {v : Bool} (h : ∀ B, outriderref04_fits.j2 k B a b c f l = some (!B && v)) (hn : outriderref03_Name.f k c = some (nameB (lst c))) (B : Bool) : outriderref04_fits.j1 (k + 1) B a b c f l = some (!B && (opR a c f && v)) := by
  rw [outriderref04_fits.j1]
  cases B with
  | true => rfl
  | false =>
    rw [if_neg (by simp)]
    unfold opR
    by_cases q2 : a = 2
    · subst q2
      rw [if_pos rfl, if_pos rfl, hn, Option.bind_some]
      cases nameB (lst c) <;> simp [h]
    · rw [if_neg q2, if_neg q2]
      by_cases q4 : a = 4
      · subst q4
        rw [if_pos rfl, if_pos rfl]
        by_cases p : f < 19
        · rw [if_pos p, h, decide_eq_false (show ¬ f ≥ 19 by omega)]; rfl
        · rw [if_neg p, decide_eq_true (show f ≥ 19 by omega)]
          by_cases p2 : f > 21
          · rw [if_pos p2, h, decide_eq_false (show ¬ f ≤ 21 by omega)]; rfl
          · rw [if_neg p2, if_neg (show ¬ ((4 : Int) = 5) by decide), h, decide_eq_true (show f ≤ 21 by omega)]; rfl
      · rw [if_neg q4, if_neg q4]
        by_cases q5 : a = 5
        · subst q5
          rw [if_pos rfl, if_pos rfl]
          by_cases p : f < 1
          · rw [if_pos p, h, decide_eq_false (show ¬ f ≥ 1 by omega)]; rfl
          · rw [if_neg p, h, decide_eq_true (show f ≥ 1 by omega)]
            by_cases p2 : f > 18
            · rw [decide_eq_true p2, decide_eq_false (show ¬ f ≤ 18 by omega)]; rfl
            · rw [decide_eq_false p2, decide_eq_true (show f ≤ 18 by omega)]; rfl
        · rw [if_neg q5, if_neg q5, h]; rfl
theorem fits_j0 {k : Nat} {a b : Int} {c : ByteArray} {f : Int} {l : List S38} {v : Bool} (h : ∀ B, outriderref04_fits.j1 k B a b c f l = some (!B && v)) (want y0 y1 : Int) (y2 : ByteArray) (y3 : Int) : outriderref04_fits.j0 (k + 1) want a b c f l y0 y1 y2 y3 = some (decide (y1 = b) && (decide (y2.toList = c.toList) && (decide (y3 = f) && (decide ((l.length : Int) = want) && (decide (¬ b < 0) && v))))) := by
  rw [outriderref04_fits.j0]
  by_cases p1 : y1 = b
  · rw [if_pos p1, decide_eq_true p1]
    by_cases p2 : y2.toList = c.toList
    · rw [if_pos p2, decide_eq_true p2]
      by_cases p3 : y3 = f
      · rw [if_pos p3, decide_eq_true p3]
        by_cases p4 : (l.length : Int) = want
        · rw [if_pos p4, decide_eq_true p4, h]
          by_cases p5 : b < 0
          · rw [decide_eq_true p5, decide_eq_false (not_not_intro p5)]; rfl
          · rw [decide_eq_false p5, decide_eq_true p5]; rfl
        · rw [if_neg p4, decide_eq_false p4, h]; rfl
      · rw [if_neg p3, decide_eq_false p3, h]; rfl
    · rw [if_neg p2, decide_eq_false p2, h]; rfl
  · rw [if_neg p1, decide_eq_false p1, h]; rfl
theorem nat_beq_decide (a b : Nat) : (a == b) = decide (b = a) := by
  by_cases q : b = a
  · rw [decide_eq_true q, q]; exact beq_self_eq_true a
  · rw [decide_eq_false q]; exact beq_eq_false_iff_ne.2 (fun z => q z.symm)
theorem fits_head {k : Nat} {a b : Int} {c : ByteArray} {f : Int} {l : List S38} {v : Bool} (h : outriderref04_fits.l0 k 0 a b c f l = some v) : ∃ k', outriderref04_fits.f k' a b c f l = some ((wantE a == some l.length) && (fieldsB a b c f && v)) := by
  obtain ⟨kn, hn⟩ := rname_any c
  have h1 := at_rounds (g := fun k => outriderref04_fits.l0 k 0 a b c f l) (fun k => (outriderref04_fits.mono_l k).2.2.2.2 _ _ _ _ _ _) (show k ≤ k + kn by omega) h
  have h2 := at_rounds (g := fun k => outriderref03_Name.f k c) (fun k => outriderref03_Name.mono _ k) (show kn ≤ k + kn + 1 by omega) hn
  have J0 := fun w y0 y1 y2 y3 => fits_j0 (fits_j1 (fits_j2 h1) h2) w y0 y1 y2 y3
  refine ⟨k + kn + 1 + 1 + 1 + 1, ?_⟩
  have hnil : (⟨#[]⟩ : ByteArray).toList = [] := by rw [toList_eq]
  rw [outriderref04_fits.f]
  unfold wantE fieldsB numB nmB opB
  simp only [J0, opR]
  have i0 : ((l.length : Int) = 0) = (l.length = 0) := propext (by omega)
  have j0 : ((0 : Nat) == l.length) = decide (l.length = 0) := nat_beq_decide _ _
  have i1 : ((l.length : Int) = 1) = (l.length = 1) := propext (by omega)
  have j1 : ((1 : Nat) == l.length) = decide (l.length = 1) := nat_beq_decide _ _
  have i2 : ((l.length : Int) = 2) = (l.length = 2) := propext (by omega)
  have j2 : ((2 : Nat) == l.length) = decide (l.length = 2) := nat_beq_decide _ _
  have k0 : (0 = l.length) = (l.length = 0) := propext eq_comm
  have hf : (0 = f) = (f = 0) := propext eq_comm
  have hb : (0 = b) = (b = 0) := propext eq_comm
  have hc : (([] : List UInt8) = c.toList) = (c.toList = []) := propext eq_comm
  by_cases q1 : a = 1
  · subst q1
    by_cases e0 : l.length = 0 <;> by_cases e1 : c.toList = [] <;> by_cases e2 : f = 0 <;> by_cases e3 : b < 0 <;> cases v <;> simp [e0, e1, e2, e3, hnil, hf, hb, hc, i0, i1, i2, j0, j1, j2, k0] <;> omega
  by_cases q2 : a = 2
  · subst q2
    by_cases e0 : l.length = 0 <;> by_cases e1 : nameB (lst c) = true <;> by_cases e2 : f = 0 <;> by_cases e3 : b = 0 <;> cases v <;> simp [e0, e1, e2, e3, hnil, hf, hb, hc, i0, i1, i2, j0, j1, j2, k0]
  by_cases q3 : a = 3
  · subst q3
    by_cases e0 : l.length = 1 <;> by_cases e1 : c.toList = [] <;> by_cases e2 : f = 0 <;> by_cases e3 : b = 0 <;> cases v <;> simp [e0, e1, e2, e3, hnil, hf, hb, hc, i0, i1, i2, j0, j1, j2, k0]
  by_cases q4 : a = 4
  · subst q4
    by_cases e0 : l.length = 1 <;> by_cases e1 : c.toList = [] <;> by_cases e2 : f ≥ 19 <;> by_cases e3 : f ≤ 21 <;> by_cases e4 : b = 0 <;> cases v <;> simp [e0, e1, e2, e3, e4, hnil, hf, hb, hc, i0, i1, i2, j0, j1, j2, k0]
  by_cases q5 : a = 5
  · subst q5
    by_cases e0 : l.length = 2 <;> by_cases e1 : c.toList = [] <;> by_cases e2 : f ≥ 1 <;> by_cases e3 : f ≤ 18 <;> by_cases e4 : b = 0 <;> cases v <;> simp [e0, e1, e2, e3, e4, hnil, hf, hb, hc, i0, i1, i2, j0, j1, j2, k0]
  simp [q1, q2, q3, q4, q5]
mutual
theorem fits_ok : ∀ (e : S38), cntE e ≤ 1000000 → ∃ k, outriderref04_fits.f k e.f0 e.f1 e.f2 e.f3 e.f4 = some (fitE e)
  | ⟨a, b, c, f, l⟩, h => by
    simp only [cntE] at h
    obtain ⟨k, hk⟩ := fitsL_ok l a b c f [] (by omega) (by have := len_cntL l; simp only [List.nil_append]; omega)
    rw [List.nil_append] at hk
    obtain ⟨k', hk'⟩ := fits_head (show outriderref04_fits.l0 k 0 a b c f l = some (fitL l) from hk)
    exact ⟨k', by rw [fitE]; exact hk'⟩
theorem fitsL_ok : ∀ (ys : List S38) (a b : Int) (c : ByteArray) (f : Int) (pre : List S38), cntL ys ≤ 1000000 → (pre ++ ys).length ≤ 1000000 → ∃ k, outriderref04_fits.l0 k (pre.length : Int) a b c f (pre ++ ys) = some (fitL ys)
  | [], a, b, c, f, pre, h, hl => by
    refine ⟨1, ?_⟩
    rw [outriderref04_fits.l0, List.append_nil, if_neg (by omega)]
    rfl
  | x :: ys, a, b, c, f, pre, h, hl => by
    simp only [cntL] at h
    obtain ⟨k1, h1⟩ := fits_ok x (by omega)
    have hl2 : (pre ++ [x] ++ ys).length ≤ 1000000 := by simpa using hl
    obtain ⟨k2, h2⟩ := fitsL_ok ys a b c f (pre ++ [x]) (by omega) hl2
    have h1' := at_rounds (g := fun k => outriderref04_fits.f k x.f0 x.f1 x.f2 x.f3 x.f4) (fun k => (outriderref04_fits.mono_l k).1 _ _ _ _ _) (show k1 ≤ k1 + k2 by omega) h1
    have h2' := at_rounds (g := fun k => outriderref04_fits.l0 k ((pre ++ [x]).length : Int) a b c f (pre ++ [x] ++ ys)) (fun k => (outriderref04_fits.mono_l k).2.2.2.2 _ _ _ _ _ _) (show k2 ≤ k1 + k2 by omega) h2
    refine ⟨k1 + k2 + 1, ?_⟩
    have hlen : (pre ++ x :: ys).length = pre.length + (ys.length + 1) := by simp
    have hw : wrap64 ((pre.length : Int) + 1) = ((pre ++ [x]).length : Int) := by
      rw [hlen] at hl
      simp only [List.length_append, List.length_singleton]
      unfold wrap64
      omega
    rw [outriderref04_fits.l0, if_pos (by rw [hlen]; omega), if_pos (by omega), rd38_at, show outriderref04_fits.f (k1 + k2) x.f0 x.f1 x.f2 x.f3 x.f4 = _ from h1', Option.bind_some, hw]
    rw [show pre ++ [x] ++ ys = pre ++ x :: ys from by simp] at h2'
    rw [fitL]
    cases fitE x with
    | true => rw [if_pos rfl, Bool.true_and]; exact h2'
    | false => rw [if_neg (by simp), Bool.false_and]
end
end Go.Proofs.Ytobkdmmnbnpemaa.K
