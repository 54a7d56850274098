/- The reference's `may`: the plain part; what its callees answer. -/
import Derived.Test.YtobkdmmnbnpemaaXTPR4
import Derived.Test.YtobkdmmnbnpemaaXTF1
import Derived.Test.YtobkdmmnbnpemaaXTY4
namespace Go.Proofs.Ytobkdmmnbnpemaa.K
open Go.RowKit Go.Proofs.YtobkdmmnbnpemaaW.PrintWords Go.Proofs.YtobkdmmnbnpemaaW.PrintLast Go.Proofs.YtobkdmmnbnpemaaW.PrintMore
set_option linter.unusedVariables false
set_option linter.unusedSimpArgs false
theorem six {w : World} {g : Nat} {t : TypeId} {a0 a1 a2 a3 a4 a5 : Value} (h : w.heap[g]? = some (.cells #[a0, a1, a2, a3, a4, a5] t (0, 0))) :
    (w.cell? ⟨g, 0, none⟩ = some a0 ∧ w.cell? ⟨g, 1, none⟩ = some a1 ∧ w.cell? ⟨g, 2, none⟩ = some a2 ∧ w.cell? ⟨g, 3, none⟩ = some a3 ∧ w.cell? ⟨g, 4, none⟩ = some a4 ∧ w.cell? ⟨g, 5, none⟩ = some a5) ∧
    w.frozen? ⟨g, 0, none⟩ = false ∧ w.frozen? ⟨g, 1, none⟩ = false ∧ w.frozen? ⟨g, 2, none⟩ = false ∧ w.frozen? ⟨g, 3, none⟩ = false ∧ w.frozen? ⟨g, 4, none⟩ = false ∧ w.frozen? ⟨g, 5, none⟩ = false :=
  ⟨⟨blk_cell h 0, blk_cell h 1, blk_cell h 2, blk_cell h 3, blk_cell h 4, blk_cell h 5⟩, blk_frozen h 0, blk_frozen h 1, blk_frozen h 2, blk_frozen h 3, blk_frozen h 4, blk_frozen h 5⟩
theorem deep_L (e : S38) (A : Option Addr) (c : Nat) (w : World) (hC : Kd.C k38 w A e.f4.length e.f4) (hc : e.f4.length ≤ c) (h : cntE e ≤ 1000000) :
    Calls Try.prog 65 #[.agg #[.int .i64 e.f0, .int .i64 e.f1, .string e.f2, .int .i64 e.f3, .slice A e.f4.length c]] w fun r w' => r = .returned (.int .i64 ((min (deepE e) 100 : Nat) : Int)) ∧ Below w.heap.size w w' := by
  obtain ⟨k, hk⟩ := deep_ok e h
  exact outriderref04_Deep.calls k _ _ _ _ A c _ _ w hC hc hk
def okA (e : S38) : Bool := decide (deepE e ≤ 48) && fitE e
theorem okA_all : ∀ l : List S38, (fitL l && decide (deepL l ≤ 48)) = l.all okA
  | [] => rfl
  | x :: xs => by
    rw [List.all_cons, ← okA_all xs]
    have e : deepL (x :: xs) = max (deepE x) (deepL xs) := rfl
    show ((fitE x && fitL xs) && decide (deepL (x :: xs) ≤ 48)) = ((decide (deepE x ≤ 48) && fitE x) && (fitL xs && decide (deepL xs ≤ 48)))
    by_cases a : deepE x ≤ 48
    · by_cases b : deepL xs ≤ 48
      · rw [decide_eq_true a, decide_eq_true b, decide_eq_true (show deepL (x :: xs) ≤ 48 by omega)]
        cases fitE x <;> cases fitL xs <;> rfl
      · rw [decide_eq_true a, decide_eq_false b, decide_eq_false (show ¬ deepL (x :: xs) ≤ 48 by omega)]
        cases fitE x <;> cases fitL xs <;> rfl
    · rw [decide_eq_false a, decide_eq_false (show ¬ deepL (x :: xs) ≤ 48 by omega)]
      cases fitE x <;> cases fitL xs <;> cases decide (deepL xs ≤ 48) <;> rfl
theorem fin_eq (b : Nat) (s : S41) (hh : headB s = true) (hb : loopsB s.f0 = true → 0 < b) : fitSt (fitB b) s = (s.f3.all okA && (s.f4.all (fitSt (fitB (b - 1))) && s.f5.all (fitSt (fitB (b - 1))))) := by
  unfold fitSt
  rw [hh, Bool.true_and, ← Bool.and_assoc, okA_all]
  congr 1
  cases hl : loopsB s.f0 with
  | false =>
    obtain ⟨e1, e2⟩ := head_empty hh hl
    rw [e1, e2]
    rfl
  | true =>
    have := hb hl
    obtain ⟨c, rfl⟩ : ∃ c, b = c + 1 := ⟨b - 1, by omega⟩
    show (!true || (fitB (c + 1) s.f4 && (decide (s.f5.length = 0) || fitB (c + 1) s.f5))) = _
    rw [Bool.not_true, Bool.false_or, fitB, fitB, Nat.add_sub_cancel]
    congr 1
    by_cases z : s.f5.length = 0
    · rw [decide_eq_true z, List.eq_nil_of_length_eq_zero z]
      rfl
    · rw [decide_eq_false z, Bool.false_or]
      rfl
theorem fitSt_no {r : List S41 → Bool} {s : S41} (h : headB s = false) : fitSt r s = false := by unfold fitSt; rw [h, Bool.false_and]
def KR (k f2 : Int) (f1 : ByteArray) (n4 n5 : Int) (x6 x7 x8 : Int) (xn : ByteArray) (xc : Int) : Prop :=
  ∃ (W : Nat) (nm : Bool), wantS k = some (W, nm) ∧ x6 = W ∧ x7 = (if loopsB k = true then n4 else 0) ∧ x8 = (if k = 6 then n5 else 0) ∧ xn = (if nm = true then f1 else ⟨#[]⟩) ∧ xc = (if k = 5 then f2 else 0) ∧ (nm = true → nameB (lst f1) = true)
def badM (xn f1 : ByteArray) (xc f2 n3 n4 n5 x6 x7 x8 bl k : Int) : Bool :=
  (xn.toList != f1.toList) || ((xc != f2) || (decide (f2 < 0) || (decide (255 < f2) || ((n3 != x6) || ((n4 != x7) || ((n5 != x8) || (decide (12 ≤ bl) && ((k == 6) || (k == 7)))))))))
theorem lst_toList (s : ByteArray) : s.toList = lst s := toList_eq s
theorem badM_says (k f2 : Int) (f1 : ByteArray) (l3 : List S38) (l4 l5 : List S41) (x6 x7 x8 : Int) (xn : ByteArray) (xc bl : Int) (b : Nat) (hb : bl = 12 - (b : Int)) (hb12 : b ≤ 12)
    (h : KR k f2 f1 l4.length l5.length x6 x7 x8 xn xc) :
    (badM xn f1 xc f2 l3.length l4.length l5.length x6 x7 x8 bl k = true → fitSt (fitB b) ⟨k, f1, f2, l3, l4, l5⟩ = false) ∧
    (badM xn f1 xc f2 l3.length l4.length l5.length x6 x7 x8 bl k = false → headB ⟨k, f1, f2, l3, l4, l5⟩ = true ∧ (loopsB k = true → 0 < b) ∧ x6 = l3.length ∧ x7 = l4.length ∧ x8 = l5.length) := by
  obtain ⟨W, nm, hw, e6, e7, e8, en, ec, hn⟩ := h
  have hd := head_eq k f1 f2 l3 l4 l5 W nm hw
  have p1 : (xn.toList != f1.toList) = !(((nm == nameB (lst f1)) && (nm || (f1.toList == ([] : List UInt8))))) := by
    cases nm with
    | true =>
      rw [en, if_pos rfl, hn rfl]
      simp
    | false =>
      rw [en, if_neg (by simp)]
      by_cases z : f1.toList = []
      · have : nameB (lst f1) = false := by rw [← lst_toList, z]; rfl
        rw [this, z]
        simp [lst_toList, lst]
      · have z1 : (f1.toList == ([] : List UInt8)) = false := beq_eq_false_iff_ne.2 z
        rw [z1]
        have z2 : (⟨#[]⟩ : ByteArray).toList = [] := by rw [lst_toList]; rfl
        rw [z2]
        have z3 : (([] : List UInt8) != f1.toList) = true := bne_iff_ne.2 fun e => z e.symm
        rw [z3]
        simp
  have p2 : ((xc != f2) || (decide (f2 < 0) || decide (255 < f2))) = !(cellB k f2) := by
    unfold cellB
    by_cases z : k = 5
    · rw [if_pos z] at ec ⊢
      subst ec
      by_cases c1 : xc < 0 <;> by_cases c2 : 255 < xc <;> simp [c1, c2] <;> omega
    · rw [if_neg z] at ec ⊢
      subst ec
      by_cases c1 : f2 = 0
      · subst c1; simp
      · have c2 : ((0 : Int) != f2) = true := bne_iff_ne.2 fun e => c1 e.symm
        have c3 : (f2 == 0) = false := beq_eq_false_iff_ne.2 c1
        rw [c2, c3]; rfl
  have p3 : ((l3.length : Int) != x6) = !(l3.length == W) := by
    rw [e6]
    by_cases z : l3.length = W
    · rw [z]; simp
    · rw [beq_eq_false_iff_ne.2 z, bne_iff_ne.2 (by omega)]; rfl
  have p4 : ((l4.length : Int) != x7) = !(loopsB k || decide (l4.length = 0)) := by
    rw [e7]
    by_cases z : loopsB k = true
    · rw [if_pos z, z]; simp
    · rw [if_neg z, Bool.eq_false_iff.2 z]
      by_cases y : l4.length = 0
      · rw [y]; rfl
      · rw [decide_eq_false y, bne_iff_ne.2 (by omega)]; rfl
  have p5 : ((l5.length : Int) != x8) = !(k == 6 || decide (l5.length = 0)) := by
    rw [e8]
    by_cases z : k = 6
    · rw [if_pos z, z]; simp
    · rw [if_neg z, beq_eq_false_iff_ne.2 z]
      by_cases y : l5.length = 0
      · rw [y]; rfl
      · rw [decide_eq_false y, bne_iff_ne.2 (by omega)]; rfl
  have p6 : (decide (12 ≤ bl) && ((k == 6) || (k == 7))) = (decide (b = 0) && loopsB k) := by
    unfold loopsB
    rw [Bool.or_comm (k == 7), hb]
    congr 1
    by_cases z : b = 0
    · rw [decide_eq_true z, decide_eq_true (by omega)]
    · rw [decide_eq_false z, decide_eq_false (by omega)]
  have P : badM xn f1 xc f2 l3.length l4.length l5.length x6 x7 x8 bl k = (!(headB ⟨k, f1, f2, l3, l4, l5⟩) || (decide (b = 0) && loopsB k)) := by
    unfold badM
    rw [p6, p5, p4, p3]
    rw [hd]
    have p2' : ∀ x : Bool, ((xc != f2) || (decide (f2 < 0) || (decide (255 < f2) || x))) = (!(cellB k f2) || x) := fun x => by rw [← p2]; simp only [Bool.or_assoc]
    rw [p2', p1]
    cases ((nm == nameB (lst f1)) && (nm || (f1.toList == ([] : List UInt8)))) <;> cases cellB k f2 <;> cases (l3.length == W) <;> cases (loopsB k || decide (l4.length = 0)) <;> cases (k == 6 || decide (l5.length = 0)) <;> rfl
  rw [P]
  refine ⟨fun q => ?_, fun q => ?_⟩
  · cases hh : headB ⟨k, f1, f2, l3, l4, l5⟩ with
    | false => exact fitSt_no hh
    | true =>
      rw [hh] at q
      simp only [Bool.not_true, Bool.false_or, Bool.and_eq_true, decide_eq_true_eq] at q
      unfold fitSt
      rw [hh, q.1]
      show (true && (_ && (_ && (!loopsB k || (fitB 0 l4 && _))))) = false
      rw [q.2]
      simp [fitB]
  · simp only [Bool.or_eq_false_iff, Bool.not_eq_false', Bool.and_eq_false_iff, decide_eq_false_iff_not] at q
    refine ⟨q.1, fun z => ?_, ?_, ?_, ?_⟩
    · rcases q.2 with y | y
      · omega
      · rw [y] at z; cases z
    · rw [q.1] at hd
      have := hd.symm
      simp only [Bool.and_eq_true] at this
      rw [this.1.1.1.1] at p3
      exact (by simpa using p3 : (l3.length : Int) = x6).symm
    · rw [q.1] at hd
      have := hd.symm
      simp only [Bool.and_eq_true] at this
      rw [this.1.2] at p4
      exact (by simpa using p4 : (l4.length : Int) = x7).symm
    · rw [q.1] at hd
      have := hd.symm
      simp only [Bool.and_eq_true] at this
      rw [this.2] at p5
      exact (by simpa using p5 : (l5.length : Int) = x8).symm
end Go.Proofs.Ytobkdmmnbnpemaa.K
