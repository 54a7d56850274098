/- What may be: an expression's fields, an expression, statements; told on trees. Plain. -/
import Derived.Test.YtobkdmmnbnpemaaXKPL0
namespace Go.Proofs.Ytobkdmmnbnpemaa.K
open Go.RowKit Go.Proofs.YtobkdmmnbnpemaaW.PrintWords Go.Proofs.YtobkdmmnbnpemaaW.PrintLast Go.Proofs.YtobkdmmnbnpemaaW.PrintMore
set_option linter.unusedVariables false
set_option linter.unusedSimpArgs false
theorem name_any (s : ByteArray) : ∃ k, lex_Name.f k s = some (nameB (lst s)) := by
  by_cases h : s.size ≤ 140737488351232
  · exact name_ok s h
  · have hlen := lst_len s
    have htl : s.toList = lst s := toList_eq s; cases hl : lst s with
    | nil => rw [hl] at hlen; simp at hlen; omega
    | cons c l =>
      rw [hl] at hlen; have hne : ¬ s.toList = ([] : List UInt8) := by rw [htl, hl]; simp
      refine ⟨1, ?_⟩
      unfold lex_Name.f; rw [if_neg hne, if_pos (by omega), lex_Name.j0, if_pos rfl]; have hnb : nameB (c :: l) = (decide ((c :: l).length ≤ 12) && (letB c && (!wordsB (c :: l) && l.all anB))) := rfl; rw [hnb, decide_eq_false (by omega)]
      rfl
def numB (k n : Int) : Bool := if k = 1 then decide (n ≥ 0) else n == 0
def nmB (k : Int) (s : ByteArray) : Bool := if k = 2 then nameB (lst s) else s.toList == ([] : List UInt8)
def opB (k op : Int) : Bool := if k = 4 then decide (op ≥ 19) && decide (op ≤ 21) else if k = 5 then decide (op ≥ 1) && decide (op ≤ 18) else op == 0
def fieldsB (k n : Int) (s : ByteArray) (op : Int) : Bool := numB k n && (nmB k s && opB k op)
theorem fields_j1 (k : Nat) (b c : Bool) (a0 a1 : Int) (a2 : ByteArray) (a3 : Int) (l : List S38) : tree_fields.j1 (k + 1) b c a0 a1 a2 a3 l = some (b && (c && opB a0 a3)) := by
  rw [tree_fields.j1]; unfold opB; by_cases h4 : a0 = 4
  · rw [if_pos h4, if_pos h4]
    by_cases h : a3 ≥ 19 <;> cases b <;> cases c <;> simp [h]
  · rw [if_neg h4, if_neg h4]
    by_cases h5 : a0 = 5
    · rw [if_pos h5, if_pos h5]
      by_cases h : a3 ≥ 1 <;> cases b <;> cases c <;> simp [h]
    · rw [if_neg h5, if_neg h5]
      cases b <;> cases c <;> simp
theorem fields_j0 (b : Bool) (a0 a1 : Int) (a2 : ByteArray) (a3 : Int) (l : List S38) : ∃ k, tree_fields.j0 k b a0 a1 a2 a3 l = some (b && (nmB a0 a2 && opB a0 a3)) := by
  unfold nmB; by_cases h2 : a0 = 2
  · obtain ⟨k, hk⟩ := name_any a2
    have hk1 := at_rounds (g := fun k => lex_Name.f k a2) (fun k => lex_Name.mono _ k) (show k ≤ k + 1 by omega) hk
    refine ⟨k + 1 + 1, ?_⟩
    rw [tree_fields.j0, if_pos h2, if_pos h2, hk1, Option.bind_some]; cases nameB (lst a2) with
    | true => rw [if_pos rfl, fields_j1]
    | false => rw [if_neg (by simp), fields_j1]
  · exact ⟨1 + 1, by rw [tree_fields.j0, if_neg h2, if_neg h2, fields_j1]⟩
theorem fields_ok (a0 a1 : Int) (a2 : ByteArray) (a3 : Int) (l : List S38) : ∃ k, tree_fields.f k a0 a1 a2 a3 l = some (fieldsB a0 a1 a2 a3) := by
  unfold tree_fields.f fieldsB numB; by_cases h1 : a0 = 1
  · by_cases h : a1 ≥ 0
    · obtain ⟨k, hk⟩ := fields_j0 true a0 a1 a2 a3 l
      exact ⟨k, by rw [if_pos h1, if_pos h, if_pos h1, decide_eq_true h, hk]⟩
    · obtain ⟨k, hk⟩ := fields_j0 false a0 a1 a2 a3 l
      exact ⟨k, by rw [if_pos h1, if_neg h, if_pos h1, decide_eq_false h, hk]⟩
  · obtain ⟨k, hk⟩ := fields_j0 (a1 == 0) a0 a1 a2 a3 l
    exact ⟨k, by rw [if_neg h1, if_neg h1, hk]⟩
def wantE (k : Int) : Option Nat := if k = 1 then some 0 else if k = 2 then some 0 else if k = 3 then some 1 else if k = 4 then some 1 else if k = 5 then some 2 else none
def goE {α : Type} (f : Int → α → Bool × Int) : Int → List α → Bool × Int
  | n, [] => (true, n)
  | n, x :: xs => if (f n x).1 = true then goE f (f n x).2 xs else (false, (f n x).2)
def cE : Nat → Int → S38 → Bool × Int
  | 0, n, _ => (false, n)
  | d + 1, n, e => if n + 1 > 600 then (false, n + 1) else
    match wantE e.f0 with
    | none => (false, n + 1)
    | some k => if e.f4.length = k then (if fieldsB e.f0 e.f1 e.f2 e.f3 = true then goE (cE d) (n + 1) e.f4 else (false, n + 1)) else (false, n + 1)
def InC (r : Bool × Int) : Prop := 0 ≤ r.2 ∧ r.2 ≤ 601 ∧ (r.1 = true → r.2 ≤ 600)
theorem goE_in {α : Type} (f : Int → α → Bool × Int) (hf : ∀ n x, 0 ≤ n → n ≤ 600 → InC (f n x)) : ∀ (l : List α) (n : Int), 0 ≤ n → n ≤ 600 → InC (goE f n l)
  | [], n, h0, h1 => ⟨h0, by show n ≤ 601; omega, fun _ => h1⟩
  | x :: xs, n, h0, h1 => by
    obtain ⟨a, b, c⟩ := hf n x h0 h1; unfold goE; by_cases q : (f n x).1 = true
    · rw [if_pos q]; exact goE_in f hf xs _ a (c q)
    · rw [if_neg q]; exact ⟨a, b, fun h => by simp at h⟩
theorem cE_in : ∀ (d : Nat) (n : Int) (e : S38), 0 ≤ n → n ≤ 600 → InC (cE d n e)
  | 0, n, e, h0, h1 => ⟨h0, by show n ≤ 601; omega, fun h => by simp [cE] at h⟩
  | d + 1, n, e, h0, h1 => by
    unfold cE; have no : InC (false, n + 1) := ⟨by show 0 ≤ n + 1; omega, by show n + 1 ≤ 601; omega, fun h => by simp at h⟩
    by_cases q : n + 1 > 600
    · rw [if_pos q]; exact no
    · rw [if_neg q]
      cases wantE e.f0 with
      | none => exact no
      | some k =>
        show InC (if _ then _ else _); by_cases q2 : e.f4.length = k
        · rw [if_pos q2]
          by_cases q3 : fieldsB e.f0 e.f1 e.f2 e.f3 = true
          · rw [if_pos q3]; exact goE_in _ (fun n x a b => cE_in d n x a b) _ _ (by omega) (by omega)
          · rw [if_neg q3]; exact no
        · rw [if_neg q2]; exact no
theorem drop_rd38 (l : List S38) (i : Int) (h0 : 0 ≤ i) (h1 : i < (l.length : Int)) : l.drop i.toNat = rd_T38 l i :: l.drop (i + 1).toNat := by
  have hl : i.toNat < l.length := by omega
  rw [List.drop_eq_getElem_cons hl]; unfold rd_T38; rw [List.getD_eq_getElem?_getD, List.getElem?_eq_getElem hl]; have : (i + 1).toNat = i.toNat + 1 := by omega
  rw [this]
  rfl
def wantS (k : Int) : Option (Nat × Bool) :=
  if k = 1 then some (1, true) else if k = 2 then some (1, true) else if k = 3 then some (2, false) else if k = 4 then some (1, false) else if k = 8 then some (1, false) else
  if k = 5 then some (1, false) else if k = 6 then some (1, false) else if k = 7 then some (1, false) else if k = 9 then some (0, false) else none
def loopsB (k : Int) : Bool := k == 7 || k == 6
def cellB (k c : Int) : Bool := if k = 5 then decide (0 ≤ c) && decide (c ≤ 255) else c == 0
def headB (s : S41) : Bool :=
  match wantS s.f0 with
  | none => false
  | some (n, named) => s.f3.length == n && ((named == nameB (lst s.f1)) && (named || (s.f1.toList == ([] : List UInt8)))) && cellB s.f0 s.f2 && (loopsB s.f0 || s.f4.isEmpty) && (s.f0 == 6 || s.f5.isEmpty)
def cS (rec_ : Int → List S41 → Bool × Int) (n : Int) (s : S41) : Bool × Int :=
  if headB s = true then
    if (goE (cE 48) n s.f3).1 = true then
      if loopsB s.f0 = true then
        if (rec_ (goE (cE 48) n s.f3).2 s.f4).1 = true then
          if s.f5.length = 0 then (true, (rec_ (goE (cE 48) n s.f3).2 s.f4).2) else rec_ (rec_ (goE (cE 48) n s.f3).2 s.f4).2 s.f5
        else (false, (rec_ (goE (cE 48) n s.f3).2 s.f4).2)
      else (true, (goE (cE 48) n s.f3).2)
    else (false, (goE (cE 48) n s.f3).2)
  else (false, n)
def oneS (rec_ : Int → List S41 → Bool × Int) (n : Int) (s : S41) : Bool × Int := if n + 1 > 600 then (false, n + 1) else cS rec_ (n + 1) s
def cB : Nat → Int → List S41 → Bool × Int
  | 0, n, _ => (false, n)
  | b + 1, n, l => if 600 < l.length then (false, n) else goE (oneS (cB b)) n l
theorem cS_in (rec_ : Int → List S41 → Bool × Int) (hr : ∀ n l, 0 ≤ n → n ≤ 600 → InC (rec_ n l)) (n : Int) (s : S41) (h0 : 0 ≤ n) (h1 : n ≤ 600) : InC (cS rec_ n s) := by
  obtain ⟨a, b, c⟩ := goE_in (cE 48) (fun n x a b => cE_in 48 n x a b) s.f3 n h0 h1; unfold cS; by_cases q : headB s = true
  · rw [if_pos q]
    by_cases q2 : (goE (cE 48) n s.f3).1 = true
    · rw [if_pos q2]
      obtain ⟨a2, b2, c2⟩ := hr (goE (cE 48) n s.f3).2 s.f4 a (c q2); by_cases q3 : loopsB s.f0 = true
      · rw [if_pos q3]
        by_cases q4 : (rec_ (goE (cE 48) n s.f3).2 s.f4).1 = true
        · rw [if_pos q4]
          by_cases q5 : s.f5.length = 0
          · rw [if_pos q5]; exact ⟨a2, b2, fun _ => c2 q4⟩
          · rw [if_neg q5]; exact hr _ _ a2 (c2 q4)
        · rw [if_neg q4]; exact ⟨a2, b2, fun h => by simp at h⟩
      · rw [if_neg q3]; exact ⟨a, b, fun _ => c q2⟩
    · rw [if_neg q2]; exact ⟨a, b, fun h => by simp at h⟩
  · rw [if_neg q]; exact ⟨h0, by show n ≤ 601; omega, fun h => by simp at h⟩
theorem oneS_in (rec_ : Int → List S41 → Bool × Int) (hr : ∀ n l, 0 ≤ n → n ≤ 600 → InC (rec_ n l)) (n : Int) (s : S41) (h0 : 0 ≤ n) (h1 : n ≤ 600) : InC (oneS rec_ n s) := by
  unfold oneS; by_cases q : n + 1 > 600
  · rw [if_pos q]; exact ⟨by show 0 ≤ n + 1; omega, by show n + 1 ≤ 601; omega, fun h => by simp at h⟩
  · rw [if_neg q]; exact cS_in rec_ hr _ s (by omega) (by omega)
theorem cB_in : ∀ (b : Nat) (n : Int) (l : List S41), 0 ≤ n → n ≤ 600 → InC (cB b n l)
  | 0, n, l, h0, h1 => ⟨h0, by show n ≤ 601; omega, fun h => by simp [cB] at h⟩
  | b + 1, n, l, h0, h1 => by
    unfold cB; by_cases q : 600 < l.length
    · rw [if_pos q]; exact ⟨h0, by show n ≤ 601; omega, fun h => by simp at h⟩
    · rw [if_neg q]; exact goE_in _ (fun n x a c => oneS_in _ (fun n l a c => cB_in b n l a c) n x a c) _ _ h0 h1
end Go.Proofs.Ytobkdmmnbnpemaa.K
