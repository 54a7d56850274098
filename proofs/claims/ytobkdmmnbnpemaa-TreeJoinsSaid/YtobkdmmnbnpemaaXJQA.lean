/- When two rows are the same: plain. -/
import Derived.Test.YtobkdmmnbnpemaaXJPR4
import Derived.Lib.Hide
namespace Go.Proofs.Ytobkdmmnbnpemaa.K
open Go.RowKit Go.Proofs.YtobkdmmnbnpemaaW.PrintWords Go.Proofs.YtobkdmmnbnpemaaW.PrintLast Go.Proofs.YtobkdmmnbnpemaaW.PrintMore
set_option linter.unusedVariables false
mutual
def eqE : S38 → S38 → Bool
  | ⟨a, b, c, d, l⟩, ⟨a', b', c', d', l'⟩ => (a == a') && ((b == b') && ((c.toList == c'.toList) && ((d == d') && eqEs l l')))
def eqEs : List S38 → List S38 → Bool
  | [], [] => true
  | x :: xs, y :: ys => eqE x y && eqEs xs ys
  | _, _ => false
end
mutual
def eqS : S41 → S41 → Bool
  | ⟨a, b, c, e, l, m⟩, ⟨a', b', c', e', l', m'⟩ => (a == a') && ((b.toList == b'.toList) && ((c == c') && (eqEs e e' && (eqSs l l' && eqSs m m'))))
def eqSs : List S41 → List S41 → Bool
  | [], [] => true
  | x :: xs, y :: ys => eqS x y && eqSs xs ys
  | _, _ => false
end
theorem eqE_eq (x y : S38) : eqE x y = ((x.f0 == y.f0) && ((x.f1 == y.f1) && ((x.f2.toList == y.f2.toList) && ((x.f3 == y.f3) && eqEs x.f4 y.f4)))) := by
  obtain ⟨a, b, c, d, l⟩ := x; obtain ⟨a', b', c', d', l'⟩ := y
  rfl
theorem eqS_eq (x y : S41) : eqS x y = ((x.f0 == y.f0) && ((x.f1.toList == y.f1.toList) && ((x.f2 == y.f2) && (eqEs x.f3 y.f3 && (eqSs x.f4 y.f4 && eqSs x.f5 y.f5))))) := by
  obtain ⟨a, b, c, d, l, m⟩ := x; obtain ⟨a', b', c', d', l', m'⟩ := y
  rfl
theorem eqEs_len : ∀ xs ys : List S38, xs.length ≠ ys.length → eqEs xs ys = false
  | [], [], h => absurd rfl h
  | [], _ :: _, _ => rfl
  | _ :: _, [], _ => rfl
  | x :: xs, y :: ys, h => by rw [eqEs, eqEs_len xs ys (fun e => h (by simp [e])), Bool.and_false]
theorem eqSs_len : ∀ xs ys : List S41, xs.length ≠ ys.length → eqSs xs ys = false
  | [], [], h => absurd rfl h
  | [], _ :: _, _ => rfl
  | _ :: _, [], _ => rfl
  | x :: xs, y :: ys, h => by rw [eqSs, eqSs_len xs ys (fun e => h (by simp [e])), Bool.and_false]
mutual
theorem eqE_refl : ∀ x : S38, eqE x x = true
  | ⟨a, b, c, d, l⟩ => by rw [eqE, eqEs_refl l]; simp
theorem eqEs_refl : ∀ xs : List S38, eqEs xs xs = true
  | [] => rfl
  | x :: xs => by rw [eqEs, eqE_refl x, eqEs_refl xs]; rfl
end
mutual
theorem eqS_refl : ∀ x : S41, eqS x x = true
  | ⟨a, b, c, e, l, m⟩ => by rw [eqS, eqEs_refl e, eqSs_refl l, eqSs_refl m]; simp
theorem eqSs_refl : ∀ xs : List S41, eqSs xs xs = true
  | [] => rfl
  | x :: xs => by rw [eqSs, eqS_refl x, eqSs_refl xs]; rfl
end
theorem eqEs_end {xs ys : List S38} {i : Nat} (hx : xs.length ≤ i) (hy : ys.length ≤ i) : eqEs (xs.drop i) (ys.drop i) = true := by
  rw [List.drop_eq_nil_of_le hx, List.drop_eq_nil_of_le hy]; rfl
theorem eqSs_end {xs ys : List S41} {i : Nat} (hx : xs.length ≤ i) (hy : ys.length ≤ i) : eqSs (xs.drop i) (ys.drop i) = true := by
  rw [List.drop_eq_nil_of_le hx, List.drop_eq_nil_of_le hy]; rfl
theorem rd38_get (xs : List S38) (i : Nat) (h : i < xs.length) : rd_T38 xs (i : Int) = xs[i] := by
  unfold rd_T38; rw [Int.toNat_natCast, List.getD_eq_getElem?_getD, List.getElem?_eq_getElem h]; rfl
theorem rd41_get (xs : List S41) (i : Nat) (h : i < xs.length) : rd_T41 xs (i : Int) = xs[i] := by
  unfold rd_T41; rw [Int.toNat_natCast, List.getD_eq_getElem?_getD, List.getElem?_eq_getElem h]; rfl
theorem eqEs_drop {xs ys : List S38} {i : Nat} (hx : i < xs.length) (hy : i < ys.length) : eqEs (xs.drop i) (ys.drop i) = (eqE (rd_T38 xs (i : Int)) (rd_T38 ys (i : Int)) && eqEs (xs.drop (i + 1)) (ys.drop (i + 1))) := by
  rw [List.drop_eq_getElem_cons hx, List.drop_eq_getElem_cons hy, eqEs, rd38_get xs i hx, rd38_get ys i hy]
theorem eqSs_drop {xs ys : List S41} {i : Nat} (hx : i < xs.length) (hy : i < ys.length) : eqSs (xs.drop i) (ys.drop i) = (eqS (rd_T41 xs (i : Int)) (rd_T41 ys (i : Int)) && eqSs (xs.drop (i + 1)) (ys.drop (i + 1))) := by
  rw [List.drop_eq_getElem_cons hx, List.drop_eq_getElem_cons hy, eqSs, rd41_get xs i hx, rd41_get ys i hy]
theorem cntE_f4 (x : S38) : cntL x.f4 < cntE x := by
  obtain ⟨a, b, c, d, l⟩ := x; simp only [cntE]; omega
theorem cntL_mem : ∀ (xs : List S38) (x : S38), x ∈ xs → cntE x ≤ cntL xs
  | y :: ys, x, h => by
    rw [cntL]; rcases List.mem_cons.1 h with rfl | h
    · omega
    · have := cntL_mem ys x h; omega
theorem cntL_rd (xs : List S38) (i : Nat) (h : i < xs.length) : cntL (rd_T38 xs (i : Int)).f4 < cntL xs := by
  rw [rd38_get xs i h]; exact Nat.lt_of_lt_of_le (cntE_f4 _) (cntL_mem xs _ (List.getElem_mem h))
theorem cntB_mem : ∀ (xs : List S41) (x : S41), x ∈ xs → cntS x < cntB xs
  | y :: ys, x, h => by
    rw [cntB]; rcases List.mem_cons.1 h with rfl | h
    · omega
    · have := cntB_mem ys x h; omega
theorem cntB_rd (xs : List S41) (i : Nat) (h : i < xs.length) : cntL (rd_T41 xs (i : Int)).f3 + (cntB (rd_T41 xs (i : Int)).f4 + cntB (rd_T41 xs (i : Int)).f5) < cntB xs := by
  rw [rd41_get xs i h, ← cntS_eq]; exact cntB_mem xs _ (List.getElem_mem h)
end Go.Proofs.Ytobkdmmnbnpemaa.K
namespace Go.Proofs.Ytobkdmmnbnpemaa.K
open Go.RowKit Go.Proofs.YtobkdmmnbnpemaaW.PrintWords Go.Proofs.YtobkdmmnbnpemaaW.PrintLast Go.Proofs.YtobkdmmnbnpemaaW.PrintMore
attribute [local go_sem] max2_int min2_int max_two min_two max_three min_three max_four min_four
set_option linter.unusedVariables false
set_option linter.unusedSimpArgs false
theorem eqEs_dropI {xs ys : List S38} {j : Int} (h0 : 0 ≤ j) (hx : j < xs.length) (hy : j < ys.length) : eqEs (xs.drop j.toNat) (ys.drop j.toNat) = (eqE (rd_T38 xs j) (rd_T38 ys j) && eqEs (xs.drop (j + 1).toNat) (ys.drop (j + 1).toNat)) := by
  obtain ⟨i, rfl⟩ := Int.eq_ofNat_of_zero_le h0; exact eqEs_drop (by omega) (by omega)
theorem cntL_rdI (xs : List S38) (j : Int) (h0 : 0 ≤ j) (h : j < xs.length) : cntL (rd_T38 xs j).f4 < cntL xs := by
  obtain ⟨i, rfl⟩ := Int.eq_ofNat_of_zero_le h0; exact cntL_rd xs i (by omega)
def EqC (n : Nat) : Prop := ∀ (xs ys : List S38) (A : Option Addr) (c : Nat) (B : Option Addr) (d : Nat) (r : Bool) (w : World), cntL xs < n → Kd.C k38 w A xs.length xs → Kd.C k38 w B ys.length ys → eqEs xs ys = r →
  Calls Try.prog 50 #[.slice A xs.length c, .slice B ys.length d] w fun e w' => e = .returned (.bool r) ∧ Drawn0 w w'
theorem EqC.use {n : Nat} (h : EqC n) (xs ys : List S38) (A : Option Addr) (c : Nat) (B : Option Addr) (d : Nat) (r : Bool) (w : World) (h0 : cntL xs < n) (h1 : Kd.C k38 w A xs.length xs) (h2 : Kd.C k38 w B ys.length ys) (h3 : eqEs xs ys = r) :
  Calls Try.prog 50 #[.slice A xs.length c, .slice B ys.length d] w fun e w' => e = .returned (.bool r) ∧ Drawn0 w w' := h xs ys A c B d r w h0 h1 h2 h3
end Go.Proofs.Ytobkdmmnbnpemaa.K
namespace Go.Proofs.Ytobkdmmnbnpemaa.K
open Go.RowKit Go.Proofs.YtobkdmmnbnpemaaW.PrintWords Go.Proofs.YtobkdmmnbnpemaaW.PrintLast Go.Proofs.YtobkdmmnbnpemaaW.PrintMore
attribute [local go_sem] max2_int min2_int max_two min_two max_three min_three max_four min_four
set_option linter.unusedVariables false
set_option linter.unusedSimpArgs false
theorem fivq {w : World} {g : Nat} {t : TypeId} {a0 a1 a2 a3 a4 : Value} (h : w.heap[g]? = some (.cells #[a0, a1, a2, a3, a4] t (0, 0))) :
    w.cell? ⟨g, 0, none⟩ = some a0 ∧ w.cell? ⟨g, 1, none⟩ = some a1 ∧ w.cell? ⟨g, 2, none⟩ = some a2 ∧ w.cell? ⟨g, 3, none⟩ = some a3 ∧ w.cell? ⟨g, 4, none⟩ = some a4 :=
  ⟨blk_cell h 0, blk_cell h 1, blk_cell h 2, blk_cell h 3, blk_cell h 4⟩
def AqC (n : Nat) : Prop := ∀ (xs ys : List S38) (A : Option Addr) (c : Nat) (B : Option Addr) (d : Nat) (r : Bool) (w : World), cntL xs < n → Kd.C k38 w A xs.length xs → Kd.C k38 w B ys.length ys → eqEs xs ys = r →
  Calls Try.prog 54 #[.slice A xs.length c, .slice B ys.length d] w fun e w' => e = .returned (.bool r) ∧ Below w.heap.size w w'
theorem AqC.use {n : Nat} (h : AqC n) (xs ys : List S38) (A : Option Addr) (c : Nat) (B : Option Addr) (d : Nat) (r : Bool) (w : World) (h0 : cntL xs < n) (h1 : Kd.C k38 w A xs.length xs) (h2 : Kd.C k38 w B ys.length ys) (h3 : eqEs xs ys = r) :
  Calls Try.prog 54 #[.slice A xs.length c, .slice B ys.length d] w fun e w' => e = .returned (.bool r) ∧ Below w.heap.size w w' := h xs ys A c B d r w h0 h1 h2 h3
theorem C_bb {α : Type} {d : Kd α} {w w1 : World} {A : Option Addr} {n : Nat} {xs : List α} (h : Kd.C d w A n xs) (k : Below w.heap.size w w1) : Kd.C d w1 A n xs := Kd.C_below h k
def EqRelC (xs ys : List S38) (r : Bool) (w : World) (kq : Nat) (v15 : Value) (wq : World) : Prop :=
  ∃ j : Int, v15 = .int .i64 j ∧ 0 ≤ j ∧ j ≤ xs.length ∧ (xs.length : Int) < kq + j ∧ Aside0 (eqEs (xs.drop j.toNat) (ys.drop j.toNat) = r) ∧ Aside0 (Below w.heap.size w wq)
set_option maxHeartbeats 8000000 in
set_option maxRecDepth 100000 in
theorem all_step (n : Nat) (IH : AqC n) : AqC (n + 1) := by
  intro xs ys A c B d r w hcnt hA hB hr; have hu38 := Try.underlying38; have hu36 := Try.underlying36; by_cases hl : xs.length = ys.length
  rotate_left
  · have h' : ((xs.length : Int) != (ys.length : Int)) = true := bne_iff_ne.2 (by omega)
    rw [eqEs_len xs ys hl] at hr; subst hr; clear IH hcnt hA hB hl
    go_enter Try.func54, Try.ntmps54
    go_wp2
    exact ⟨rfl, _, z_163, rfl, Below.refl _ _⟩
  have h' : ((xs.length : Int) != (ys.length : Int)) = false := bne_eq_false_iff_eq.2 (by omega); have HM := A_0 (Kd.C_max hA); have HA := A_0 hA; have HB := A_0 hB; have HIH := A_0 IH; have HN := A_0 hcnt; have HR := A_0 hr; have HL := A_0 hl; clear hA hB IH hcnt hr hl
  go_enter Try.func54, Try.ntmps54
  go_wp2_with fail
  go_loopg [15] (xs.length + 1) (fun kq v15 wq => EqRelC xs ys r w kq v15 wq)
  case atStart => exact ⟨0, rfl, by omega, by omega, by omega, HR, ⟨Below.refl _ _⟩⟩
  case round =>
    clear HR; unfold EqRelC at hrel; obtain ⟨j, rfl, hj0, hj1, hjk, HR, HD⟩ := hrel; cases gk with
    | zero => omega
    | succ k1 =>
    by_cases hi : j < xs.length
    rotate_left
    · have hi' : decide (j < (xs.length : Int)) = false := decide_eq_false hi
      have hr := HR.out; rw [eqEs_end (by omega) (by have := HL.out; omega)] at hr; subst hr; clear HR
      go_wp2
      exact z_164
    have p0 := eq_true hj0; have p1 := eq_true hi; have p2 := eq_true (show j < (ys.length : Int) by have := HL.out; omega)
    obtain ⟨ad, A4, c4, rfl, x0, x1, x2, x3, x4, l4, g4⟩ := at_T38 (C_bb HA.out HD.out) j hj0 hi; have hr := HR.out; rw [eqEs_dropI hj0 hi (by have := HL.out; omega), eqE_eq] at hr; have HR2 := Lib.hid hr; have HC := A_0 (show cntL (rd_T38 xs j).f4 < n by have := cntL_rdI xs j hj0 hi; have := HN.out; omega)
    have G := A_0 g4; clear HR hr g4 l4; generalize rd_T38 xs j = x at *; obtain ⟨a, b, t, f, l⟩ := x; dsimp only at x0 x1 x2 x3 x4 HR2 HC G; go_upto_region 6 with fail; generalize hq : World.alloc wr (Obj.cells #[Value.int IntKind.i64 a, Value.int IntKind.i64 b, Value.string t, Value.int IntKind.i64 f, Value.slice A4 l.length c4] 38) = w1; have hb1 : Below wr.heap.size wr w1 := z_165; have n0_ := A_0 (show w1.heap[wr.heap.size]? = some (.cells #[.int .i64 a, .int .i64 b, .string t, .int .i64 f, .slice A4 l.length c4] 38 (0, 0)) by rw [← hq]; exact blk_new _ _)
    have n1_ := A_0 (below_step HD.out hb1); have n2_ := A_0 (C_bb G.out hb1); clear x0 x1 x2 x3 x4 hq hb1 HD G; have BX := n0_; have HD := n1_; have G := n2_; clear n0_ n1_ n2_; generalize wr.heap.size = xb at *; obtain ⟨ad', A4', c4', rfl, y0, y1, y2, y3, y4, l4', g4'⟩ := at_T38 (C_bb HB.out HD.out) j hj0 (by have := HL.out; omega); have G' := A_0 g4'; clear g4' l4'; generalize rd_T38 ys j = y at *; obtain ⟨a', b', t', f', l'⟩ := y; dsimp only at y0 y1 y2 y3 y4 HR2 G'; go_upto_region 7 with fail; generalize hq : World.alloc w1 (Obj.cells #[Value.int IntKind.i64 a', Value.int IntKind.i64 b', Value.string t', Value.int IntKind.i64 f', Value.slice A4' l'.length c4'] 38) = w2; have hb1 : Below w1.heap.size w1 w2 := z_165; have n0_ := A_0 (show w2.heap[w1.heap.size]? = some (.cells #[.int .i64 a', .int .i64 b', .string t', .int .i64 f', .slice A4' l'.length c4'] 38 (0, 0)) by rw [← hq]; exact blk_new _ _)
    have n1_ := A_0 (below_step HD.out hb1); have n2_ := A_0 (C_bb G.out hb1); have n3_ := A_0 (C_bb G'.out hb1); have n4_ := A_0 (blk_below BX.out hb1); clear y0 y1 y2 y3 y4 hq hb1 HD G G' BX; have BY := n0_; have HD := n1_; have G := n2_; have G' := n3_; have BX := n4_; clear n0_ n1_ n2_ n3_ n4_; generalize w1.heap.size = yb at *; obtain ⟨x0, x1, x2, x3, x4⟩ := fivq BX.out; obtain ⟨y0, y1, y2, y3, y4⟩ := fivq BY.out; cases e0 : (a != a') with
    | true =>
      have hr := HR2.out; have k9 : (a == a') = false := by rw [← Bool.not_eq_true']; exact e0
      rw [k9] at hr; simp only [Bool.false_and, Bool.and_false] at hr; subst hr; clear HR2
      go_wp2
      exact z_164
    | false =>
    have kk0 : (a == a') = true := by rw [← Bool.not_eq_false']; exact e0
    cases e1 : (b != b') with
    | true =>
      have hr := HR2.out; have k9 : (b == b') = false := by rw [← Bool.not_eq_true']; exact e1
      rw [k9] at hr; simp only [Bool.false_and, Bool.and_false] at hr; subst hr; clear HR2
      go_wp2
      exact z_164
    | false =>
    have kk1 : (b == b') = true := by rw [← Bool.not_eq_false']; exact e1
    cases e2 : (t.toList != t'.toList) with
    | true =>
      have hr := HR2.out; have k9 : (t.toList == t'.toList) = false := by rw [← Bool.not_eq_true']; exact e2
      rw [k9] at hr; simp only [Bool.false_and, Bool.and_false] at hr; subst hr; clear HR2
      go_wp2
      exact z_164
    | false =>
    have kk2 : (t.toList == t'.toList) = true := by rw [← Bool.not_eq_false']; exact e2
    cases e3 : (f != f') with
    | true =>
      have hr := HR2.out; have k9 : (f == f') = false := by rw [← Bool.not_eq_true']; exact e3
      rw [k9] at hr; simp only [Bool.false_and, Bool.and_false] at hr; subst hr; clear HR2
      go_wp2
      exact z_164
    | false =>
    have kk3 : (f == f') = true := by rw [← Bool.not_eq_false']; exact e3
    have hr := HR2.out; rw [kk0, kk1, kk2, kk3] at hr; simp only [Bool.true_and] at hr; have HR3 := Lib.hid hr; clear HR2 hr; have hc := A_0 (HIH.out.use l l' A4 c4 A4' c4' _ w2 HC.out G.out G'.out rfl); clear HIH HC G G'; have HH := Lib.hid (rfl : eqEs l l' = eqEs l l'); generalize hb : eqEs l l' = b9 at *
    go_wp2_with fail
    (with_reducible refine hc.out.mono ?_)
    rintro e w3 ⟨rfl, hb3⟩; have n0_ := A_0 (below_step HD.out hb3); clear hc HH hb HD hb3 BX BY; have HD := n0_; clear n0_; clear e0 e1 e2 e3 kk0 kk1 kk2 kk3 x0 x1 x2 x3 x4 y0 y1 y2 y3 y4; have hr := HR3.out; clear HR3; cases b9 with
    | false =>
      rw [Bool.false_and] at hr; subst hr
      go_wp2
      exact z_164
    | true =>
      rw [Bool.true_and] at hr; have HR := A_0 hr; clear hr
      go_wp2
      go_roundg k1
      case measure => omega
      case rel =>
        have hw : wrap64 (j + 1) = j + 1 := by have := HM.out; clear hjk; unfold wrap64; omega
        exact ⟨j + 1, by rw [hw], by omega, by omega, by omega, HR, HD⟩
theorem all_ok : ∀ n, AqC n
  | 0 => fun xs ys A c B d r w h => absurd h (Nat.not_lt_zero _)
  | n + 1 => all_step n (all_ok n)
theorem all_L (xs ys : List S38) (A : Option Addr) (c : Nat) (B : Option Addr) (d : Nat) (r : Bool) (w : World) (h1 : Kd.C k38 w A xs.length xs) (h2 : Kd.C k38 w B ys.length ys) (h3 : eqEs xs ys = r) :
  Calls Try.prog 54 #[.slice A xs.length c, .slice B ys.length d] w fun e w' => e = .returned (.bool r) ∧ Below w.heap.size w w' := all_ok _ xs ys A c B d r w (Nat.lt_succ_self _) h1 h2 h3
end Go.Proofs.Ytobkdmmnbnpemaa.K
namespace Go.Proofs.Ytobkdmmnbnpemaa.K
open Go.RowKit Go.Proofs.YtobkdmmnbnpemaaW.PrintWords Go.Proofs.YtobkdmmnbnpemaaW.PrintLast Go.Proofs.YtobkdmmnbnpemaaW.PrintMore
attribute [local go_sem] max2_int min2_int max_two min_two max_three min_three max_four min_four
set_option linter.unusedVariables false
set_option linter.unusedSimpArgs false
theorem eqSs_dropJ {xs ys : List S41} {j : Int} (h0 : 0 ≤ j) (hx : j < xs.length) (hy : j < ys.length) : eqSs (xs.drop j.toNat) (ys.drop j.toNat) = (eqS (rd_T41 xs j) (rd_T41 ys j) && eqSs (xs.drop (j + 1).toNat) (ys.drop (j + 1).toNat)) := by
  obtain ⟨i, rfl⟩ := Int.eq_ofNat_of_zero_le h0; exact eqSs_drop (by omega) (by omega)
theorem cntB_rdJ (xs : List S41) (j : Int) (h0 : 0 ≤ j) (h : j < xs.length) : cntL (rd_T41 xs j).f3 + (cntB (rd_T41 xs j).f4 + cntB (rd_T41 xs j).f5) < cntB xs := by
  obtain ⟨i, rfl⟩ := Int.eq_ofNat_of_zero_le h0; exact cntB_rd xs i (by omega)
theorem sixq {w : World} {g : Nat} {t : TypeId} {a0 a1 a2 a3 a4 a5 : Value} (h : w.heap[g]? = some (.cells #[a0, a1, a2, a3, a4, a5] t (0, 0))) :
    w.cell? ⟨g, 0, none⟩ = some a0 ∧ w.cell? ⟨g, 1, none⟩ = some a1 ∧ w.cell? ⟨g, 2, none⟩ = some a2 ∧ w.cell? ⟨g, 3, none⟩ = some a3 ∧ w.cell? ⟨g, 4, none⟩ = some a4 ∧ w.cell? ⟨g, 5, none⟩ = some a5 :=
  ⟨blk_cell h 0, blk_cell h 1, blk_cell h 2, blk_cell h 3, blk_cell h 4, blk_cell h 5⟩
def BqC (n : Nat) : Prop := ∀ (xs ys : List S41) (A : Option Addr) (c : Nat) (B : Option Addr) (d : Nat) (r : Bool) (w : World), cntB xs < n → Kd.C k41 w A xs.length xs → Kd.C k41 w B ys.length ys → eqSs xs ys = r →
  Calls Try.prog 33 #[.slice A xs.length c, .slice B ys.length d] w fun e w' => e = .returned (.bool r) ∧ Below w.heap.size w w'
theorem BqC.use {n : Nat} (h : BqC n) (xs ys : List S41) (A : Option Addr) (c : Nat) (B : Option Addr) (d : Nat) (r : Bool) (w : World) (h0 : cntB xs < n) (h1 : Kd.C k41 w A xs.length xs) (h2 : Kd.C k41 w B ys.length ys) (h3 : eqSs xs ys = r) :
  Calls Try.prog 33 #[.slice A xs.length c, .slice B ys.length d] w fun e w' => e = .returned (.bool r) ∧ Below w.heap.size w w' := h xs ys A c B d r w h0 h1 h2 h3
def EqRelD (xs ys : List S41) (r : Bool) (w : World) (kq : Nat) (v15 : Value) (wq : World) : Prop :=
  ∃ j : Int, v15 = .int .i64 j ∧ 0 ≤ j ∧ j ≤ xs.length ∧ (xs.length : Int) < kq + j ∧ Aside0 (eqSs (xs.drop j.toNat) (ys.drop j.toNat) = r) ∧ Aside0 (Below w.heap.size w wq)
set_option maxHeartbeats 8000000 in
set_option maxRecDepth 100000 in
theorem same_step (n : Nat) (IH : BqC n) : BqC (n + 1) := by
  intro xs ys A c B d r w hcnt hA hB hr; have hu41 := Try.underlying41; have hu22 := Try.underlying22; by_cases hl : xs.length = ys.length
  rotate_left
  · have h' : ((xs.length : Int) != (ys.length : Int)) = true := bne_iff_ne.2 (by omega)
    rw [eqSs_len xs ys hl] at hr; subst hr; clear IH hcnt hA hB hl
    go_enter Try.func33, Try.ntmps33
    go_wp2
    exact ⟨rfl, _, z_166, rfl, Below.refl _ _⟩
  have h' : ((xs.length : Int) != (ys.length : Int)) = false := bne_eq_false_iff_eq.2 (by omega); have HM := A_0 (Kd.C_max hA); have HA := A_0 hA; have HB := A_0 hB; have HIH := A_0 IH; have HN := A_0 hcnt; have HR := A_0 hr; have HL := A_0 hl; clear hA hB IH hcnt hr hl
  go_enter Try.func33, Try.ntmps33
  go_wp2_with fail
  go_loopg [15] (xs.length + 1) (fun kq v15 wq => EqRelD xs ys r w kq v15 wq)
  case atStart => exact ⟨0, rfl, by omega, by omega, by omega, HR, ⟨Below.refl _ _⟩⟩
  case round =>
    clear HR; unfold EqRelD at hrel; obtain ⟨j, rfl, hj0, hj1, hjk, HR, HD⟩ := hrel; cases gk with
    | zero => omega
    | succ k1 =>
    by_cases hi : j < xs.length
    rotate_left
    · have hi' : decide (j < (xs.length : Int)) = false := decide_eq_false hi
      have hr := HR.out; rw [eqSs_end (by omega) (by have := HL.out; omega)] at hr; subst hr; clear HR
      go_wp2
      exact z_167
    have p0 := eq_true hj0; have p1 := eq_true hi; have p2 := eq_true (show j < (ys.length : Int) by have := HL.out; omega)
    obtain ⟨ad, A3, c3, A4, c4, A5, c5, rfl, x0, x1, x2, x3, x4, x5, l3, g3, l4, g4, l5, g5⟩ := at_T41 (C_bb HA.out HD.out) j hj0 hi; have hr := HR.out; rw [eqSs_dropJ hj0 hi (by have := HL.out; omega), eqS_eq] at hr; have HR2 := Lib.hid hr; have HC := A_0 (show cntB (rd_T41 xs j).f4 < n ∧ cntB (rd_T41 xs j).f5 < n by have := cntB_rdJ xs j hj0 hi; have := HN.out; omega)
    have G := A_0 (show Kd.C k38 wr A3 (rd_T41 xs j).f3.length (rd_T41 xs j).f3 ∧ Kd.C k41 wr A4 (rd_T41 xs j).f4.length (rd_T41 xs j).f4 ∧ Kd.C k41 wr A5 (rd_T41 xs j).f5.length (rd_T41 xs j).f5 from ⟨g3, g4, g5⟩); clear HR hr g3 g4 g5 l3 l4 l5; generalize rd_T41 xs j = x at *; obtain ⟨a, b, f, l, m, q⟩ := x; dsimp only at x0 x1 x2 x3 x4 x5 HR2 HC G; go_upto_region 6 with fail; generalize hq : World.alloc wr (Obj.cells #[Value.int IntKind.i64 a, Value.string b, Value.int IntKind.i64 f, Value.slice A3 l.length c3, Value.slice A4 m.length c4, Value.slice A5 q.length c5] 41) = w1; have hb1 : Below wr.heap.size wr w1 := z_165; have n0_ := A_0 (show w1.heap[wr.heap.size]? = some (.cells #[.int .i64 a, .string b, .int .i64 f, .slice A3 l.length c3, .slice A4 m.length c4, .slice A5 q.length c5] 41 (0, 0)) by rw [← hq]; exact blk_new _ _)
    have n1_ := A_0 (below_step HD.out hb1); have n2_ := A_0 ((⟨C_bb G.out.1 hb1, C_bb G.out.2.1 hb1, C_bb G.out.2.2 hb1⟩ : Kd.C k38 _ A3 l.length l ∧ Kd.C k41 _ A4 m.length m ∧ Kd.C k41 _ A5 q.length q)); clear x0 x1 x2 x3 x4 x5 hq hb1 HD G; have BX := n0_; have HD := n1_; have G := n2_; clear n0_ n1_ n2_; generalize wr.heap.size = xb at *; obtain ⟨ad', A3', c3', A4', c4', A5', c5', rfl, y0, y1, y2, y3, y4, y5, l3', g3', l4', g4', l5', g5'⟩ := at_T41 (C_bb HB.out HD.out) j hj0 (by have := HL.out; omega); have G' := A_0 (show Kd.C k38 w1 A3' (rd_T41 ys j).f3.length (rd_T41 ys j).f3 ∧ Kd.C k41 w1 A4' (rd_T41 ys j).f4.length (rd_T41 ys j).f4 ∧ Kd.C k41 w1 A5' (rd_T41 ys j).f5.length (rd_T41 ys j).f5 from ⟨g3', g4', g5'⟩); clear g3' g4' g5' l3' l4' l5'; generalize rd_T41 ys j = y at *; obtain ⟨a', b', f', l', m', q'⟩ := y; dsimp only at y0 y1 y2 y3 y4 y5 HR2 G'; go_upto_region 7 with fail; generalize hq : World.alloc w1 (Obj.cells #[Value.int IntKind.i64 a', Value.string b', Value.int IntKind.i64 f', Value.slice A3' l'.length c3', Value.slice A4' m'.length c4', Value.slice A5' q'.length c5'] 41) = w2; have hb1 : Below w1.heap.size w1 w2 := z_165; have n0_ := A_0 (show w2.heap[w1.heap.size]? = some (.cells #[.int .i64 a', .string b', .int .i64 f', .slice A3' l'.length c3', .slice A4' m'.length c4', .slice A5' q'.length c5'] 41 (0, 0)) by rw [← hq]; exact blk_new _ _)
    have n1_ := A_0 (below_step HD.out hb1); have n2_ := A_0 ((⟨C_bb G.out.1 hb1, C_bb G.out.2.1 hb1, C_bb G.out.2.2 hb1⟩ : Kd.C k38 _ A3 l.length l ∧ Kd.C k41 _ A4 m.length m ∧ Kd.C k41 _ A5 q.length q)); have n3_ := A_0 ((⟨C_bb G'.out.1 hb1, C_bb G'.out.2.1 hb1, C_bb G'.out.2.2 hb1⟩ : Kd.C k38 _ A3' l'.length l' ∧ Kd.C k41 _ A4' m'.length m' ∧ Kd.C k41 _ A5' q'.length q')); have n4_ := A_0 (blk_below BX.out hb1); clear y0 y1 y2 y3 y4 y5 hq hb1 HD G G' BX; have BY := n0_; have HD := n1_; have G := n2_; have G' := n3_; have BX := n4_; clear n0_ n1_ n2_ n3_ n4_; generalize w1.heap.size = yb at *; obtain ⟨x0, x1, x2, x3, x4, x5⟩ := sixq BX.out; obtain ⟨y0, y1, y2, y3, y4, y5⟩ := sixq BY.out; cases e0 : (a != a') with
    | true =>
      have hr := HR2.out; have k9 : (a == a') = false := by rw [← Bool.not_eq_true']; exact e0
      rw [k9] at hr; simp only [Bool.false_and, Bool.and_false] at hr; subst hr; clear HR2
      go_wp2
      exact z_167
    | false =>
    have kk0 : (a == a') = true := by rw [← Bool.not_eq_false']; exact e0
    cases e1 : (b.toList != b'.toList) with
    | true =>
      have hr := HR2.out; have k9 : (b.toList == b'.toList) = false := by rw [← Bool.not_eq_true']; exact e1
      rw [k9] at hr; simp only [Bool.false_and, Bool.and_false] at hr; subst hr; clear HR2
      go_wp2
      exact z_167
    | false =>
    have kk1 : (b.toList == b'.toList) = true := by rw [← Bool.not_eq_false']; exact e1
    cases e2 : (f != f') with
    | true =>
      have hr := HR2.out; have k9 : (f == f') = false := by rw [← Bool.not_eq_true']; exact e2
      rw [k9] at hr; simp only [Bool.false_and, Bool.and_false] at hr; subst hr; clear HR2
      go_wp2
      exact z_167
    | false =>
    have kk2 : (f == f') = true := by rw [← Bool.not_eq_false']; exact e2
    have hr := HR2.out; rw [kk0, kk1, kk2] at hr; simp only [Bool.true_and] at hr; have HR3 := Lib.hid hr; clear HR2 hr; have HH := Lib.hid (rfl : (eqEs l l', eqSs m m', eqSs q q') = (eqEs l l', eqSs m m', eqSs q q')); generalize hb3 : eqEs l l' = b3 at *; generalize hb4 : eqSs m m' = b4 at *; generalize hb5 : eqSs q q' = b5 at *; have HK3 := A_0 hb3; have HK4 := A_0 hb4; have HK5 := A_0 hb5; clear HH hb3 hb4 hb5
    go_wp2_with fail
    (with_reducible refine (all_L l l' A3 c3 A3' c3' _ _ G.out.1 G'.out.1 HK3.out).mono ?_)
    rintro e w5 ⟨rfl, hb⟩; have n0_ := A_0 (below_step HD.out hb); have n1_ := A_0 ((⟨C_bb G.out.1 hb, C_bb G.out.2.1 hb, C_bb G.out.2.2 hb⟩ : Kd.C k38 _ A3 l.length l ∧ Kd.C k41 _ A4 m.length m ∧ Kd.C k41 _ A5 q.length q)); have n2_ := A_0 ((⟨C_bb G'.out.1 hb, C_bb G'.out.2.1 hb, C_bb G'.out.2.2 hb⟩ : Kd.C k38 _ A3' l'.length l' ∧ Kd.C k41 _ A4' m'.length m' ∧ Kd.C k41 _ A5' q'.length q')); have n3_ := A_0 (blk_below BX.out hb); have n4_ := A_0 (blk_below BY.out hb); clear HD G G' BX BY hb x0 x1 x2 x3 x4 x5 y0 y1 y2 y3 y4 y5; have HD := n0_; have G := n1_; have G' := n2_; have BX := n3_; have BY := n4_; clear n0_ n1_ n2_ n3_ n4_; obtain ⟨x0, x1, x2, x3, x4, x5⟩ := sixq BX.out; obtain ⟨y0, y1, y2, y3, y4, y5⟩ := sixq BY.out; cases b3 with
    | false =>
      have hr := HR3.out; simp only [Bool.false_and, Bool.and_false] at hr; subst hr; clear HR3
      go_wp2
      exact z_167
    | true =>
    go_wp2_with fail
    (with_reducible refine (HIH.out.use m m' A4 c4 A4' c4' _ _ HC.out.1 G.out.2.1 G'.out.2.1 HK4.out).mono ?_)
    rintro e w6 ⟨rfl, hb⟩; have n0_ := A_0 (below_step HD.out hb); have n1_ := A_0 ((⟨C_bb G.out.1 hb, C_bb G.out.2.1 hb, C_bb G.out.2.2 hb⟩ : Kd.C k38 _ A3 l.length l ∧ Kd.C k41 _ A4 m.length m ∧ Kd.C k41 _ A5 q.length q)); have n2_ := A_0 ((⟨C_bb G'.out.1 hb, C_bb G'.out.2.1 hb, C_bb G'.out.2.2 hb⟩ : Kd.C k38 _ A3' l'.length l' ∧ Kd.C k41 _ A4' m'.length m' ∧ Kd.C k41 _ A5' q'.length q')); have n3_ := A_0 (blk_below BX.out hb); have n4_ := A_0 (blk_below BY.out hb); clear HD G G' BX BY hb x0 x1 x2 x3 x4 x5 y0 y1 y2 y3 y4 y5; have HD := n0_; have G := n1_; have G' := n2_; have BX := n3_; have BY := n4_; clear n0_ n1_ n2_ n3_ n4_; obtain ⟨x0, x1, x2, x3, x4, x5⟩ := sixq BX.out; obtain ⟨y0, y1, y2, y3, y4, y5⟩ := sixq BY.out; cases b4 with
    | false =>
      have hr := HR3.out; simp only [Bool.false_and, Bool.and_false] at hr; subst hr; clear HR3
      go_wp2
      exact z_167
    | true =>
    go_wp2_with fail
    (with_reducible refine (HIH.out.use q q' A5 c5 A5' c5' _ _ HC.out.2 G.out.2.2 G'.out.2.2 HK5.out).mono ?_)
    rintro e w7 ⟨rfl, hb⟩; have n0_ := A_0 (below_step HD.out hb); have n1_ := A_0 ((⟨C_bb G.out.1 hb, C_bb G.out.2.1 hb, C_bb G.out.2.2 hb⟩ : Kd.C k38 _ A3 l.length l ∧ Kd.C k41 _ A4 m.length m ∧ Kd.C k41 _ A5 q.length q)); have n2_ := A_0 ((⟨C_bb G'.out.1 hb, C_bb G'.out.2.1 hb, C_bb G'.out.2.2 hb⟩ : Kd.C k38 _ A3' l'.length l' ∧ Kd.C k41 _ A4' m'.length m' ∧ Kd.C k41 _ A5' q'.length q')); have n3_ := A_0 (blk_below BX.out hb); have n4_ := A_0 (blk_below BY.out hb); clear HD G G' BX BY hb x0 x1 x2 x3 x4 x5 y0 y1 y2 y3 y4 y5; have HD := n0_; have G := n1_; have G' := n2_; have BX := n3_; have BY := n4_; clear n0_ n1_ n2_ n3_ n4_; obtain ⟨x0, x1, x2, x3, x4, x5⟩ := sixq BX.out; obtain ⟨y0, y1, y2, y3, y4, y5⟩ := sixq BY.out; cases b5 with
    | false =>
      have hr := HR3.out; simp only [Bool.false_and, Bool.and_false] at hr; subst hr; clear HR3
      go_wp2
      exact z_167
    | true =>
    have hr := HR3.out; simp only [Bool.true_and] at hr; have HR := A_0 hr; clear hr HR3 e0 e1 e2 kk0 kk1 kk2 x0 x1 x2 x3 x4 x5 y0 y1 y2 y3 y4 y5
    go_wp2
    go_roundg k1
    case measure => omega
    case rel =>
      have hw : wrap64 (j + 1) = j + 1 := by have := HM.out; clear hjk; unfold wrap64; omega
      exact ⟨j + 1, by rw [hw], by omega, by omega, by omega, HR, HD⟩
theorem same_ok : ∀ n, BqC n
  | 0 => fun xs ys A c B d r w h => absurd h (Nat.not_lt_zero _)
  | n + 1 => same_step n (same_ok n)
theorem same_L (xs ys : List S41) (A : Option Addr) (c : Nat) (B : Option Addr) (d : Nat) (r : Bool) (w : World) (h1 : Kd.C k41 w A xs.length xs) (h2 : Kd.C k41 w B ys.length ys) (h3 : eqSs xs ys = r) :
  Calls Try.prog 33 #[.slice A xs.length c, .slice B ys.length d] w fun e w' => e = .returned (.bool r) ∧ Below w.heap.size w w' := same_ok _ xs ys A c B d r w (Nat.lt_succ_self _) h1 h2 h3
end Go.Proofs.Ytobkdmmnbnpemaa.K
