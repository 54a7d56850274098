/- Texts of the claim, one behind the other. -/
import Derived.Test.YtobkdmmnbnpemaaXIB05
import Derived.Lib.Hide
import Derived.Deep.RegionHeld3
import Derived.Outline
import Derived.Test.YtobkdmmnbnpemaaXIB00
import Derived.WalkSmall
set_option maxHeartbeats 16000000
set_option maxRecDepth 100000
namespace Go.Proofs.Ytobkdmmnbnpemaa.K
open Go.RowKit Go.Proofs.YtobkdmmnbnpemaaW.PrintWords Go.Proofs.YtobkdmmnbnpemaaW.PrintLast Go.Proofs.YtobkdmmnbnpemaaW.PrintMore
set_option linter.unusedVariables false
set_option linter.unusedSimpArgs false
theorem piece_ok (t : ByteArray) (rk least : Int) (h : t.size ≤ 100000000) : show_piece_in.f t rk least = some (brT rk least t) := by
 unfold show_piece_in.f brT; by_cases q : rk < least
 ·have e1 : (⟨#[40]⟩ : ByteArray).size = 1 := rfl
  rw [if_pos q, if_pos q, if_pos (by omega), if_pos (by rw [ByteArray.size_append]; omega)]
 ·rw [if_neg q, if_neg q]
theorem one_ok (f : Int) : show_one.f f = some (oneT f) := by
 unfold show_one.f oneT; by_cases h : f = 19
 ·rw [if_pos h, if_pos h]
 ·rw [if_neg h, if_neg h]
  by_cases g : f = 20
  ·rw [if_pos g, if_pos g]
  ·rw [if_neg g, if_neg g]
theorem l0_one (k : Nat) (x : S38) (t : ByteArray) (r : Int) (a b : Int) (c : ByteArray) (f : Int) (h : show_expr.f (k + 1) x.f0 x.f1 x.f2 x.f3 x.f4 = some (t, r)) :
  show_expr.l0 (k + 2) [] [x] (([x] : List S38).length : Int) 0 a b c f [x] = if a = 3 then show_expr.j1 k [⟨t, r⟩] true a b c f [x] else show_expr.j1 k [⟨t, r⟩] false a b c f [x] := by
 have hw : wrap64 ((0 : Int) + 1) = 1 := by unfold wrap64; omega
 rw [show_expr.l0, if_pos (by simp), if_pos (by decide), if_pos (by simp), show rd_T38 [x] 0 = x from rfl, h, Option.bind_some, if_pos (by simp), hw, show_expr.l0, if_neg (by simp)]
 rfl
theorem l0_two (k : Nat) (x y : S38) (t : ByteArray) (r : Int) (u : ByteArray) (s : Int) (a b : Int) (c : ByteArray) (f : Int) (h : show_expr.f (k + 2) x.f0 x.f1 x.f2 x.f3 x.f4 = some (t, r)) (g : show_expr.f (k + 1) y.f0 y.f1 y.f2 y.f3 y.f4 = some (u, s)) (ha : a ≠ 3) :
  show_expr.l0 (k + 3) [] [x, y] (([x, y] : List S38).length : Int) 0 a b c f [x, y] = show_expr.j1 k [⟨t, r⟩, ⟨u, s⟩] false a b c f [x, y] := by
 have hw : wrap64 ((0 : Int) + 1) = 1 := by unfold wrap64; omega
 have hw2 : wrap64 ((1 : Int) + 1) = 2 := by unfold wrap64; omega
 have hl : (([x, y] : List S38).length : Int) = 2 := rfl; rw [hl, show_expr.l0, if_pos (by decide), if_pos (by decide), hl, if_pos (by decide), show rd_T38 [x, y] 0 = x from rfl, h, Option.bind_some, if_pos (by simp), hw, show_expr.l0, if_pos (by decide), if_pos (by decide), hl, if_pos (by decide), show rd_T38 [x, y] 1 = y from rfl, g, Option.bind_some, if_pos (by simp), hw2, show_expr.l0, if_neg (by decide), if_neg ha]
 rfl
theorem two_ok (k : Nat) (hk : 60 ≤ k) (f : Int) (h0 : 1 ≤ f) (h1 : f ≤ 18) (t u : ByteArray) (r s : Int) (ht : t.size ≤ 20000000) (hu : u.size ≤ 20000000) :
  show_two.f k f t r u s = some ((if f = 17 then (((⟨#[109, 105, 110, 40]⟩ ++ t) ++ ⟨#[44, 32]⟩) ++ u) ++ ⟨#[41]⟩ else if f = 18 then (((⟨#[109, 97, 120, 40]⟩ ++ t) ++ ⟨#[44, 32]⟩) ++ u) ++ ⟨#[41]⟩ else (((brT r (sgR f).2 t ++ ⟨#[32]⟩) ++ (sgR f).1) ++ ⟨#[32]⟩) ++ brT s ((sgR f).2 + 1) u : ByteArray), (if f = 17 then 10 else if f = 18 then 10 else (sgR f).2)) := by
 have e1 : (⟨#[109, 105, 110, 40]⟩ : ByteArray).size = 4 := rfl; have e2 : (⟨#[44, 32]⟩ : ByteArray).size = 2 := rfl; have e3 : (⟨#[41]⟩ : ByteArray).size = 1 := rfl; have e4 : (⟨#[109, 97, 120, 40]⟩ : ByteArray).size = 4 := rfl; have e5 : (⟨#[32]⟩ : ByteArray).size = 1 := rfl; unfold show_two.f; by_cases q : f = 17
 ·rw [if_pos q, if_pos q, if_pos q]
  rw [if_pos (by omega), if_pos (z_160), if_pos (z_160), if_pos (z_160)]
 rw [if_neg q, if_neg q, if_neg q]; by_cases q2 : f = 18
 ·rw [if_pos q2, if_pos q2, if_pos q2]
  rw [if_pos (by omega), if_pos (z_160), if_pos (z_160), if_pos (z_160)]
 rw [if_neg q2, if_neg q2, if_neg q2]; obtain ⟨s1, s2, s3, s4, s5⟩ := sign_facts f h0 (by omega); have s6 : show_Sign.f k f = some (sgR f) := at_rounds (g := fun k => show_Sign.f k f) (fun k => show_Sign.mono _ k) hk s2; have b1 := brT_size r (sgR f).2 t; have b2 := brT_size s ((sgR f).2 + 1) u; have hw : wrap64 ((sgR f).2 + 1) = (sgR f).2 + 1 := by unfold wrap64; omega
 rw [s6, Option.bind_some, piece_ok _ _ _ (by omega), Option.bind_some, if_pos (by omega), if_pos (z_160), if_pos (z_160), hw, piece_ok _ _ _ (by omega), Option.bind_some, if_pos (z_160)]
theorem show_n : ∀ (n : Nat) (e : S38), cntE e ≤ n → n ≤ 1000000 → fitE e = true → ∀ k, 70 * cntE e ≤ k → show_expr.f k e.f0 e.f1 e.f2 e.f3 e.f4 = some (txt e, rkE e)
 | 0, ⟨a, b, c, f, l⟩, hn, hm, h => by simp only [cntE] at hn; omega
 | n + 1, ⟨a, b, c, f, l⟩, hn, hm, h => by
  have hsz := txt_size ⟨a, b, c, f, l⟩ h; intro k hk; simp only [cntE] at hn hk; rcases fit_cases a b c f l h with ⟨rfl, rfl, hb⟩ | ⟨rfl, rfl, hnm⟩ | ⟨rfl, x, rfl, hx⟩ | ⟨rfl, x, rfl, hx, h0, h1⟩ | ⟨rfl, x, y, rfl, hx, hy, h0, h1⟩
  ·obtain ⟨k, rfl⟩ : ∃ j, k = j + 1 := ⟨k - 1, by omega⟩
   have hnt : num_Text.f b = some (bs (textB b)) := by unfold num_Text.f; rw [if_neg (by omega)]
   show show_expr.f (k + 1) 1 b c f [] = _; rw [show_expr.f, if_pos rfl, hnt]
   rfl
  ·obtain ⟨k, rfl⟩ : ∃ j, k = j + 1 := ⟨k - 1, by omega⟩
   show show_expr.f (k + 1) 2 b c f [] = _; rw [show_expr.f, if_neg (by decide), if_pos rfl]
   rfl
  ·simp only [cntL] at hn hk
   have hs := txt_size x hx; have hk1 := show_n n x (by omega) (by omega) hx; obtain ⟨k, rfl⟩ : ∃ j, k = j + 4 := ⟨k - 4, by omega⟩
   have e1 : (⟨#[109, 91]⟩ : ByteArray).size = 2 := rfl; have e2 : (⟨#[93]⟩ : ByteArray).size = 1 := rfl; show show_expr.f (k + 4) 3 b c f [x] = _; rw [show_expr.f, if_neg (by decide), if_neg (by decide), l0_one (k + 1) x _ _ 3 b c f (hk1 (k + 2) (by omega)), if_pos rfl, show_expr.j1, if_pos rfl, if_pos (by simp), show rd_T70 [⟨txt x, rkE x⟩] 0 = ⟨txt x, rkE x⟩ from rfl]; dsimp only; rw [if_pos (by omega), if_pos (z_160)]
   rfl
  ·simp only [cntL] at hn hk
   have hs := txt_size x hx; have hk1 := show_n n x (by omega) (by omega) hx; obtain ⟨k, rfl⟩ : ∃ j, k = j + 5 := ⟨k - 5, by omega⟩
   have e1 := oneT_size f; have e2 := brT_size (rkE x) 9 (txt x); show show_expr.f (k + 5) 4 b c f [x] = _; rw [show_expr.f, if_neg (by decide), if_neg (by decide), l0_one (k + 2) x _ _ 4 b c f (hk1 (k + 3) (by omega)), if_neg (by decide), show_expr.j1, if_neg (by decide), if_pos rfl, show ((([⟨txt x, rkE x⟩] : List S70).length : Int) == 1) = true from rfl, show_expr.j2, if_pos rfl, one_ok, Option.bind_some, if_pos (by simp), show rd_T70 [⟨txt x, rkE x⟩] 0 = ⟨txt x, rkE x⟩ from rfl]; dsimp only; rw [piece_ok _ _ _ (by omega), Option.bind_some, if_pos (by omega)]
   rfl
  ·simp only [cntL] at hn hk
   have hs := txt_size x hx; have hs2 := txt_size y hy; have hk1 := show_n n x (by omega) (by omega) hx; have hk2 := show_n n y (by omega) (by omega) hy; obtain ⟨k, rfl⟩ : ∃ j, k = j + 6 := ⟨k - 6, by omega⟩
   show show_expr.f (k + 6) 5 b c f [x, y] = _; have hl : (([⟨txt x, rkE x⟩, ⟨txt y, rkE y⟩] : List S70).length : Int) = 2 := rfl; rw [show_expr.f, if_neg (by decide), if_neg (by decide), l0_two (k + 2) x y _ _ _ _ 5 b c f (hk1 (k + 4) (by omega)) (hk2 (k + 3) (by omega)) (by decide), show_expr.j1, if_neg (by decide), if_neg (by decide), show_expr.j2, if_neg (by decide), if_pos rfl, hl, if_pos rfl, if_pos (by decide), if_pos (by decide), show rd_T70 [⟨txt x, rkE x⟩, ⟨txt y, rkE y⟩] 0 = ⟨txt x, rkE x⟩ from rfl, show rd_T70 [⟨txt x, rkE x⟩, ⟨txt y, rkE y⟩] 1 = ⟨txt y, rkE y⟩ from rfl]; dsimp only; rw [two_ok k (by omega) f h0 h1 _ _ _ _ (by omega) (by omega), Option.bind_some]
   rfl
theorem ex_txt_at (e : S38) (hc : cntE e ≤ 1000000) (h : fitE e = true) (k : Nat) (hk : 70 * cntE e ≤ k) : exT k e = some (txt e) := by
 unfold exT show_Expr.f; rw [show_n 1000000 e hc (xlr _) h k hk]
 rfl
def blB (n : Nat) : ByteArray := bs (List.replicate (2 * n) 32)
def arg0 : List S38 → ByteArray
 | [] => ⟨#[]⟩
 | x :: _ => txt x
def arg1 : List S38 → ByteArray
 | _ :: y :: _ => txt y
 | _ => ⟨#[]⟩
def elsT (l5 : List S41) (n : Nat) (s E H : ByteArray) : ByteArray :=
 if l5.length = 0 then s ++ ⟨#[10]⟩
 else if l5.length = 1 ∧ (rd_T41 l5 0).f0 = 6 then (s ++ ⟨#[32, 101, 108, 115, 101, 32]⟩) ++ H
 else (((s ++ ⟨#[32, 101, 108, 115, 101, 32, 123, 10]⟩) ++ E) ++ blB n) ++ ⟨#[125, 10]⟩
def oneA (k : Int) (f1 : ByteArray) (f2 : Int) (l3 : List S38) (n : Nat) (B : ByteArray) (l5 : List S41) (E H : ByteArray) : ByteArray :=
 if k = 1 then (((⟨#[118, 97, 114, 32]⟩ ++ f1) ++ ⟨#[32, 61, 32]⟩) ++ arg0 l3) ++ ⟨#[59, 10]⟩
 else if k = 2 then ((f1 ++ ⟨#[32, 61, 32]⟩) ++ arg0 l3) ++ ⟨#[59, 10]⟩
 else if k = 3 then (((⟨#[109, 91]⟩ ++ arg0 l3) ++ ⟨#[93, 32, 61, 32]⟩) ++ arg1 l3) ++ ⟨#[59, 10]⟩
 else if k = 4 then (⟨#[101, 109, 105, 116, 32]⟩ ++ arg0 l3) ++ ⟨#[59, 10]⟩
 else if k = 8 then (⟨#[102, 97, 105, 108, 32]⟩ ++ arg0 l3) ++ ⟨#[59, 10]⟩
 else if k = 5 then (((⟨#[105, 110, 116, 111, 32]⟩ ++ bs (textB f2)) ++ ⟨#[32]⟩) ++ arg0 l3) ++ ⟨#[59, 10]⟩
 else if k = 9 then ⟨#[115, 116, 111, 112, 59, 10]⟩
 else if k = 7 then ((((⟨#[119, 104, 105, 108, 101, 32, 40]⟩ ++ arg0 l3) ++ ⟨#[41, 32, 123, 10]⟩) ++ B) ++ blB n) ++ ⟨#[125, 10]⟩
 else elsT l5 n (((((⟨#[105, 102, 32, 40]⟩ ++ arg0 l3) ++ ⟨#[41, 32, 123, 10]⟩) ++ B) ++ blB n) ++ ⟨#[125]⟩) E H
mutual
def sTx : S41 → Nat → ByteArray
 | ⟨k, f1, f2, l3, l4, l5⟩, n => oneA k f1 f2 l3 n (lTx l4 (n + 1)) l5 (lTx l5 (n + 1)) (hTx l5 n)
def lTx : List S41 → Nat → ByteArray
 | [], _ => ⟨#[]⟩
 | x :: xs, n => (blB n ++ sTx x n) ++ lTx xs n
def hTx : List S41 → Nat → ByteArray
 | [], _ => ⟨#[]⟩
 | x :: _, n => sTx x n
end
theorem blB_size (n : Nat) : (blB n).size = 2 * n := by unfold blB; rw [size_bs, List.length_replicate]
theorem head_kind {s : S41} (h : headB s = true) : ∃ (W : Nat) (nm : Bool), wantS s.f0 = some (W, nm) ∧ s.f3.length = W ∧ (nm = true → nameB (lst s.f1) = true) ∧ (s.f0 = 5 → 0 ≤ s.f2) := by
 unfold headB at h; cases hw : wantS s.f0 with
 | none => rw [hw] at h; cases h
 | some p =>
  obtain ⟨W, nm⟩ := p; rw [hw] at h; simp only [Bool.and_eq_true, beq_iff_eq, Bool.or_eq_true] at h; obtain ⟨⟨⟨⟨h1, h2, h3⟩, h4⟩, h5⟩, h6⟩ := h; refine ⟨W, nm, rfl, h1, fun e => by rw [← h2]; exact e, fun e => ?_⟩
  unfold cellB at h4; rw [if_pos e, Bool.and_eq_true] at h4; exact xod h4.1
theorem fit_open {b : Nat} {s : S41} (h : fitSt (fitB b) s = true) : headB s = true ∧ s.f3.all okA = true ∧ (loopsB s.f0 = true → 0 < b) ∧ s.f4.all (fitSt (fitB (b - 1))) = true ∧ s.f5.all (fitSt (fitB (b - 1))) = true := by
 have hh : headB s = true := by
  cases e : headB s with
  | true => rfl
  | false => rw [fitSt_no e] at h; cases h
 have hb : loopsB s.f0 = true → 0 < b := by
  intro hl; rcases Nat.eq_zero_or_pos b with z | z
  ·subst z
   unfold fitSt at h; rw [hh, hl] at h; simp [fitB] at h
  ·exact z
 rw [fin_eq b s hh hb, Bool.and_eq_true, Bool.and_eq_true] at h; exact ⟨hh, h.1, hb, h.2.1, h.2.2⟩
theorem okA_open {e : S38} (h : okA e = true) : fitE e = true ∧ deepE e ≤ 48 := by
 unfold okA at h; rw [Bool.and_eq_true] at h; exact ⟨h.2, xod h.1⟩
theorem arg0_size (l : List S38) (h : l.all okA = true) : (arg0 l).size ≤ 20 * cntL l := by
 cases l with
 | nil => exact Nat.zero_le _
 | cons x xs =>
  rw [List.all_cons, Bool.and_eq_true] at h; have := txt_size x (okA_open h.1).1; simp only [arg0, cntL]
  omega
theorem arg01_size (l : List S38) (h : l.all okA = true) : (arg0 l).size + (arg1 l).size ≤ 20 * cntL l := by
 match l with
 | [] => exact Nat.zero_le _
 | [x] =>
  have := arg0_size [x] h; have e : (arg1 [x]).size = 0 := rfl
  omega
 | x :: y :: xs =>
  simp only [List.all_cons, Bool.and_eq_true] at h; have h1 := txt_size x (okA_open h.1).1; have h2 := txt_size y (okA_open h.2.1).1; simp only [arg0, arg1, cntL]
  omega
theorem elsT_size (l5 : List S41) (n : Nat) (s E H : ByteArray) (c : Nat) (hn : n ≤ 20) (hE : E.size ≤ c) (hH : H.size ≤ c) : (elsT l5 n s E H).size ≤ s.size + c + 60 := by
 have hb := blB_size n; have e1 : (⟨#[10]⟩ : ByteArray).size = 1 := rfl; have e2 : (⟨#[32, 101, 108, 115, 101, 32]⟩ : ByteArray).size = 6 := rfl; have e3 : (⟨#[32, 101, 108, 115, 101, 32, 123, 10]⟩ : ByteArray).size = 8 := rfl; have e4 : (⟨#[125, 10]⟩ : ByteArray).size = 2 := rfl; unfold elsT
 split
 ·simp only [ByteArray.size_append]; omega
 split
 ·simp only [ByteArray.size_append]; omega
 ·simp only [ByteArray.size_append]; omega
theorem oneA_size (k : Int) (f1 : ByteArray) (f2 : Int) (l3 : List S38) (n : Nat) (B : ByteArray) (l5 : List S41) (E H : ByteArray) (c4 c5 : Nat) (hn : n ≤ 20) (ha : (arg0 l3).size + (arg1 l3).size ≤ 20 * cntL l3)
  (hk : (k = 1 ∨ k = 2) → f1.size ≤ 12) (h5 : k = 5 → 0 ≤ f2) (hB : B.size ≤ c4) (hE : E.size ≤ c5) (hH : H.size ≤ c5) : (oneA k f1 f2 l3 n B l5 E H).size ≤ 150 + 20 * cntL l3 + c4 + c5 := by
 have hb := blB_size n; have e1 : (⟨#[118, 97, 114, 32]⟩ : ByteArray).size = 4 := rfl; have e2 : (⟨#[32, 61, 32]⟩ : ByteArray).size = 3 := rfl; have e3 : (⟨#[59, 10]⟩ : ByteArray).size = 2 := rfl; have e4 : (⟨#[109, 91]⟩ : ByteArray).size = 2 := rfl; have e5 : (⟨#[93, 32, 61, 32]⟩ : ByteArray).size = 4 := rfl; have e6 : (⟨#[101, 109, 105, 116, 32]⟩ : ByteArray).size = 5 := rfl; have e7 : (⟨#[102, 97, 105, 108, 32]⟩ : ByteArray).size = 5 := rfl; have e8 : (⟨#[105, 110, 116, 111, 32]⟩ : ByteArray).size = 5 := rfl; have e9 : (⟨#[32]⟩ : ByteArray).size = 1 := rfl; have f1' : (⟨#[115, 116, 111, 112, 59, 10]⟩ : ByteArray).size = 6 := rfl; have f2' : (⟨#[119, 104, 105, 108, 101, 32, 40]⟩ : ByteArray).size = 7 := rfl; have f3 : (⟨#[41, 32, 123, 10]⟩ : ByteArray).size = 4 := rfl; have f4 : (⟨#[125, 10]⟩ : ByteArray).size = 2 := rfl; have f5 : (⟨#[105, 102, 32, 40]⟩ : ByteArray).size = 4 := rfl; have f6 : (⟨#[125]⟩ : ByteArray).size = 1 := rfl; unfold oneA
 split
 ·have := hk (.inl (by assumption)); simp only [ByteArray.size_append]; omega
 split
 ·have := hk (.inr (by assumption)); simp only [ByteArray.size_append]; omega
 split
 ·simp only [ByteArray.size_append]; omega
 split
 ·simp only [ByteArray.size_append]; omega
 split
 ·simp only [ByteArray.size_append]; omega
 split
 ·have := textB_len f2 (h5 (by assumption)); simp only [ByteArray.size_append, size_bs]; omega
 split
 ·omega
 split
 ·simp only [ByteArray.size_append]; omega
 ·refine Nat.le_trans (elsT_size l5 n _ E H c5 hn hE hH) ?_
  simp only [ByteArray.size_append]
  omega
theorem lines_size (n : Nat) (hn : n ≤ 20) : ∀ (l : List S41), (∀ s ∈ l, (sTx s n).size ≤ 150 + 190 * cntS s) → (lTx l n).size ≤ 190 * cntB l
 | [], _ => Nat.zero_le _
 | x :: xs, h => by
  have h0 := h x (List.mem_cons_self ..); have ih := lines_size n hn xs (fun s hs => h s (List.mem_cons_of_mem _ hs)); have hb := blB_size n; simp only [lTx, cntB, ByteArray.size_append]
  omega
theorem head_size (n : Nat) : ∀ (l : List S41), (∀ s ∈ l, (sTx s n).size ≤ 150 + 190 * cntS s) → (hTx l n).size ≤ 190 * cntB l
 | [], _ => Nat.zero_le _
 | x :: xs, h => by
  have h0 := h x (List.mem_cons_self ..); simp only [hTx, cntB]
  omega
theorem named_size {s : S41} (h : headB s = true) : (s.f0 = 1 ∨ s.f0 = 2) → s.f1.size ≤ 12 := by
 intro hk; obtain ⟨W, nm, hw, _, hn, _⟩ := head_kind h
 have e : nm = true := by
  rcases hk with z | z
  ·rw [z] at hw; exact (Prod.mk.inj (xsi hw)).2.symm
  ·rw [z] at hw; exact (Prod.mk.inj (xsi hw)).2.symm
 exact name_size (hn e)
theorem sizes : ∀ (b : Nat) (s : S41), fitSt (fitB b) s = true → ∀ n, n + b ≤ 20 → (sTx s n).size ≤ 150 + 190 * cntS s
 | 0, s, h, n, hn => by
  obtain ⟨h1, h2, h3, h4, h5⟩ := fit_open h
  have hl : loopsB s.f0 = false := by
   cases e : loopsB s.f0 with
   | false => rfl
   | true => exact absurd (h3 e) (by omega)
  obtain ⟨g1, g2⟩ := head_empty h1 hl; have hn1 := named_size h1; obtain ⟨W, nm, _, _, _, h6⟩ := head_kind h1; obtain ⟨k, f1, f2, l3, l4, l5⟩ := s; dsimp only at g1 g2; subst g1 g2; have := oneA_size k f1 f2 l3 n ⟨#[]⟩ [] ⟨#[]⟩ ⟨#[]⟩ 0 0 (by omega) (arg01_size l3 h2) hn1 h6 (xlr _) (xlr _) (xlr _); have e : sTx ⟨k, f1, f2, l3, [], []⟩ n = oneA k f1 f2 l3 n ⟨#[]⟩ [] ⟨#[]⟩ ⟨#[]⟩ := rfl; rw [e]; simp only [cntS, cntB]
  omega
 | b + 1, s, h, n, hn => by
  obtain ⟨h1, h2, h3, h4, h5⟩ := fit_open h; have hn1 := named_size h1; obtain ⟨W, nm, _, _, _, h6⟩ := head_kind h1; obtain ⟨k, f1, f2, l3, l4, l5⟩ := s; rw [Nat.add_sub_cancel] at h4 h5; rw [List.all_eq_true] at h4 h5; have i4 := lines_size (n + 1) (by omega) l4 (fun s hs => sizes b s (h4 s hs) (n + 1) (by omega)); have i5 := lines_size (n + 1) (by omega) l5 (fun s hs => sizes b s (h5 s hs) (n + 1) (by omega)); have i6 := head_size n l5 (fun s hs => sizes b s (h5 s hs) n (by omega)); have := oneA_size k f1 f2 l3 n (lTx l4 (n + 1)) l5 (lTx l5 (n + 1)) (hTx l5 n) _ _ (by omega) (arg01_size l3 h2) hn1 h6 i4 i5 i6; have e : sTx ⟨k, f1, f2, l3, l4, l5⟩ n = oneA k f1 f2 l3 n (lTx l4 (n + 1)) l5 (lTx l5 (n + 1)) (hTx l5 n) := rfl; rw [e]; simp only [cntS]
  omega
theorem lsizes (b : Nat) (l : List S41) (h : l.all (fitSt (fitB b)) = true) (n : Nat) (hn : n + b ≤ 20) : (lTx l n).size ≤ 190 * cntB l :=
 lines_size n (by omega) l (fun s hs => sizes b s (List.all_eq_true.1 h s hs) n hn)
theorem lst_app (a b : ByteArray) : lst (a ++ b) = lst a ++ lst b := by unfold lst; simp
theorem lst_blB (m : Nat) : lst (blB m) = List.replicate (2 * m) 32 := by unfold blB; rw [lst_bs]
theorem line_at (m : Nat) (parts : List ByteArray) : lineB (m : Int) parts = lst (blB m) ++ ((parts.map lst).flatten ++ [10]) := by
 unfold lineB; rw [lst_blB, Int.toNat_natCast]
theorem argsT_ok (K : Nat) (hK : ∀ e, cntE e ≤ 1000 → fitE e = true → exT K e = some (txt e)) : ∀ l : List S38, l.all okA = true → cntL l ≤ 1000 → argsT K l = some (l.map txt)
 | [], _, _ => rfl
 | x :: xs, h, hc => by
  rw [List.all_cons, Bool.and_eq_true] at h; simp only [cntL] at hc; show ((exT K x).bind fun x => (argsT K xs).bind fun xs => some (x :: xs)) = _; rw [hK x (by omega) (okA_open h.1).1, Option.bind_some, argsT_ok K hK xs h.2 (by omega)]
  rfl
theorem sB_ok (f : Int → S41 → Option (List UInt8)) (m : Nat) : ∀ l : List S41, (∀ s ∈ l, f (m : Int) s = some (lst (blB m) ++ lst (sTx s m))) → sB f (m : Int) l = some (lst (lTx l m))
 | [], _ => rfl
 | x :: xs, h => by
  show ((f (m : Int) x).bind fun a => (sB f (m : Int) xs).bind fun b => some (a ++ b)) = _; rw [h x (List.mem_cons_self ..), Option.bind_some, sB_ok f m xs (fun s hs => h s (List.mem_cons_of_mem _ hs)), Option.bind_some]; simp only [lTx, lst_app]
theorem sBx_ok (f : Int → S41 → Option (List UInt8)) (m : Nat) (l : List S41) (hl : cntB l ≤ 1000) (h : ∀ s ∈ l, f ((m + 1 : Nat) : Int) s = some (lst (blB (m + 1)) ++ lst (sTx s (m + 1)))) : sBx f ((m : Int) + 1) l = some (lst (lTx l (m + 1))) := by
 unfold sBx; have := len_cntB l; rw [if_pos (by omega), show ((m : Int) + 1) = ((m + 1 : Nat) : Int) by omega]
 exact sB_ok f (m + 1) l h
def WrC (w : (Int → S41 → Option (List UInt8)) × (Int → ByteArray → S41 → ByteArray → Option (List UInt8))) (d : Nat) : Prop :=
 (∀ (s : S41) (m : Nat), m + d ≤ 20 → fitSt (fitB d) s = true → cntS s ≤ 1000 → w.1 (m : Int) s = some (lst (blB m) ++ lst (sTx s m))) ∧
 (∀ (s : S41) (m : Nat) (ahead : ByteArray) (x : S38), s.f0 = 6 → s.f3 = [x] → m + d ≤ 20 → fitSt (fitB d) s = true → cntS s ≤ 1000 → w.2 (m : Int) ahead s (txt x) = some (lst (blB m) ++ (lst ahead ++ lst (sTx s m))))
theorem if_one {s : S41} {b : Nat} (h : fitSt (fitB b) s = true) (h6 : s.f0 = 6) : ∃ x, s.f3 = [x] ∧ okA x = true := by
 obtain ⟨hh, ha, _⟩ := fit_open h; obtain ⟨W, nm, hw, hW, _⟩ := head_kind hh; rw [h6] at hw; have e := (Prod.mk.inj (xsi hw)).1; obtain ⟨x, hx⟩ := List.length_eq_one_iff.1 (show s.f3.length = 1 from by rw [hW, ← e])
 rw [hx] at ha; exact ⟨x, hx, by simpa using ha⟩
theorem br_txt (K : Nat) (hK : ∀ e, cntE e ≤ 1000 → fitE e = true → exT K e = some (txt e)) (d : Nat) (w : (Int → S41 → Option (List UInt8)) × (Int → ByteArray → S41 → ByteArray → Option (List UInt8))) (hw : WrC w d)
  (s : S41) (m : Nat) (ahead : ByteArray) (x : S38) (h6 : s.f0 = 6) (h3 : s.f3 = [x]) (hm : m + (d + 1) ≤ 20) (hf : fitSt (fitB (d + 1)) s = true) (hc : cntS s ≤ 1000) :
  brF K w.1 w.2 (m : Int) ahead s (txt x) = some (lst (blB m) ++ (lst ahead ++ lst (sTx s m))) := by
 obtain ⟨hh, ha, hb, h4, h5⟩ := fit_open hf; rw [Nat.add_sub_cancel] at h4 h5; rw [List.all_eq_true] at h4 h5; obtain ⟨k, f1, f2, l3, l4, l5⟩ := s; dsimp only at *; subst h6 h3; simp only [cntS] at hc
 have mem_cnt : ∀ (l : List S41) (s : S41), s ∈ l → cntS s ≤ cntB l := by
  intro l
  induction l with
  | nil => intro s hs; cases hs
  | cons y ys ih =>
   intro s hs; simp only [cntB]; rcases List.mem_cons.1 hs with z | z
   ·subst z; omega
   ·have := ih s z; omega
 have hbody := sBx_ok w.1 m l4 (by omega) (fun s hs => hw.1 s (m + 1) (by omega) (h4 s hs) (by have := mem_cnt l4 s hs; omega)); have hT : sTx ⟨6, f1, f2, [x], l4, l5⟩ m = elsT l5 m (((((⟨#[105, 102, 32, 40]⟩ ++ txt x) ++ ⟨#[41, 32, 123, 10]⟩) ++ lTx l4 (m + 1)) ++ blB m) ++ ⟨#[125]⟩) (lTx l5 (m + 1)) (hTx l5 m) := rfl; have hl : lst (⟨#[105, 102, 32, 40]⟩ : ByteArray) = [105, 102, 32, 40] := rfl; have hl2 : lst (⟨#[41, 32, 123, 10]⟩ : ByteArray) = [41, 32, 123, 10] := rfl; have hl3 : lst (⟨#[41, 32, 123]⟩ : ByteArray) = [41, 32, 123] := rfl; have hl4 : lst (⟨#[125]⟩ : ByteArray) = [125] := rfl; have hl5 : lst (⟨#[32, 101, 108, 115, 101, 32]⟩ : ByteArray) = [32, 101, 108, 115, 101, 32] := rfl; have hl6 : lst (⟨#[125, 32, 101, 108, 115, 101, 32]⟩ : ByteArray) = [125, 32, 101, 108, 115, 101, 32] := rfl; have hl7 : lst (⟨#[10]⟩ : ByteArray) = [10] := rfl; have hl8 : lst (⟨#[125, 10]⟩ : ByteArray) = [125, 10] := rfl; have hl9 : lst (⟨#[32, 101, 108, 115, 101, 32, 123, 10]⟩ : ByteArray) = [32, 101, 108, 115, 101, 32, 123, 10] := rfl; have hl10 : lst (⟨#[125, 32, 101, 108, 115, 101, 32, 123]⟩ : ByteArray) = [125, 32, 101, 108, 115, 101, 32, 123] := rfl; unfold brF; dsimp only; rw [hbody, Option.bind_some, hT]; unfold elsT
 match l5, h5, hc with
 | [], h5, hc =>
  rw [if_neg (by simp), if_pos (by simp), if_pos (by simp)]; simp only [line_at, lst_app, hl, hl2, hl3, hl4, hl7, List.map_cons, List.map_nil, List.flatten_cons, List.flatten_nil, List.append_assoc, List.cons_append, List.nil_append, List.append_nil]
 | [y], h5, hc =>
  have hy := h5 y (List.mem_cons_self ..); simp only [cntB] at hc; by_cases hy6 : y.f0 = 6
  ·obtain ⟨x', hx', hok⟩ := if_one hy hy6
   have hr := hw.2 y m ⟨#[125, 32, 101, 108, 115, 101, 32]⟩ x' hy6 hx' (by omega) hy (by omega)
   have hcx : cntE x' ≤ 1000 := by
    have := cntS_eq y; rw [hx'] at this; simp only [cntL] at this
    omega
   rw [if_pos ⟨rfl, hy6⟩, show rd_T41 [y] 0 = y from rfl, if_neg (by rw [hx']; simp), hx', show rd_T38 [x'] 0 = x' from rfl, hK x' hcx (okA_open hok).1, Option.bind_some, hr, Option.bind_some, if_neg (by simp), if_pos ⟨rfl, hy6⟩]; simp only [line_at, lst_app, hTx, hl, hl2, hl3, hl4, hl5, hl6, List.map_cons, List.map_nil, List.flatten_cons, List.flatten_nil, List.append_assoc, List.cons_append, List.nil_append, List.append_nil]
  ·have hels := sBx_ok w.1 m [y] (by simp only [cntB]; omega) (fun s hs => hw.1 s (m + 1) (by omega) (h5 s hs) (by have := mem_cnt [y] s hs; simp only [cntB] at this; omega))
   rw [if_neg (fun z => hy6 z.2), if_neg (by simp), hels, Option.bind_some, if_neg (by simp), if_neg (fun z => hy6 z.2)]; simp only [line_at, lst_app, hl, hl2, hl3, hl4, hl8, hl9, hl10, List.map_cons, List.map_nil, List.flatten_cons, List.flatten_nil, List.append_assoc, List.cons_append, List.nil_append, List.append_nil]
 | y :: z :: q, h5, hc =>
  have hels := sBx_ok w.1 m (y :: z :: q) (by omega) (fun s hs => hw.1 s (m + 1) (by omega) (h5 s hs) (by have := mem_cnt (y :: z :: q) s hs; omega)); rw [if_neg (fun u => by simp at u), if_neg (by simp), hels, Option.bind_some, if_neg (by simp), if_neg (fun u => by simp at u)]
  simp only [line_at, lst_app, hl, hl2, hl3, hl4, hl8, hl9, hl10, List.map_cons, List.map_nil, List.flatten_cons, List.flatten_nil, List.append_assoc, List.cons_append, List.nil_append, List.append_nil]
theorem st_txt (K : Nat) (hK : ∀ e, cntE e ≤ 1000 → fitE e = true → exT K e = some (txt e)) (d : Nat) (f : Int → S41 → Option (List UInt8)) (br : Int → ByteArray → S41 → ByteArray → Option (List UInt8))
  (h7 : ∀ (s : S41) (m : Nat), s.f0 = 7 → m + d ≤ 20 → fitSt (fitB d) s = true → cntS s ≤ 1000 → sBx f ((m : Int) + 1) s.f4 = some (lst (lTx s.f4 (m + 1))))
  (h6 : ∀ (s : S41) (m : Nat) (ahead : ByteArray) (x : S38), s.f0 = 6 → s.f3 = [x] → m + d ≤ 20 → fitSt (fitB d) s = true → cntS s ≤ 1000 → br (m : Int) ahead s (txt x) = some (lst (blB m) ++ (lst ahead ++ lst (sTx s m))))
  (s : S41) (m : Nat) (hm : m + d ≤ 20) (hf : fitSt (fitB d) s = true) (hc : cntS s ≤ 1000) : stGw K f br (m : Int) s = some (lst (blB m) ++ lst (sTx s m)) := by
 have q7 := h7 s m; have q6 := h6 s m ⟨#[]⟩; obtain ⟨hh, ha, hb, h4, h5⟩ := fit_open hf; obtain ⟨W, nm, hw, hW, hnm, h5k⟩ := head_kind hh; have hcn : cntL s.f3 ≤ 1000 := by rw [cntS_eq] at hc; omega
 have hargs := argsT_ok K hK s.f3 ha hcn; obtain ⟨k, f1, f2, l3, l4, l5⟩ := s; dsimp only at *; have g1 : lst (⟨#[118, 97, 114, 32]⟩ : ByteArray) = [118, 97, 114, 32] := rfl; have g2 : lst (⟨#[32, 61, 32]⟩ : ByteArray) = [32, 61, 32] := rfl; have g3 : lst (⟨#[59]⟩ : ByteArray) = [59] := rfl; have g4 : lst (⟨#[59, 10]⟩ : ByteArray) = [59, 10] := rfl; have g5 : lst (⟨#[109, 91]⟩ : ByteArray) = [109, 91] := rfl; have g6 : lst (⟨#[93, 32, 61, 32]⟩ : ByteArray) = [93, 32, 61, 32] := rfl; have g7 : lst (⟨#[101, 109, 105, 116, 32]⟩ : ByteArray) = [101, 109, 105, 116, 32] := rfl; have g8 : lst (⟨#[102, 97, 105, 108, 32]⟩ : ByteArray) = [102, 97, 105, 108, 32] := rfl; have g9 : lst (⟨#[105, 110, 116, 111, 32]⟩ : ByteArray) = [105, 110, 116, 111, 32] := rfl; have g10 : lst (⟨#[32]⟩ : ByteArray) = [32] := rfl; have g11 : lst (⟨#[115, 116, 111, 112, 59]⟩ : ByteArray) = [115, 116, 111, 112, 59] := rfl; have g12 : lst (⟨#[115, 116, 111, 112, 59, 10]⟩ : ByteArray) = [115, 116, 111, 112, 59, 10] := rfl; have g13 : lst (⟨#[119, 104, 105, 108, 101, 32, 40]⟩ : ByteArray) = [119, 104, 105, 108, 101, 32, 40] := rfl; have g14 : lst (⟨#[41, 32, 123]⟩ : ByteArray) = [41, 32, 123] := rfl; have g15 : lst (⟨#[41, 32, 123, 10]⟩ : ByteArray) = [41, 32, 123, 10] := rfl; have g16 : lst (⟨#[125]⟩ : ByteArray) = [125] := rfl; have g17 : lst (⟨#[125, 10]⟩ : ByteArray) = [125, 10] := rfl; have g18 : lst (⟨#[]⟩ : ByteArray) = [] := rfl; have one : l3.length = 1 → ∃ x, l3 = [x] := fun h => List.length_eq_one_iff.1 h; rcases want_cases k with ⟨_, e⟩ | ⟨W', nm', e, _, hk⟩
 ·rw [e] at hw; cases hw
 ·rw [e] at hw
  obtain ⟨rfl, rfl⟩ := Prod.mk.inj (xsi hw); unfold stGw stF; dsimp only; rw [if_pos ⟨by omega, by omega, by omega⟩, hargs, Option.bind_some]
  rcases hk with ⟨rfl, e1, _⟩ | ⟨rfl, e1, _⟩ | ⟨rfl, e1, _⟩ | ⟨rfl, e1, _⟩ | ⟨rfl, e1, _⟩ | ⟨rfl, e1, _⟩ | ⟨rfl, e1, _⟩ | ⟨rfl, e1, _⟩ | ⟨rfl, e1, _⟩
  ·obtain ⟨x, rfl⟩ := one (by omega)
   rw [if_pos rfl, show sTx ⟨1, f1, f2, [x], l4, l5⟩ m = (((⟨#[118, 97, 114, 32]⟩ ++ f1) ++ ⟨#[32, 61, 32]⟩) ++ txt x) ++ ⟨#[59, 10]⟩ from rfl]; show some (lineB (m : Int) _) = _; simp only [line_at, lst_app, g1, g2, g3, g4, List.map_cons, List.map_nil, List.flatten_cons, List.flatten_nil, List.append_assoc, List.cons_append, List.nil_append, List.append_nil]
  ·obtain ⟨x, rfl⟩ := one (by omega)
   rw [if_neg (by decide), if_pos rfl, show sTx ⟨2, f1, f2, [x], l4, l5⟩ m = ((f1 ++ ⟨#[32, 61, 32]⟩) ++ txt x) ++ ⟨#[59, 10]⟩ from rfl]; show some (lineB (m : Int) _) = _; simp only [line_at, lst_app, g1, g2, g3, g4, List.map_cons, List.map_nil, List.flatten_cons, List.flatten_nil, List.append_assoc, List.cons_append, List.nil_append, List.append_nil]
  ·obtain ⟨x, y, rfl⟩ := two_of l3 (by omega)
   rw [if_neg (by decide), if_neg (by decide), if_pos rfl, show sTx ⟨3, f1, f2, [x, y], l4, l5⟩ m = (((⟨#[109, 91]⟩ ++ txt x) ++ ⟨#[93, 32, 61, 32]⟩) ++ txt y) ++ ⟨#[59, 10]⟩ from rfl]; show some (lineB (m : Int) _) = _; simp only [line_at, lst_app, g3, g4, g5, g6, List.map_cons, List.map_nil, List.flatten_cons, List.flatten_nil, List.append_assoc, List.cons_append, List.nil_append, List.append_nil]
  ·obtain ⟨x, rfl⟩ := one (by omega)
   rw [if_neg (by decide), if_neg (by decide), if_neg (by decide), if_pos rfl, show sTx ⟨4, f1, f2, [x], l4, l5⟩ m = (⟨#[101, 109, 105, 116, 32]⟩ ++ txt x) ++ ⟨#[59, 10]⟩ from rfl]; show some (lineB (m : Int) _) = _; simp only [line_at, lst_app, g3, g4, g7, List.map_cons, List.map_nil, List.flatten_cons, List.flatten_nil, List.append_assoc, List.cons_append, List.nil_append, List.append_nil]
  ·obtain ⟨x, rfl⟩ := one (by omega)
   have hnt : num_Text.f f2 = some (bs (textB f2)) := by unfold num_Text.f; rw [if_neg (by have := h5k rfl; omega)]
   rw [if_neg (by decide), if_neg (by decide), if_neg (by decide), if_neg (by decide), if_pos rfl, hnt, Option.bind_some, show sTx ⟨5, f1, f2, [x], l4, l5⟩ m = (((⟨#[105, 110, 116, 111, 32]⟩ ++ bs (textB f2)) ++ ⟨#[32]⟩) ++ txt x) ++ ⟨#[59, 10]⟩ from rfl]; show some (lineB (m : Int) _) = _; simp only [line_at, lst_app, g3, g4, g9, g10, List.map_cons, List.map_nil, List.flatten_cons, List.flatten_nil, List.append_assoc, List.cons_append, List.nil_append, List.append_nil]
  ·obtain ⟨x, rfl⟩ := one (by omega)
   rw [if_neg (by decide), if_neg (by decide), if_neg (by decide), if_neg (by decide), if_neg (by decide), if_neg (by decide), if_neg (by decide), if_neg (by decide), if_pos rfl]; show br (m : Int) ⟨#[]⟩ _ (txt x) = _; rw [q6 x rfl rfl hm hf hc, g18, List.nil_append]
  ·obtain ⟨x, rfl⟩ := one (by omega)
   rw [if_neg (by decide), if_neg (by decide), if_neg (by decide), if_neg (by decide), if_neg (by decide), if_neg (by decide), if_neg (by decide), if_pos rfl, show sTx ⟨7, f1, f2, [x], l4, l5⟩ m = ((((⟨#[119, 104, 105, 108, 101, 32, 40]⟩ ++ txt x) ++ ⟨#[41, 32, 123, 10]⟩) ++ lTx l4 (m + 1)) ++ blB m) ++ ⟨#[125, 10]⟩ from rfl]; show ((sBx f ((m : Int) + 1) l4).bind fun b => some (lineB (m : Int) _ ++ (b ++ lineB (m : Int) _))) = _; rw [q7 rfl hm hf hc, Option.bind_some]; simp only [line_at, lst_app, g13, g14, g15, g16, g17, List.map_cons, List.map_nil, List.flatten_cons, List.flatten_nil, List.append_assoc, List.cons_append, List.nil_append, List.append_nil]
  ·obtain ⟨x, rfl⟩ := one (by omega)
   rw [if_neg (by decide), if_neg (by decide), if_neg (by decide), if_neg (by decide), if_neg (by decide), if_pos rfl, show sTx ⟨8, f1, f2, [x], l4, l5⟩ m = (⟨#[102, 97, 105, 108, 32]⟩ ++ txt x) ++ ⟨#[59, 10]⟩ from rfl]; show some (lineB (m : Int) _) = _; simp only [line_at, lst_app, g3, g4, g8, List.map_cons, List.map_nil, List.flatten_cons, List.flatten_nil, List.append_assoc, List.cons_append, List.nil_append, List.append_nil]
  ·rw [if_neg (by decide), if_neg (by decide), if_neg (by decide), if_neg (by decide), if_neg (by decide), if_neg (by decide), if_pos rfl, show sTx ⟨9, f1, f2, l3, l4, l5⟩ m = ⟨#[115, 116, 111, 112, 59, 10]⟩ from rfl]
   simp only [line_at, lst_app, g11, g12, List.map_cons, List.map_nil, List.flatten_cons, List.flatten_nil, List.append_assoc, List.cons_append, List.nil_append, List.append_nil]
theorem wr_ok (K : Nat) (hK : ∀ e, cntE e ≤ 1000 → fitE e = true → exT K e = some (txt e)) : ∀ d, WrC (wG K (d + 1)) d
 | 0 => by
  have no6 : ∀ (s : S41), (s.f0 = 6 ∨ s.f0 = 7) → fitSt (fitB 0) s = true → False := by
   intro s h6 hf; obtain ⟨_, _, hb, _⟩ := fit_open hf; have := hb (by unfold loopsB; rcases h6 with z | z <;> rw [z] <;> rfl)
   omega
  refine ⟨fun s m hm hf hc => st_txt K hK 0 (wG K 0).1 (brF K (wG K 0).1 (wG K 0).2) (fun s m h7 hm hf hc => (no6 s (.inr h7) hf).elim) (fun s m ahead x h6 h3 hm hf hc => (no6 s (.inl h6) hf).elim) s m hm hf hc, fun s m ahead x h6 h3 hm hf hc => (no6 s (.inl h6) hf).elim⟩
 | d + 1 => by
  have ih := wr_ok K hK d
  have hbr : ∀ (s : S41) (m : Nat) (ahead : ByteArray) (x : S38), s.f0 = 6 → s.f3 = [x] → m + (d + 1) ≤ 20 → fitSt (fitB (d + 1)) s = true → cntS s ≤ 1000 → brF K (wG K (d + 1)).1 (wG K (d + 1)).2 (m : Int) ahead s (txt x) = some (lst (blB m) ++ (lst ahead ++ lst (sTx s m))) :=
   fun s m ahead x h6 h3 hm hf hc => br_txt K hK d (wG K (d + 1)) ih s m ahead x h6 h3 hm hf hc
  refine ⟨fun s m hm hf hc => st_txt K hK (d + 1) (wG K (d + 1)).1 (brF K (wG K (d + 1)).1 (wG K (d + 1)).2) (fun s m h7 hm hf hc => ?_) hbr s m hm hf hc, hbr⟩
  obtain ⟨hh, ha, hb, h4, h5⟩ := fit_open hf; rw [Nat.add_sub_cancel, List.all_eq_true] at h4; rw [cntS_eq] at hc
  have mem_cnt : ∀ (l : List S41) (s : S41), s ∈ l → cntS s ≤ cntB l := by
   intro l
   induction l with
   | nil => intro s hs; cases hs
   | cons y ys ih =>
    intro s hs; simp only [cntB]; rcases List.mem_cons.1 hs with z | z
    ·subst z; omega
    ·have := ih s z; omega
  exact sBx_ok (wG K (d + 1)).1 m s.f4 (by omega) (fun x hx => ih.1 x (m + 1) (by omega) (h4 x hx) (by have := mem_cnt s.f4 x hx; omega))
theorem wr_text (K : Nat) (hK : ∀ e, cntE e ≤ 1000 → fitE e = true → exT K e = some (txt e)) (l : List S41) (h : rightB l = true) : sB (wG K 13).1 0 l = some (lst (lTx l 0)) := by
 rw [rightB_eq, Bool.and_eq_true, decide_eq_true_eq] at h; have hall : ∀ s ∈ l, fitSt (fitB 12) s = true := List.all_eq_true.1 h.1; refine sB_ok (wG K 13).1 0 l fun s hs => (wr_ok K hK 12).1 s 0 (by omega) (hall s hs) ?_
 have mem_cnt : ∀ (l : List S41) (s : S41), s ∈ l → cntS s ≤ cntB l := by
  intro l
  induction l with
  | nil => intro s hs; cases hs
  | cons y ys ih =>
   intro s hs; simp only [cntB]; rcases List.mem_cons.1 hs with z | z
   ·subst z; omega
   ·have := ih s z; omega
 have := mem_cnt l s hs
 omega
attribute [local go_sem] max2_int min2_int max_two min_two max_three min_three max_four min_four
def TxtSays (l : List S41) (s : ByteArray) (er : Int) : Prop :=
 (rightB l = false ∧ s = ⟨#[]⟩ ∧ er = 43) ∨ (rightB l = true ∧ 8192 < (lTx l 0).size ∧ s = ⟨#[]⟩ ∧ er = 30) ∨ (rightB l = true ∧ ¬ 8192 < (lTx l 0).size ∧ s = lTx l 0 ∧ er = 0)
theorem lst_size (x : ByteArray) : (lst x).length = x.size := lst_len x
theorem right_open {l : List S41} (h : rightB l = true) : l.all (fitSt (fitB 12)) = true ∧ cntB l ≤ 600 := by
 rw [rightB_eq, Bool.and_eq_true, decide_eq_true_eq] at h; exact h
theorem text_L (l : List S41) (A : Option Addr) (c : Nat) (w : World) (hC : Kd.C k41 w A l.length l) (hc : l.length ≤ c) (s : ByteArray) (er : Int) (h : TxtSays l s er) :
  Calls Try.prog 16 #[.slice A l.length c] w fun r w' => r = .returned (.tuple #[.string s, .int .i64 er]) ∧ Below w.heap.size w w' := by
 have big : rightB l = true → ((8192 < (lst (lTx l 0)).length ∧ s = ⟨#[]⟩ ∧ er = 30) ∨ (¬ 8192 < (lst (lTx l 0)).length ∧ s = bs (lst (lTx l 0)) ∧ er = 0)) → Calls Try.prog 16 #[.slice A l.length c] w (TPost s er w) := by
  intro hr hres; obtain ⟨h1, h2⟩ := right_open hr; obtain ⟨K, hK⟩ : ∃ K : Nat, ∀ e, cntE e ≤ 1000 → fitE e = true → exT K e = some (txt e) := ⟨70000, fun e h1 h2 => ex_txt_at e (by omega) h2 70000 (by omega)⟩; have hs := lsizes 12 l h1 0 (by omega); have hl := len_cntB l; exact text_calls 13 (by omega) (wG K 13).1 (wG_ok K 13).1 l l.length A c (lst (lTx l 0)) w (wr_text K hK l hr) rfl hC hc (by omega) (by rw [lst_size]; omega) hr s er hres
 rcases h with ⟨h1, rfl, rfl⟩ | ⟨h1, h2, rfl, rfl⟩ | ⟨h1, h2, rfl, rfl⟩
 ·exact text_bad l l.length A c w rfl hC hc h1
 ·exact big h1 (.inl ⟨by rw [lst_size]; exact h2, rfl, rfl⟩)
 ·exact big h1 (.inr ⟨by rw [lst_size]; exact h2, (bs_lst _).symm, rfl⟩)
theorem alive_W (W : World) : Calls Try.prog 18 #[] W fun r w' => r = .returned (.bool true) ∧ Below W.heap.size W w' := alive_calls W
mutual
def eqE : S38 → S38 → Bool
 | ⟨a, b, c, d, l⟩, ⟨a', b', c', d', l'⟩ => (a == a') && ((b == b') && ((c.toList == c'.toList) && ((d == d') && eqEs l l')))
def eqEs : List S38 → List S38 → Bool
 | [], [] => true
 | x :: xs, y :: ys => eqE x y && eqEs xs ys
 | _, _ => false
end
mutual
def eqS : S41 → S41 → Bool
 | ⟨a, b, c, e, l, m⟩, ⟨a', b', c', e', l', m'⟩ => (a == a') && ((b.toList == b'.toList) && ((c == c') && (eqEs e e' && (eqSs l l' && eqSs m m'))))
def eqSs : List S41 → List S41 → Bool
 | [], [] => true
 | x :: xs, y :: ys => eqS x y && eqSs xs ys
 | _, _ => false
end
theorem eqE_eq (x y : S38) : eqE x y = ((x.f0 == y.f0) && ((x.f1 == y.f1) && ((x.f2.toList == y.f2.toList) && ((x.f3 == y.f3) && eqEs x.f4 y.f4)))) := by
 obtain ⟨a, b, c, d, l⟩ := x; obtain ⟨a', b', c', d', l'⟩ := y
 rfl
theorem eqS_eq (x y : S41) : eqS x y = ((x.f0 == y.f0) && ((x.f1.toList == y.f1.toList) && ((x.f2 == y.f2) && (eqEs x.f3 y.f3 && (eqSs x.f4 y.f4 && eqSs x.f5 y.f5))))) := by
 obtain ⟨a, b, c, d, l, m⟩ := x; obtain ⟨a', b', c', d', l', m'⟩ := y
 rfl
theorem eqEs_len : ∀ xs ys : List S38, xs.length ≠ ys.length → eqEs xs ys = false
 | [], [], h => absurd rfl h
 | [], _ :: _, _ => rfl
 | _ :: _, [], _ => rfl
 | x :: xs, y :: ys, h => by rw [eqEs, eqEs_len xs ys (fun e => h (by simp [e])), Bool.and_false]
theorem eqSs_len : ∀ xs ys : List S41, xs.length ≠ ys.length → eqSs xs ys = false
 | [], [], h => absurd rfl h
 | [], _ :: _, _ => rfl
 | _ :: _, [], _ => rfl
 | x :: xs, y :: ys, h => by rw [eqSs, eqSs_len xs ys (fun e => h (by simp [e])), Bool.and_false]
mutual
theorem eqE_refl : ∀ x : S38, eqE x x = true
 | ⟨a, b, c, d, l⟩ => by rw [eqE, eqEs_refl l]; simp
theorem eqEs_refl : ∀ xs : List S38, eqEs xs xs = true
 | [] => rfl
 | x :: xs => by rw [eqEs, eqE_refl x, eqEs_refl xs]; rfl
end
mutual
theorem eqS_refl : ∀ x : S41, eqS x x = true
 | ⟨a, b, c, e, l, m⟩ => by rw [eqS, eqEs_refl e, eqSs_refl l, eqSs_refl m]; simp
theorem eqSs_refl : ∀ xs : List S41, eqSs xs xs = true
 | [] => rfl
 | x :: xs => by rw [eqSs, eqS_refl x, eqSs_refl xs]; rfl
end
theorem eqEs_end {xs ys : List S38} {i : Nat} (hx : xs.length ≤ i) (hy : ys.length ≤ i) : eqEs (xs.drop i) (ys.drop i) = true := by
 rw [List.drop_eq_nil_of_le hx, List.drop_eq_nil_of_le hy]; rfl
theorem eqSs_end {xs ys : List S41} {i : Nat} (hx : xs.length ≤ i) (hy : ys.length ≤ i) : eqSs (xs.drop i) (ys.drop i) = true := by
 rw [List.drop_eq_nil_of_le hx, List.drop_eq_nil_of_le hy]; rfl
theorem rd38_get (xs : List S38) (i : Nat) (h : i < xs.length) : rd_T38 xs (i : Int) = xs[i] := by
 unfold rd_T38; rw [Int.toNat_natCast, List.getD_eq_getElem?_getD, List.getElem?_eq_getElem h]; rfl
theorem rd41_get (xs : List S41) (i : Nat) (h : i < xs.length) : rd_T41 xs (i : Int) = xs[i] := by
 unfold rd_T41; rw [Int.toNat_natCast, List.getD_eq_getElem?_getD, List.getElem?_eq_getElem h]; rfl
theorem eqEs_drop {xs ys : List S38} {i : Nat} (hx : i < xs.length) (hy : i < ys.length) : eqEs (xs.drop i) (ys.drop i) = (eqE (rd_T38 xs (i : Int)) (rd_T38 ys (i : Int)) && eqEs (xs.drop (i + 1)) (ys.drop (i + 1))) := by
 rw [List.drop_eq_getElem_cons hx, List.drop_eq_getElem_cons hy, eqEs, rd38_get xs i hx, rd38_get ys i hy]
theorem eqSs_drop {xs ys : List S41} {i : Nat} (hx : i < xs.length) (hy : i < ys.length) : eqSs (xs.drop i) (ys.drop i) = (eqS (rd_T41 xs (i : Int)) (rd_T41 ys (i : Int)) && eqSs (xs.drop (i + 1)) (ys.drop (i + 1))) := by
 rw [List.drop_eq_getElem_cons hx, List.drop_eq_getElem_cons hy, eqSs, rd41_get xs i hx, rd41_get ys i hy]
theorem cntE_f4 (x : S38) : cntL x.f4 < cntE x := by
 obtain ⟨a, b, c, d, l⟩ := x; simp only [cntE]; omega
theorem cntL_mem : ∀ (xs : List S38) (x : S38), x ∈ xs → cntE x ≤ cntL xs
 | y :: ys, x, h => by
  rw [cntL]; rcases List.mem_cons.1 h with rfl | h
  ·omega
  ·have := cntL_mem ys x h; omega
theorem cntL_rd (xs : List S38) (i : Nat) (h : i < xs.length) : cntL (rd_T38 xs (i : Int)).f4 < cntL xs := by
 rw [rd38_get xs i h]; exact Nat.lt_of_lt_of_le (cntE_f4 _) (cntL_mem xs _ (List.getElem_mem h))
theorem cntB_mem : ∀ (xs : List S41) (x : S41), x ∈ xs → cntS x < cntB xs
 | y :: ys, x, h => by
  rw [cntB]; rcases List.mem_cons.1 h with rfl | h
  ·omega
  ·have := cntB_mem ys x h; omega
theorem cntB_rd (xs : List S41) (i : Nat) (h : i < xs.length) : cntL (rd_T41 xs (i : Int)).f3 + (cntB (rd_T41 xs (i : Int)).f4 + cntB (rd_T41 xs (i : Int)).f5) < cntB xs := by
 rw [rd41_get xs i h, ← cntS_eq]; exact cntB_mem xs _ (List.getElem_mem h)
theorem eqEs_dropI {xs ys : List S38} {j : Int} (h0 : 0 ≤ j) (hx : j < xs.length) (hy : j < ys.length) : eqEs (xs.drop j.toNat) (ys.drop j.toNat) = (eqE (rd_T38 xs j) (rd_T38 ys j) && eqEs (xs.drop (j + 1).toNat) (ys.drop (j + 1).toNat)) := by
 obtain ⟨i, rfl⟩ := Int.eq_ofNat_of_zero_le h0; exact eqEs_drop (by omega) (by omega)
theorem cntL_rdI (xs : List S38) (j : Int) (h0 : 0 ≤ j) (h : j < xs.length) : cntL (rd_T38 xs j).f4 < cntL xs := by
 obtain ⟨i, rfl⟩ := Int.eq_ofNat_of_zero_le h0; exact cntL_rd xs i (by omega)
def EqC (n : Nat) : Prop := ∀ (xs ys : List S38) (A : Option Addr) (c : Nat) (B : Option Addr) (d : Nat) (r : Bool) (w : World), cntL xs < n → Kd.C k38 w A xs.length xs → Kd.C k38 w B ys.length ys → eqEs xs ys = r →
 Calls Try.prog 50 #[.slice A xs.length c, .slice B ys.length d] w fun e w' => e = .returned (.bool r) ∧ Drawn0 w w'
theorem EqC.use {n : Nat} (h : EqC n) (xs ys : List S38) (A : Option Addr) (c : Nat) (B : Option Addr) (d : Nat) (r : Bool) (w : World) (h0 : cntL xs < n) (h1 : Kd.C k38 w A xs.length xs) (h2 : Kd.C k38 w B ys.length ys) (h3 : eqEs xs ys = r) :
 Calls Try.prog 50 #[.slice A xs.length c, .slice B ys.length d] w fun e w' => e = .returned (.bool r) ∧ Drawn0 w w' := h xs ys A c B d r w h0 h1 h2 h3
theorem fivq {w : World} {g : Nat} {t : TypeId} {a0 a1 a2 a3 a4 : Value} (h : w.heap[g]? = some (.cells #[a0, a1, a2, a3, a4] t (0, 0))) :
  w.cell? ⟨g, 0, none⟩ = some a0 ∧ w.cell? ⟨g, 1, none⟩ = some a1 ∧ w.cell? ⟨g, 2, none⟩ = some a2 ∧ w.cell? ⟨g, 3, none⟩ = some a3 ∧ w.cell? ⟨g, 4, none⟩ = some a4 :=
 ⟨xbc h 0, xbc h 1, xbc h 2, xbc h 3, xbc h 4⟩
def AqC (n : Nat) : Prop := ∀ (xs ys : List S38) (A : Option Addr) (c : Nat) (B : Option Addr) (d : Nat) (r : Bool) (w : World), cntL xs < n → Kd.C k38 w A xs.length xs → Kd.C k38 w B ys.length ys → eqEs xs ys = r →
 Calls Try.prog 54 #[.slice A xs.length c, .slice B ys.length d] w fun e w' => e = .returned (.bool r) ∧ Below w.heap.size w w'
theorem AqC.use {n : Nat} (h : AqC n) (xs ys : List S38) (A : Option Addr) (c : Nat) (B : Option Addr) (d : Nat) (r : Bool) (w : World) (h0 : cntL xs < n) (h1 : Kd.C k38 w A xs.length xs) (h2 : Kd.C k38 w B ys.length ys) (h3 : eqEs xs ys = r) :
 Calls Try.prog 54 #[.slice A xs.length c, .slice B ys.length d] w fun e w' => e = .returned (.bool r) ∧ Below w.heap.size w w' := h xs ys A c B d r w h0 h1 h2 h3
theorem C_bb {α : Type} {d : Kd α} {w w1 : World} {A : Option Addr} {n : Nat} {xs : List α} (h : Kd.C d w A n xs) (k : Below w.heap.size w w1) : Kd.C d w1 A n xs := Kd.C_below h k
def EqRelC (xs ys : List S38) (r : Bool) (w : World) (kq : Nat) (v15 : Value) (wq : World) : Prop :=
 ∃ j : Int, v15 = .int .i64 j ∧ 0 ≤ j ∧ j ≤ xs.length ∧ (xs.length : Int) < kq + j ∧ Aside0 (eqEs (xs.drop j.toNat) (ys.drop j.toNat) = r) ∧ Aside0 (Below w.heap.size w wq)
theorem all_step (n : Nat) (IH : AqC n) : AqC (n + 1) := by
 intro xs ys A c B d r w hcnt hA hB hr; have hu38 := Try.underlying38; have hu36 := Try.underlying36; by_cases hl : xs.length = ys.length
 rotate_left
 ·have h' : ((xs.length : Int) != (ys.length : Int)) = true := bne_iff_ne.2 (by omega)
  rw [eqEs_len xs ys hl] at hr; subst hr; clear IH hcnt hA hB hl
  go_enter Try.func54, Try.ntmps54
  go_wp2
  exact ⟨rfl, _, z_161, rfl, xbr _ _⟩
 have h' : ((xs.length : Int) != (ys.length : Int)) = false := bne_eq_false_iff_eq.2 (by omega); have HM := A_0 (Kd.C_max hA); have HA := A_0 hA; have HB := A_0 hB; have HIH := A_0 IH; have HN := A_0 hcnt; have HR := A_0 hr; have HL := A_0 hl; clear hA hB IH hcnt hr hl
 go_enter Try.func54, Try.ntmps54
 go_wp2_with fail
 go_loopg [15] (xs.length + 1) (fun kq v15 wq => EqRelC xs ys r w kq v15 wq)
 case atStart => exact ⟨0, rfl, by omega, by omega, by omega, HR, ⟨xbr _ _⟩⟩
 case round =>
  clear HR; unfold EqRelC at hrel; obtain ⟨j, rfl, hj0, hj1, hjk, HR, HD⟩ := hrel; cases gk with
  | zero => omega
  | succ k1 =>
  by_cases hi : j < xs.length
  rotate_left
  ·have hi' : decide (j < (xs.length : Int)) = false := xdf hi
   have hr := HR.out; rw [eqEs_end (by omega) (by have := HL.out; omega)] at hr; subst hr; clear HR
   go_wp2
   exact z_162
  have p0 := eq_true hj0; have p1 := eq_true hi; have p2 := eq_true (show j < (ys.length : Int) by have := HL.out; omega)
  obtain ⟨ad, A4, c4, rfl, x0, x1, x2, x3, x4, l4, g4⟩ := at_T38 (C_bb HA.out HD.out) j hj0 hi; have hr := HR.out; rw [eqEs_dropI hj0 hi (by have := HL.out; omega), eqE_eq] at hr; have HR2 := Lib.hid hr; have HC := A_0 (show cntL (rd_T38 xs j).f4 < n by have := cntL_rdI xs j hj0 hi; have := HN.out; omega)
  have G := A_0 g4; clear HR hr g4 l4; generalize rd_T38 xs j = x at *; obtain ⟨a, b, t, f, l⟩ := x; dsimp only at x0 x1 x2 x3 x4 HR2 HC G; go_upto_region 6 with fail; generalize hq : World.alloc wr (Obj.cells #[Value.int IntKind.i64 a, Value.int IntKind.i64 b, Value.string t, Value.int IntKind.i64 f, Value.slice A4 l.length c4] 38) = w1; have hb1 : Below wr.heap.size wr w1 := z_163; have n0_ := A_0 (show w1.heap[wr.heap.size]? = some (b38 a b t f A4 l.length c4) by rw [← hq]; exact blk_new _ _)
  replace HD := A_0 (xbs HD.out hb1); replace G := A_0 (C_bb G.out hb1); have BX := n0_; clear x0 x1 x2 x3 x4 hq hb1 n0_; generalize wr.heap.size = xb at *; obtain ⟨ad', A4', c4', rfl, y0, y1, y2, y3, y4, l4', g4'⟩ := at_T38 (C_bb HB.out HD.out) j hj0 (by have := HL.out; omega); have G' := A_0 g4'; clear g4' l4'; generalize rd_T38 ys j = y at *; obtain ⟨a', b', t', f', l'⟩ := y; dsimp only at y0 y1 y2 y3 y4 HR2 G'; go_upto_region 7 with fail; generalize hq : World.alloc w1 (Obj.cells #[Value.int IntKind.i64 a', Value.int IntKind.i64 b', Value.string t', Value.int IntKind.i64 f', Value.slice A4' l'.length c4'] 38) = w2; have hb1 : Below w1.heap.size w1 w2 := z_163; have n0_ := A_0 (show w2.heap[w1.heap.size]? = some (b38 a' b' t' f' A4' l'.length c4') by rw [← hq]; exact blk_new _ _)
  replace HD := A_0 (xbs HD.out hb1); replace G := A_0 (C_bb G.out hb1); replace G' := A_0 (C_bb G'.out hb1); replace BX := A_0 (blk_below BX.out hb1); have BY := n0_; clear y0 y1 y2 y3 y4 hq hb1 n0_; generalize w1.heap.size = yb at *; obtain ⟨x0, x1, x2, x3, x4⟩ := fivq BX.out; obtain ⟨y0, y1, y2, y3, y4⟩ := fivq BY.out; cases e0 : (a != a') with
  | true =>
   have hr := HR2.out; have k9 : (a == a') = false := by rw [← Bool.not_eq_true']; exact e0
   rw [k9] at hr; simp only [Bool.false_and, Bool.and_false] at hr; subst hr; clear HR2
   go_wp2
   exact z_162
  | false =>
  have kk0 : (a == a') = true := by rw [← Bool.not_eq_false']; exact e0
  cases e1 : (b != b') with
  | true =>
   have hr := HR2.out; have k9 : (b == b') = false := by rw [← Bool.not_eq_true']; exact e1
   rw [k9] at hr; simp only [Bool.false_and, Bool.and_false] at hr; subst hr; clear HR2
   go_wp2
   exact z_162
  | false =>
  have kk1 : (b == b') = true := by rw [← Bool.not_eq_false']; exact e1
  cases e2 : (t.toList != t'.toList) with
  | true =>
   have hr := HR2.out; have k9 : (t.toList == t'.toList) = false := by rw [← Bool.not_eq_true']; exact e2
   rw [k9] at hr; simp only [Bool.false_and, Bool.and_false] at hr; subst hr; clear HR2
   go_wp2
   exact z_162
  | false =>
  have kk2 : (t.toList == t'.toList) = true := by rw [← Bool.not_eq_false']; exact e2
  cases e3 : (f != f') with
  | true =>
   have hr := HR2.out; have k9 : (f == f') = false := by rw [← Bool.not_eq_true']; exact e3
   rw [k9] at hr; simp only [Bool.false_and, Bool.and_false] at hr; subst hr; clear HR2
   go_wp2
   exact z_162
  | false =>
  have kk3 : (f == f') = true := by rw [← Bool.not_eq_false']; exact e3
  have hr := HR2.out; rw [kk0, kk1, kk2, kk3] at hr; simp only [Bool.true_and] at hr; have HR3 := Lib.hid hr; clear HR2 hr; have hc := A_0 (HIH.out.use l l' A4 c4 A4' c4' _ w2 HC.out G.out G'.out rfl); clear HIH HC G G'; have HH := Lib.hid (rfl : eqEs l l' = eqEs l l'); generalize hb : eqEs l l' = b9 at *
  go_wp2_with fail
  (with_reducible refine hc.out.mono ?_)
  rintro e w3 ⟨rfl, hb3⟩; replace HD := A_0 (xbs HD.out hb3); clear hc HH hb hb3 BX BY; clear e0 e1 e2 e3 kk0 kk1 kk2 kk3 x0 x1 x2 x3 x4 y0 y1 y2 y3 y4; have hr := HR3.out; clear HR3; cases b9 with
  | false =>
   rw [Bool.false_and] at hr; subst hr
   go_wp2
   exact z_162
  | true =>
   rw [Bool.true_and] at hr; have HR := A_0 hr; clear hr
   go_wp2
   go_roundg k1
   case measure => omega
   case rel =>
    have hw : wrap64 (j + 1) = j + 1 := by have := HM.out; clear hjk; unfold wrap64; omega
    exact ⟨j + 1, by rw [hw], by omega, by omega, by omega, HR, HD⟩
theorem all_ok : ∀ n, AqC n
 | 0 => fun xs ys A c B d r w h => absurd h (Nat.not_lt_zero _)
 | n + 1 => all_step n (all_ok n)
theorem all_L (xs ys : List S38) (A : Option Addr) (c : Nat) (B : Option Addr) (d : Nat) (r : Bool) (w : World) (h1 : Kd.C k38 w A xs.length xs) (h2 : Kd.C k38 w B ys.length ys) (h3 : eqEs xs ys = r) :
 Calls Try.prog 54 #[.slice A xs.length c, .slice B ys.length d] w fun e w' => e = .returned (.bool r) ∧ Below w.heap.size w w' := all_ok _ xs ys A c B d r w (Nat.lt_succ_self _) h1 h2 h3
theorem eqSs_dropJ {xs ys : List S41} {j : Int} (h0 : 0 ≤ j) (hx : j < xs.length) (hy : j < ys.length) : eqSs (xs.drop j.toNat) (ys.drop j.toNat) = (eqS (rd_T41 xs j) (rd_T41 ys j) && eqSs (xs.drop (j + 1).toNat) (ys.drop (j + 1).toNat)) := by
 obtain ⟨i, rfl⟩ := Int.eq_ofNat_of_zero_le h0; exact eqSs_drop (by omega) (by omega)
theorem cntB_rdJ (xs : List S41) (j : Int) (h0 : 0 ≤ j) (h : j < xs.length) : cntL (rd_T41 xs j).f3 + (cntB (rd_T41 xs j).f4 + cntB (rd_T41 xs j).f5) < cntB xs := by
 obtain ⟨i, rfl⟩ := Int.eq_ofNat_of_zero_le h0; exact cntB_rd xs i (by omega)
theorem sixq {w : World} {g : Nat} {t : TypeId} {a0 a1 a2 a3 a4 a5 : Value} (h : w.heap[g]? = some (.cells #[a0, a1, a2, a3, a4, a5] t (0, 0))) :
  w.cell? ⟨g, 0, none⟩ = some a0 ∧ w.cell? ⟨g, 1, none⟩ = some a1 ∧ w.cell? ⟨g, 2, none⟩ = some a2 ∧ w.cell? ⟨g, 3, none⟩ = some a3 ∧ w.cell? ⟨g, 4, none⟩ = some a4 ∧ w.cell? ⟨g, 5, none⟩ = some a5 :=
 ⟨xbc h 0, xbc h 1, xbc h 2, xbc h 3, xbc h 4, xbc h 5⟩
def BqC (n : Nat) : Prop := ∀ (xs ys : List S41) (A : Option Addr) (c : Nat) (B : Option Addr) (d : Nat) (r : Bool) (w : World), cntB xs < n → Kd.C k41 w A xs.length xs → Kd.C k41 w B ys.length ys → eqSs xs ys = r →
 Calls Try.prog 33 #[.slice A xs.length c, .slice B ys.length d] w fun e w' => e = .returned (.bool r) ∧ Below w.heap.size w w'
theorem BqC.use {n : Nat} (h : BqC n) (xs ys : List S41) (A : Option Addr) (c : Nat) (B : Option Addr) (d : Nat) (r : Bool) (w : World) (h0 : cntB xs < n) (h1 : Kd.C k41 w A xs.length xs) (h2 : Kd.C k41 w B ys.length ys) (h3 : eqSs xs ys = r) :
 Calls Try.prog 33 #[.slice A xs.length c, .slice B ys.length d] w fun e w' => e = .returned (.bool r) ∧ Below w.heap.size w w' := h xs ys A c B d r w h0 h1 h2 h3
def EqRelD (xs ys : List S41) (r : Bool) (w : World) (kq : Nat) (v15 : Value) (wq : World) : Prop :=
 ∃ j : Int, v15 = .int .i64 j ∧ 0 ≤ j ∧ j ≤ xs.length ∧ (xs.length : Int) < kq + j ∧ Aside0 (eqSs (xs.drop j.toNat) (ys.drop j.toNat) = r) ∧ Aside0 (Below w.heap.size w wq)
theorem same_step (n : Nat) (IH : BqC n) : BqC (n + 1) := by
 intro xs ys A c B d r w hcnt hA hB hr; have hu41 := Try.underlying41; have hu22 := Try.underlying22; by_cases hl : xs.length = ys.length
 rotate_left
 ·have h' : ((xs.length : Int) != (ys.length : Int)) = true := bne_iff_ne.2 (by omega)
  rw [eqSs_len xs ys hl] at hr; subst hr; clear IH hcnt hA hB hl
  go_enter Try.func33, Try.ntmps33
  go_wp2
  exact ⟨rfl, _, z_164, rfl, xbr _ _⟩
 have h' : ((xs.length : Int) != (ys.length : Int)) = false := bne_eq_false_iff_eq.2 (by omega); have HM := A_0 (Kd.C_max hA); have HA := A_0 hA; have HB := A_0 hB; have HIH := A_0 IH; have HN := A_0 hcnt; have HR := A_0 hr; have HL := A_0 hl; clear hA hB IH hcnt hr hl
 go_enter Try.func33, Try.ntmps33
 go_wp2_with fail
 go_loopg [15] (xs.length + 1) (fun kq v15 wq => EqRelD xs ys r w kq v15 wq)
 case atStart => exact ⟨0, rfl, by omega, by omega, by omega, HR, ⟨xbr _ _⟩⟩
 case round =>
  clear HR; unfold EqRelD at hrel; obtain ⟨j, rfl, hj0, hj1, hjk, HR, HD⟩ := hrel; cases gk with
  | zero => omega
  | succ k1 =>
  by_cases hi : j < xs.length
  rotate_left
  ·have hi' : decide (j < (xs.length : Int)) = false := xdf hi
   have hr := HR.out; rw [eqSs_end (by omega) (by have := HL.out; omega)] at hr; subst hr; clear HR
   go_wp2
   exact z_165
  have p0 := eq_true hj0; have p1 := eq_true hi; have p2 := eq_true (show j < (ys.length : Int) by have := HL.out; omega)
  obtain ⟨ad, A3, c3, A4, c4, A5, c5, rfl, x0, x1, x2, x3, x4, x5, l3, g3, l4, g4, l5, g5⟩ := at_T41 (C_bb HA.out HD.out) j hj0 hi; have hr := HR.out; rw [eqSs_dropJ hj0 hi (by have := HL.out; omega), eqS_eq] at hr; have HR2 := Lib.hid hr; have HC := A_0 (show cntB (rd_T41 xs j).f4 < n ∧ cntB (rd_T41 xs j).f5 < n by have := cntB_rdJ xs j hj0 hi; have := HN.out; omega)
  have G := A_0 (show Kd.C k38 wr A3 (rd_T41 xs j).f3.length (rd_T41 xs j).f3 ∧ Kd.C k41 wr A4 (rd_T41 xs j).f4.length (rd_T41 xs j).f4 ∧ Kd.C k41 wr A5 (rd_T41 xs j).f5.length (rd_T41 xs j).f5 from ⟨g3, g4, g5⟩); clear HR hr g3 g4 g5 l3 l4 l5; generalize rd_T41 xs j = x at *; obtain ⟨a, b, f, l, m, q⟩ := x; dsimp only at x0 x1 x2 x3 x4 x5 HR2 HC G; go_upto_region 6 with fail; generalize hq : World.alloc wr (Obj.cells #[Value.int IntKind.i64 a, Value.string b, Value.int IntKind.i64 f, Value.slice A3 l.length c3, Value.slice A4 m.length c4, Value.slice A5 q.length c5] 41) = w1; have hb1 : Below wr.heap.size wr w1 := z_163; have n0_ := A_0 (show w1.heap[wr.heap.size]? = some (b41 a b f A3 l.length c3 A4 m.length c4 A5 q.length c5) by rw [← hq]; exact blk_new _ _)
  replace HD := A_0 (xbs HD.out hb1); replace G := A_0 ((⟨C_bb G.out.1 hb1, C_bb G.out.2.1 hb1, C_bb G.out.2.2 hb1⟩ : Kd.C k38 _ A3 l.length l ∧ Kd.C k41 _ A4 m.length m ∧ Kd.C k41 _ A5 q.length q)); have BX := n0_; clear x0 x1 x2 x3 x4 x5 hq hb1 n0_; generalize wr.heap.size = xb at *; obtain ⟨ad', A3', c3', A4', c4', A5', c5', rfl, y0, y1, y2, y3, y4, y5, l3', g3', l4', g4', l5', g5'⟩ := at_T41 (C_bb HB.out HD.out) j hj0 (by have := HL.out; omega); have G' := A_0 (show Kd.C k38 w1 A3' (rd_T41 ys j).f3.length (rd_T41 ys j).f3 ∧ Kd.C k41 w1 A4' (rd_T41 ys j).f4.length (rd_T41 ys j).f4 ∧ Kd.C k41 w1 A5' (rd_T41 ys j).f5.length (rd_T41 ys j).f5 from ⟨g3', g4', g5'⟩); clear g3' g4' g5' l3' l4' l5'; generalize rd_T41 ys j = y at *; obtain ⟨a', b', f', l', m', q'⟩ := y; dsimp only at y0 y1 y2 y3 y4 y5 HR2 G'; go_upto_region 7 with fail; generalize hq : World.alloc w1 (Obj.cells #[Value.int IntKind.i64 a', Value.string b', Value.int IntKind.i64 f', Value.slice A3' l'.length c3', Value.slice A4' m'.length c4', Value.slice A5' q'.length c5'] 41) = w2; have hb1 : Below w1.heap.size w1 w2 := z_163; have n0_ := A_0 (show w2.heap[w1.heap.size]? = some (b41 a' b' f' A3' l'.length c3' A4' m'.length c4' A5' q'.length c5') by rw [← hq]; exact blk_new _ _)
  replace HD := A_0 (xbs HD.out hb1); replace G := A_0 ((⟨C_bb G.out.1 hb1, C_bb G.out.2.1 hb1, C_bb G.out.2.2 hb1⟩ : Kd.C k38 _ A3 l.length l ∧ Kd.C k41 _ A4 m.length m ∧ Kd.C k41 _ A5 q.length q)); replace G' := A_0 ((⟨C_bb G'.out.1 hb1, C_bb G'.out.2.1 hb1, C_bb G'.out.2.2 hb1⟩ : Kd.C k38 _ A3' l'.length l' ∧ Kd.C k41 _ A4' m'.length m' ∧ Kd.C k41 _ A5' q'.length q')); replace BX := A_0 (blk_below BX.out hb1); have BY := n0_; clear y0 y1 y2 y3 y4 y5 hq hb1 n0_; generalize w1.heap.size = yb at *; obtain ⟨x0, x1, x2, x3, x4, x5⟩ := sixq BX.out; obtain ⟨y0, y1, y2, y3, y4, y5⟩ := sixq BY.out; cases e0 : (a != a') with
  | true =>
   have hr := HR2.out; have k9 : (a == a') = false := by rw [← Bool.not_eq_true']; exact e0
   rw [k9] at hr; simp only [Bool.false_and, Bool.and_false] at hr; subst hr; clear HR2
   go_wp2
   exact z_165
  | false =>
  have kk0 : (a == a') = true := by rw [← Bool.not_eq_false']; exact e0
  cases e1 : (b.toList != b'.toList) with
  | true =>
   have hr := HR2.out; have k9 : (b.toList == b'.toList) = false := by rw [← Bool.not_eq_true']; exact e1
   rw [k9] at hr; simp only [Bool.false_and, Bool.and_false] at hr; subst hr; clear HR2
   go_wp2
   exact z_165
  | false =>
  have kk1 : (b.toList == b'.toList) = true := by rw [← Bool.not_eq_false']; exact e1
  cases e2 : (f != f') with
  | true =>
   have hr := HR2.out; have k9 : (f == f') = false := by rw [← Bool.not_eq_true']; exact e2
   rw [k9] at hr; simp only [Bool.false_and, Bool.and_false] at hr; subst hr; clear HR2
   go_wp2
   exact z_165
  | false =>
  have kk2 : (f == f') = true := by rw [← Bool.not_eq_false']; exact e2
  have hr := HR2.out; rw [kk0, kk1, kk2] at hr; simp only [Bool.true_and] at hr; have HR3 := Lib.hid hr; clear HR2 hr; have HH := Lib.hid (rfl : (eqEs l l', eqSs m m', eqSs q q') = (eqEs l l', eqSs m m', eqSs q q')); generalize hb3 : eqEs l l' = b3 at *; generalize hb4 : eqSs m m' = b4 at *; generalize hb5 : eqSs q q' = b5 at *; have HK3 := A_0 hb3; have HK4 := A_0 hb4; have HK5 := A_0 hb5; clear HH hb3 hb4 hb5
  go_wp2_with fail
  (with_reducible refine (all_L l l' A3 c3 A3' c3' _ _ G.out.1 G'.out.1 HK3.out).mono ?_)
  rintro e w5 ⟨rfl, hb⟩; replace HD := A_0 (xbs HD.out hb); replace G := A_0 ((⟨C_bb G.out.1 hb, C_bb G.out.2.1 hb, C_bb G.out.2.2 hb⟩ : Kd.C k38 _ A3 l.length l ∧ Kd.C k41 _ A4 m.length m ∧ Kd.C k41 _ A5 q.length q)); replace G' := A_0 ((⟨C_bb G'.out.1 hb, C_bb G'.out.2.1 hb, C_bb G'.out.2.2 hb⟩ : Kd.C k38 _ A3' l'.length l' ∧ Kd.C k41 _ A4' m'.length m' ∧ Kd.C k41 _ A5' q'.length q')); replace BX := A_0 (blk_below BX.out hb); replace BY := A_0 (blk_below BY.out hb); clear hb x0 x1 x2 x3 x4 x5 y0 y1 y2 y3 y4 y5; obtain ⟨x0, x1, x2, x3, x4, x5⟩ := sixq BX.out; obtain ⟨y0, y1, y2, y3, y4, y5⟩ := sixq BY.out; cases b3 with
  | false =>
   have hr := HR3.out; simp only [Bool.false_and, Bool.and_false] at hr; subst hr; clear HR3
   go_wp2
   exact z_165
  | true =>
  go_wp2_with fail
  (with_reducible refine (HIH.out.use m m' A4 c4 A4' c4' _ _ HC.out.1 G.out.2.1 G'.out.2.1 HK4.out).mono ?_)
  rintro e w6 ⟨rfl, hb⟩; replace HD := A_0 (xbs HD.out hb); replace G := A_0 ((⟨C_bb G.out.1 hb, C_bb G.out.2.1 hb, C_bb G.out.2.2 hb⟩ : Kd.C k38 _ A3 l.length l ∧ Kd.C k41 _ A4 m.length m ∧ Kd.C k41 _ A5 q.length q)); replace G' := A_0 ((⟨C_bb G'.out.1 hb, C_bb G'.out.2.1 hb, C_bb G'.out.2.2 hb⟩ : Kd.C k38 _ A3' l'.length l' ∧ Kd.C k41 _ A4' m'.length m' ∧ Kd.C k41 _ A5' q'.length q')); replace BX := A_0 (blk_below BX.out hb); replace BY := A_0 (blk_below BY.out hb); clear hb x0 x1 x2 x3 x4 x5 y0 y1 y2 y3 y4 y5; obtain ⟨x0, x1, x2, x3, x4, x5⟩ := sixq BX.out; obtain ⟨y0, y1, y2, y3, y4, y5⟩ := sixq BY.out; cases b4 with
  | false =>
   have hr := HR3.out; simp only [Bool.false_and, Bool.and_false] at hr; subst hr; clear HR3
   go_wp2
   exact z_165
  | true =>
  go_wp2_with fail
  (with_reducible refine (HIH.out.use q q' A5 c5 A5' c5' _ _ HC.out.2 G.out.2.2 G'.out.2.2 HK5.out).mono ?_)
  rintro e w7 ⟨rfl, hb⟩; replace HD := A_0 (xbs HD.out hb); replace G := A_0 ((⟨C_bb G.out.1 hb, C_bb G.out.2.1 hb, C_bb G.out.2.2 hb⟩ : Kd.C k38 _ A3 l.length l ∧ Kd.C k41 _ A4 m.length m ∧ Kd.C k41 _ A5 q.length q)); replace G' := A_0 ((⟨C_bb G'.out.1 hb, C_bb G'.out.2.1 hb, C_bb G'.out.2.2 hb⟩ : Kd.C k38 _ A3' l'.length l' ∧ Kd.C k41 _ A4' m'.length m' ∧ Kd.C k41 _ A5' q'.length q')); replace BX := A_0 (blk_below BX.out hb); replace BY := A_0 (blk_below BY.out hb); clear hb x0 x1 x2 x3 x4 x5 y0 y1 y2 y3 y4 y5; obtain ⟨x0, x1, x2, x3, x4, x5⟩ := sixq BX.out; obtain ⟨y0, y1, y2, y3, y4, y5⟩ := sixq BY.out; cases b5 with
  | false =>
   have hr := HR3.out; simp only [Bool.false_and, Bool.and_false] at hr; subst hr; clear HR3
   go_wp2
   exact z_165
  | true =>
  have hr := HR3.out; simp only [Bool.true_and] at hr; have HR := A_0 hr; clear hr HR3 e0 e1 e2 kk0 kk1 kk2 x0 x1 x2 x3 x4 x5 y0 y1 y2 y3 y4 y5
  go_wp2
  go_roundg k1
  case measure => omega
  case rel =>
   have hw : wrap64 (j + 1) = j + 1 := by have := HM.out; clear hjk; unfold wrap64; omega
   exact ⟨j + 1, by rw [hw], by omega, by omega, by omega, HR, HD⟩
theorem same_ok : ∀ n, BqC n
 | 0 => fun xs ys A c B d r w h => absurd h (Nat.not_lt_zero _)
 | n + 1 => same_step n (same_ok n)
theorem same_L (xs ys : List S41) (A : Option Addr) (c : Nat) (B : Option Addr) (d : Nat) (r : Bool) (w : World) (h1 : Kd.C k41 w A xs.length xs) (h2 : Kd.C k41 w B ys.length ys) (h3 : eqSs xs ys = r) :
 Calls Try.prog 33 #[.slice A xs.length c, .slice B ys.length d] w fun e w' => e = .returned (.bool r) ∧ Below w.heap.size w w' := same_ok _ xs ys A c B d r w (Nat.lt_succ_self _) h1 h2 h3
def KeepBut (w w' : World) (g : Nat) (row : Option Nat) : Prop := (w'.os = w.os ∧ w'.tape = w.tape ∧ w'.output = w.output ∧ w.heap.size ≤ w'.heap.size) ∧ ∀ i, i < w.heap.size → i ≠ g → some i ≠ row → w'.heap[i]? = w.heap[i]?
theorem KeepBut.size {w w1 : World} {g : Nat} {row : Option Nat} (h : KeepBut w w1 g row) : w.heap.size ≤ w1.heap.size := h.1.2.2.2
theorem KeepBut.refl (w : World) (g : Nat) (row : Option Nat) : KeepBut w w g row := ⟨⟨rfl, rfl, rfl, xlr _⟩, fun _ _ _ _ => rfl⟩
theorem KeepBut.of_grown {w w1 : World} {row : Option Nat} (h : w.grownBy w1 row) (g : Nat) : KeepBut w w1 g row := ⟨⟨h.os, h.tape, h.output, h.size⟩, fun i hi _ hr => h.block i hi hr⟩
theorem KeepBut.of_below {w w1 : World} (h : Below w.heap.size w w1) (g : Nat) (row : Option Nat) : KeepBut w w1 g row := ⟨⟨h.os, h.tape, h.output, h.size⟩, fun i hi _ _ => h.block i hi⟩
theorem KeepBut.set_ {w w1 : World} {g : Nat} {row : Option Nat} (h : KeepBut w w1 g row) (j : Nat) (u : Value) : KeepBut w (w1.setCell ⟨g, j, none⟩ u) g row :=
 ⟨⟨h.1.1, h.1.2.1, h.1.2.2.1, by simpa [World.setCell] using h.size⟩, fun i hi hg hr => (Below.heap_setCell w1 ⟨g, j, none⟩ u i hg).trans (h.2 i hi hg hr)⟩
theorem KeepBut.trans {w w1 w2 : World} {g : Nat} {row row1 : Option Nat} (h : KeepBut w w1 g row) (k : KeepBut w1 w2 g row1) (hr : row1 = row ∨ ∃ b, row1 = some b ∧ w.heap.size ≤ b) : KeepBut w w2 g row :=
 ⟨⟨k.1.1.trans h.1.1, k.1.2.1.trans h.1.2.1, k.1.2.2.1.trans h.1.2.2.1, Nat.le_trans h.size k.size⟩, fun i hi hg hn => by
  refine (k.2 i (Nat.lt_of_lt_of_le hi h.size) hg ?_).trans (h.2 i hi hg hn)
  rcases hr with rfl | ⟨b, rfl, hb⟩
  ·exact hn
  ·intro e
   injection e with e
   omega⟩
theorem KeepBut.blk {w w1 : World} {g g' : Nat} {row : Option Nat} {o : Obj} (h : KeepBut w w1 g row) (hb : w.heap[g']? = some o) (hg : g' ≠ g) (hr : some g' ≠ row) : w1.heap[g']? = some o := (h.2 g' (blk_lt hb) hg hr).trans hb
theorem keep_drewN {w W : World} {g : Nat} {row : Option Nat} (h : KeepBut w W g row) (m : Nat) : KeepBut w (W.drewN m) g row := h
theorem keep_drew {w W : World} {g : Nat} {row : Option Nat} (h : KeepBut w W g row) : KeepBut w W.drew g row := h
theorem keep_alloc {w W : World} {g : Nat} (h : KeepBut w W g none) (o : Obj) : KeepBut w (W.alloc o) g none := h.trans (KeepBut.of_grown (World.grownBy_alloc W o none) g) (.inl rfl)
theorem keep_size {w W : World} {g : Nat} {row : Option Nat} (h : KeepBut w W g row) : w.heap.size ≤ W.heap.size := h.size
theorem keep_far {w W : World} {g : Nat} {row : Option Nat} (h : KeepBut w W g row) {p : Addr} (hp : w.heap.size ≤ p.block) (u : Value) : KeepBut w (W.setCell p u) g row :=
 ⟨⟨h.1.1, h.1.2.1, h.1.2.2.1, by simpa [World.setCell] using h.size⟩, fun i hi hg hr => (Below.heap_setCell W p u i (by omega)).trans (h.2 i hi hg hr)⟩
theorem Kd.F_keep {α : Type} {d : Kd α} {W W1 : World} {g n : Nat} {ok : Nat → Prop} {A : Option Addr} {xs : List α} (h : Kd.F d W ok A n xs) (hk : KeepBut W W1 g none) (hg : ∀ k, ok k → k ≠ g) : Kd.F d W1 ok A n xs := Kd.F_step h (fun k ho hl => hk.2 k hl (hg k ho) (by simp))
structure S58 where
 f0 : Int
 f1 : ByteArray
 f2 : Int
 f3 : Int
def z58 : S58 := ⟨0, (⟨#[]⟩ : ByteArray), 0, 0⟩
def k58 : Kd S58 := Kd.iso (Kd.pair (Kd.int .i64) (Kd.pair Kd.string (Kd.pair (Kd.int .i64) (Kd.int .i64)))) (fun x : S58 => (x.f0, x.f1, x.f2, x.f3))
theorem k58_open {w : World} {x : S58} {cs : List Value} (h : k58.K w x cs) : cs = [.int .i64 x.f0, .string x.f1, .int .i64 x.f2, .int .i64 x.f3] := by
 obtain ⟨_, _, rfl, rfl, _, _, rfl, rfl, _, _, rfl, rfl, rfl⟩ := h; exact rfl
theorem k58_mk (w : World) (x : S58) : k58.K w x [.int .i64 x.f0, .string x.f1, .int .i64 x.f2, .int .i64 x.f3] := ⟨[.int .i64 x.f0], _, rfl, rfl, ⟨[.string x.f1], _, rfl, rfl, ⟨[.int .i64 x.f2], [.int .i64 x.f3], rfl, rfl, rfl⟩⟩⟩
def rd_T58 (xs : List S58) (i : Int) : S58 := xs.getD i.toNat z58
theorem at_T58 {w : World} {A : Option Addr} {n : Nat} {xs : List S58} (h : Kd.C k58 w A n xs) (i : Int) (h0 : 0 ≤ i) (h1 : i < n) : ∃ ad, A = some ad ∧ w.cell? (ad.add (i.toNat * 4)) = some (.int .i64 (rd_T58 xs i).f0) ∧ w.cell? ⟨(ad.add (i.toNat * 4)).block, (ad.add (i.toNat * 4)).off + 1, none⟩ = some (.string (rd_T58 xs i).f1) ∧ w.cell? ⟨(ad.add (i.toNat * 4)).block, (ad.add (i.toNat * 4)).off + 2, none⟩ = some (.int .i64 (rd_T58 xs i).f2) ∧ w.cell? ⟨(ad.add (i.toNat * 4)).block, (ad.add (i.toNat * 4)).off + 3, none⟩ = some (.int .i64 (rd_T58 xs i).f3) := by
 obtain ⟨ad, c, e, _, hK, hc0⟩ := Kd.C_get h z58 i h0 h1; have hc : ∀ j u, c[j]? = some u → w.cell? (ad.add (i.toNat * 4 + j)) = some u := hc0; obtain rfl := k58_open hK; exact ⟨ad, e, hc 0 _ rfl, z_14, z_15, z_16⟩
structure PSt where
 at_ : Int
 nodes : Int
 op : Int
 bl : Int
structure RD (W : World) (g : Nat) (A : Option Addr) (c : Nat) (T : List S58) (s : PSt) : Prop where
 bk : W.heap[g]? = some (b79 A T.length c s.at_ s.nodes s.op s.bl)
 tk : Kd.F k58 W (fun k => k ≠ g) A T.length T
theorem RD.below {W W1 : World} {g : Nat} {A : Option Addr} {c : Nat} {T : List S58} {s : PSt} (h : RD W g A c T s) (b : Below W.heap.size W W1) : RD W1 g A c T s :=
 ⟨blk_below h.bk b, Kd.F_below h.tk b⟩
theorem RD.fresh {W : World} {g : Nat} {A : Option Addr} {c : Nat} {T : List S58} {s : PSt} (h : RD W g A c T s) {k : Nat} (hk : W.heap.size ≤ k) : k ≠ g := fun e => by have := blk_lt h.bk; omega
def stopV (er at_ : Int) : PanicEntry := { v := .iface 75 (.agg #[.int .i64 er, .int .i64 at_]), recovered := false }
def tokV (t : S58) : Value := .agg #[.int .i64 t.f0, .string t.f1, .int .i64 t.f2, .int .i64 t.f3]
theorem give_L (er : Int) (t : S58) (w : World) : Calls Try.prog 76 #[.int .i64 er, tokV t] w fun e w' => e = .panicked [stopV er t.f3] ∧ Below w.heap.size w w' := by
 have HB := A_0 (xbr w.heap.size w); unfold tokV stopV
 go_enter Try.func76, Try.ntmps76
 go_wp2
 exact ⟨rfl, rfl, below_alloc HB.out _⟩
theorem now_L (g : Nat) (A : Option Addr) (c : Nat) (T : List S58) (s : PSt) (w : World) (h : RD w g A c T s) (h0 : 0 ≤ s.at_) (h1 : s.at_ < T.length) :
  Calls Try.prog 46 #[.pointer (some ⟨g, 0, none⟩)] w fun e w' => e = .returned (tokV (rd_T58 T s.at_)) ∧ Below w.heap.size w w' := by
 have HB := A_0 (xbr w.heap.size w); have hu58 : Try.prog.underlying 58 = _ := Try.underlying58; obtain ⟨ad, eA, hx0, hx1, hx2, hx3⟩ := at_T58 (Kd.F_now h.tk) s.at_ h0 h1; subst eA; have hz0 : w.cell? ⟨g, 0, none⟩ = some (.slice (some ad) T.length c) := (xbc h.bk 0).trans rfl; have hz1 : w.cell? ⟨g, 1, none⟩ = some (.int .i64 s.at_) := (xbc h.bk 1).trans rfl; have p1 := eq_true h0; have p2 := eq_true h1; clear h h0 h1; unfold tokV
 go_enter Try.func46, Try.ntmps46
 go_wp2
 go_region_held3 (fun w' => w'.cell? ⟨g, 0, none⟩ = some (.slice (some ad) T.length c) ∧ w'.cell? ⟨g, 1, none⟩ = some (.int .i64 s.at_) ∧ w'.cell? (ad.add (s.at_.toNat * 4)) = some (.int .i64 (rd_T58 T s.at_).f0) ∧ w'.cell? ⟨(ad.add (s.at_.toNat * 4)).block, (ad.add (s.at_.toNat * 4)).off + 1, none⟩ = some (.string (rd_T58 T s.at_).f1) ∧ w'.cell? ⟨(ad.add (s.at_.toNat * 4)).block, (ad.add (s.at_.toNat * 4)).off + 2, none⟩ = some (.int .i64 (rd_T58 T s.at_).f2) ∧ w'.cell? ⟨(ad.add (s.at_.toNat * 4)).block, (ad.add (s.at_.toNat * 4)).off + 3, none⟩ = some (.int .i64 (rd_T58 T s.at_).f3)) (go_keep) (fail)
 all_goals (go_wp2_with fail)
 refine bodyPost_ret (v := .agg #[.int .i64 (rd_T58 T s.at_).f0, .string (rd_T58 T s.at_).f1, .int .i64 (rd_T58 T s.at_).f2, .int .i64 (rd_T58 T s.at_).f3]) (by simp [results, Try.results46, go_sem]) rfl ⟨rfl, ?_⟩
 repeat (first | (with_reducible first | exact HB.out | apply below_alloc | apply pw_below_drewN | apply below_drew1) | exact HB.out)
theorem kf4 {w W : World} {g b : Nat} {row : Option Nat} {i0 i1 i2 i3 : Nat} {f0 f1 f2 f3 : Option Nat} {u0 u1 u2 u3 : Value} (h : KeepBut w W g row) (hp : w.heap.size ≤ b) : KeepBut w (World.setCell (World.setCell (World.setCell (World.setCell W ⟨b, i0, f0⟩ u0) ⟨b, i1, f1⟩ u1) ⟨b, i2, f2⟩ u2) ⟨b, i3, f3⟩ u3) g row := (keep_far (keep_far (keep_far (keep_far h hp _) hp _) hp _) hp _)
theorem kf5 {w W : World} {g b : Nat} {row : Option Nat} {i0 i1 i2 i3 i4 : Nat} {f0 f1 f2 f3 f4 : Option Nat} {u0 u1 u2 u3 u4 : Value} (h : KeepBut w W g row) (hp : w.heap.size ≤ b) : KeepBut w (World.setCell (World.setCell (World.setCell (World.setCell (World.setCell W ⟨b, i0, f0⟩ u0) ⟨b, i1, f1⟩ u1) ⟨b, i2, f2⟩ u2) ⟨b, i3, f3⟩ u3) ⟨b, i4, f4⟩ u4) g row := (keep_far (keep_far (keep_far (keep_far (keep_far h hp _) hp _) hp _) hp _) hp _)
theorem kf6 {w W : World} {g b : Nat} {row : Option Nat} {i0 i1 i2 i3 i4 i5 : Nat} {f0 f1 f2 f3 f4 f5 : Option Nat} {u0 u1 u2 u3 u4 u5 : Value} (h : KeepBut w W g row) (hp : w.heap.size ≤ b) : KeepBut w (World.setCell (World.setCell (World.setCell (World.setCell (World.setCell (World.setCell W ⟨b, i0, f0⟩ u0) ⟨b, i1, f1⟩ u1) ⟨b, i2, f2⟩ u2) ⟨b, i3, f3⟩ u3) ⟨b, i4, f4⟩ u4) ⟨b, i5, f5⟩ u5) g row := (keep_far (keep_far (keep_far (keep_far (keep_far (keep_far h hp _) hp _) hp _) hp _) hp _) hp _)
theorem xk1 {w W W1 : World} {g : Nat} (H : Aside0 (KeepBut w W g none)) (hb : Below W.heap.size W W1) : Aside0 (KeepBut w W1 g none) := ⟨H.out.trans (KeepBut.of_below hb g none) (.inl rfl)⟩
theorem xk2 {w W : World} {g g' : Nat} {o : Obj} (hk : KeepBut w W g none) (H : Aside0 (w.heap[g']? = some o)) (hn : g' ≠ g) : Aside0 (W.heap[g']? = some o) := ⟨KeepBut.blk hk H.out hn (by simp)⟩
theorem xk3 {w W W1 : World} {g : Nat} (H : Aside0 (KeepBut w W g none)) (hk : KeepBut W W1 g none) : Aside0 (KeepBut w W1 g none) := ⟨H.out.trans hk (.inl rfl)⟩
theorem xk4 {w w1 : World} {g : Nat} {o : Obj} (H : Aside0 (w.heap[g]? = some o)) (hb : Below w.heap.size w w1) : Aside0 (w1.heap[g]? = some o) := ⟨blk_below H.out hb⟩
end Go.Proofs.Ytobkdmmnbnpemaa.K
