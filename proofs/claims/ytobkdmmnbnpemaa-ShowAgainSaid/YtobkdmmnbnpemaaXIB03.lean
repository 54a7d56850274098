/- Texts of the claim, one behind the other. -/
import Derived.Test.YtobkdmmnbnpemaaXIB02
import Derived.Test.YtobkdmmnbnpemaaXIB01
import Derived.Lib.Hide
import Derived.Deep.CutBlock
set_option maxHeartbeats 16000000
set_option maxRecDepth 100000
namespace Go.Proofs.Ytobkdmmnbnpemaa.K
open Go.RowKit Go.Proofs.YtobkdmmnbnpemaaW.PrintWords Go.Proofs.YtobkdmmnbnpemaaW.PrintLast Go.Proofs.YtobkdmmnbnpemaaW.PrintMore
attribute [local go_sem] max2_int min2_int max_two min_two max_three min_three max_four min_four
set_option linter.unusedVariables false
set_option linter.unusedSimpArgs false
def LPost (B : Nat) (g : Nat) (t : List UInt8) (n : Int) (w0 w : World) (e : Ending) (w' : World) : Prop := e = .returned (.tuple #[]) ∧ IsW B w' g t n ∧ Below w0.heap.size w0 w' ∧ KeepT w w' g
def L1Rel (t : List UInt8) (n : Int) (g : Nat) (w0 w : World) (v10 : Value) (w' : World) : Prop :=
 ∃ (i : Int) (v : Value), v10 = .int .i64 i ∧ 0 ≤ i ∧ i ≤ n ∧ Aside0 (WV w0.heap.size w' g v (t ++ List.replicate (2 * i.toNat) 32) n) ∧ Aside0 (Below w0.heap.size w0 w') ∧ Aside0 (KeepT w w' g)
def L2Rel (t : List UInt8) (n : Int) (parts : List ByteArray) (L : Nat) (g : Nat) (w0 w : World) (v23 : Value) (w' : World) : Prop :=
 ∃ (i : Int) (v : Value), v23 = .int .i64 i ∧ 0 ≤ i ∧ i ≤ (L : Int) ∧ Aside0 (WV w0.heap.size w' g v (t ++ List.replicate (2 * n.toNat) 32 ++ ((parts.take i.toNat).map lst).flatten) n) ∧ Aside0 (Below w0.heap.size w0 w') ∧ Aside0 (KeepT w w' g)
theorem flat_len : ∀ (ps : List ByteArray) (i : Nat), (((ps.take i).map lst).flatten).length ≤ ((ps.map lst).flatten).length
 | [], i => by simp
 | p :: ps, 0 => by simp
 | p :: ps, i + 1 => by
  have := flat_len ps i; simp only [List.take_succ_cons, List.map_cons, List.flatten_cons, List.length_append]
  omega
theorem flat_at (ps : List ByteArray) (i : Nat) (h : i < ps.length) : ((ps.take i).map lst).flatten ++ lst (ps.getD i ⟨#[]⟩) = ((ps.take (i + 1)).map lst).flatten := by
 rw [List.take_succ_eq_append_getElem h, List.map_append, List.flatten_append, List.getD_eq_getElem?_getD, List.getElem?_eq_getElem h]; simp
theorem sp_two (t : List UInt8) (i : Int) (h : 0 ≤ i) : t ++ List.replicate (2 * i.toNat) 32 ++ lst ⟨#[32, 32]⟩ = t ++ List.replicate (2 * (i + 1).toNat) 32 := by
 have e : 2 * (i + 1).toNat = 2 * i.toNat + 1 + 1 := by omega
 rw [e, List.replicate_succ', List.replicate_succ', List.append_assoc, List.append_assoc]
 rfl
theorem own_sl {W : World} {base : Nat} {e : TypeId} {size n : Nat} {v : Value} {xs : List Value} (h : W.ownsRow base e size v n xs) : ∃ A m c, v = .slice A m c := by
 rcases h.2 with ⟨rfl, _⟩ | ⟨g', cap, cur, rfl, _⟩
 ·exact ⟨_, _, _, rfl⟩
 ·exact ⟨_, _, _, rfl⟩
theorem map_ten (t : List UInt8) : (t ++ [10]).map c8 = t.map c8 ++ [10] := by simp [c8]
theorem info5b : (Try.prog.info? 5).map (fun i => (i.zero, i.size, i.bytes)) = some (some (.int .u8 0), 1, 1) := by kernel_rfl
theorem line_calls (t : List UInt8) (n : Int) (parts : List ByteArray) (b L g : Nat) (w0 w : World) (hn0 : 0 ≤ n) (hn1 : n ≤ 1000) (hL : parts.length = L) (hLs : L ≤ 10) (hW : IsW w0.heap.size w g t n) (hB : Below w0.heap.size w0 w)
  (hb : w.heap[b]? = some (.cells (parts.map Value.string).toArray 9 (0, 0))) (hs : t.length + ((parts.map lst).flatten).length ≤ 1000000000) :
  Calls Try.prog 59 #[.pointer (some ⟨g, 0, none⟩), .slice (some ⟨b, 0, none⟩) L L] w (LPost w0.heap.size g (t ++ lineB n parts) n w0 w) := by
 obtain ⟨v, hV⟩ := hW; have hbg : b ≠ g := blk_ne hb hV.1 (by decide); have HBG := A_0 hbg; have HV := A_0 hV; have HB := A_0 hB; have HP := A_0 hb; have HL := A_0 hL; have HS := A_0 hs; have GE := A_0 hV.2.1; have HK := A_0 (KeepT.refl w g); have hcg0 : w.cell? ⟨g, 0, none⟩ = some v := (xbc hV.1 0).trans rfl; have hcg1 : w.cell? ⟨g, 1, none⟩ = some (.int .i64 n) := (xbc hV.1 1).trans rfl; have hfg0 := xbz hV.1 0; have hfg1 := xbz hV.1 1; clear hV hB hb hL hs hbg
 go_enter Try.func59, Try.ntmps59
 go_wp2
 go_loopw [10] (fun v10 wr => L1Rel t n g w0 w v10 wr) (fun v10 _ => (n - intOf v10).toNat)
 case atStart => exact ⟨0, v, rfl, Int.le_refl _, hn0, ⟨by have := HV.out; simpa using this⟩, HB, HK⟩
 case round =>
  unfold L1Rel at hrel; clear HV HB HK hcg0 hcg1 hfg0 hfg1; obtain ⟨i, v, rfl, hi0, hi1, HV, HB, HK⟩ := hrel; have hcg0 : wr.cell? ⟨g, 0, none⟩ = some v := (xbc HV.out.1 0).trans rfl; have hcg1 : wr.cell? ⟨g, 1, none⟩ = some (.int .i64 n) := (xbc HV.out.1 1).trans rfl; have hfg0 := xbz HV.out.1 0; have hfg1 := xbz HV.out.1 1; by_cases hlt : i < n
  ·have hb0 := xdt hlt
   go_wp2_with (first | ((with_reducible refine gate_builtin (b := .append) (xs := #[.tmp 16, .const (.string ⟨#[32, 32]⟩)]) rfl ?_); at_builtin; refine print_append_str (w0 := w0) w0.heap.size rfl (.tmp 16) (.const (.string ⟨#[32, 32]⟩)) 62 9 5 rfl Try.underlying62 Try.underlying9 info5b v ((t ++ List.replicate (2 * i.toNat) 32).map c8) ⟨#[32, 32]⟩ rfl rfl HV.out.2.2 HB.out ?aS ?aL ?_; (case aS => exact below_size HB.out); (case aL => have := HS.out; simp only [List.length_map, List.length_append, List.length_replicate]; show _ + 2 ≤ _; omega); intro v1 w1 ho1 hb1 hg1; obtain ⟨A1, m1, c1, rfl⟩ := own_sl ho1; rw [← map_app, sp_two t i hi0] at ho1; replace HB := A_0 (below_set hb1 GE.out (j := 0) (v := .slice A1 m1 c1)); replace HK := A_0 ((KeepT.grown HK.out HV.out hg1).set 0 (.slice A1 m1 c1)); have hcn : w1.cell? ⟨g, 0, none⟩ = some v := (xbc (blk_grown HV.out.1 hg1 (WV.ne HV.out)) 0).trans rfl; have hfn := xbz (blk_grown HV.out.1 hg1 (WV.ne HV.out)) 0; replace HV := A_0 (WV.put HV.out ho1 hg1); clear ho1 hb1 hg1 hcg0 hcg1 hfg0 hfg1))
   go_roundw
   case rel => exact ⟨i + 1, _, by go_num, by omega, by omega, HV, HB, HK⟩
   case measure => simp [intOf]; omega
  ·have hb0 := xdf hlt
   have hin : i = n := by omega
   have HIN := Lib.hid hin; clear hin
   go_wp2
   go_loopw [23] (fun v23 wr => L2Rel t n parts L g w0 w v23 wr) (fun v23 _ => L - (intOf v23).toNat)
   case atStart => exact ⟨0, v, rfl, Int.le_refl _, by omega, ⟨by have := HV.out; rw [HIN.out] at this; simpa using this⟩, HB, HK⟩
   case round =>
    unfold L2Rel at hrel; clear HV HB HK hcg0 hcg1 hfg0 hfg1 HIN hi0 hi1 hlt hb0; obtain ⟨k2, v2, rfl, hi0, hi1, HV, HB, HK⟩ := hrel; have hcg0 : wr.cell? ⟨g, 0, none⟩ = some v2 := (xbc HV.out.1 0).trans rfl; have hcg1 : wr.cell? ⟨g, 1, none⟩ = some (.int .i64 n) := (xbc HV.out.1 1).trans rfl; have hfg0 := xbz HV.out.1 0; have hfg1 := xbz HV.out.1 1; by_cases hlt : k2 < (L : Int)
    ·have hb0 := xdt hlt
     have HLT := A_0 (show k2.toNat < parts.length by rw [HL.out]; omega)
     have hcp : wr.cell? ⟨b, k2.toNat, none⟩ = some (.string (parts.getD k2.toNat ⟨#[]⟩)) := by
      refine (xbc (HK.out.blk HP.out HBG.out (by decide)) k2.toNat).trans ?_
      rw [List.getElem?_toArray, List.getElem?_map, List.getD_eq_getElem?_getD, List.getElem?_eq_getElem HLT.out]
      rfl
     have HLEN := A_0 (show ((t ++ List.replicate (2 * n.toNat) 32 ++ ((parts.take k2.toNat).map lst).flatten).map c8).length + (parts.getD k2.toNat ⟨#[]⟩).size ≤ 140737488355328 by
      have h1 := flat_len parts (k2.toNat + 1); rw [← flat_at parts k2.toNat HLT.out, List.length_append, lst_len] at h1; have := HS.out; simp only [List.length_map, List.length_append, List.length_replicate] at h1 ⊢
      omega)
     have p1 := eq_true hi0; have p2 := eq_true hlt
     go_wp2_with (first | ((with_reducible refine gate_builtin (b := .append) (xs := #[.tmp 31, .tmp 32]) rfl ?_); at_builtin; refine print_append_str (w0 := w0) w0.heap.size rfl (.tmp 31) (.tmp 32) 62 9 5 rfl Try.underlying62 Try.underlying9 info5b v2 ((t ++ List.replicate (2 * n.toNat) 32 ++ ((parts.take k2.toNat).map lst).flatten).map c8) (parts.getD k2.toNat ⟨#[]⟩) rfl rfl HV.out.2.2 HB.out ?aS ?aL ?_; (case aS => exact below_size HB.out); (case aL => exact HLEN.out); intro v1 w1 ho1 hb1 hg1; obtain ⟨A1, m1, c1, rfl⟩ := own_sl ho1; rw [← map_app, List.append_assoc, flat_at parts k2.toNat HLT.out] at ho1; replace HB := A_0 (below_set hb1 GE.out (j := 0) (v := .slice A1 m1 c1)); replace HK := A_0 ((KeepT.grown HK.out HV.out hg1).set 0 (.slice A1 m1 c1)); have hcn : w1.cell? ⟨g, 0, none⟩ = some v2 := (xbc (blk_grown HV.out.1 hg1 (WV.ne HV.out)) 0).trans rfl; have hfn := xbz (blk_grown HV.out.1 hg1 (WV.ne HV.out)) 0; replace HV := A_0 (WV.put HV.out ho1 hg1); clear ho1 hb1 hg1 hcg0 hcg1 hfg0 hfg1))
     go_roundw
     case rel => exact ⟨k2 + 1, _, by go_num, by omega, by omega, ⟨by have := HV.out; rw [show (k2 + 1).toNat = k2.toNat + 1 by omega]; exact this⟩, HB, HK⟩
     case measure => simp [intOf]; omega
    ·have hb0 := xdf hlt
     obtain ⟨TT, hTT⟩ : ∃ TT, TT = t ++ List.replicate (2 * n.toNat) 32 ++ (parts.map lst).flatten := ⟨_, rfl⟩; have hfull : t ++ List.replicate (2 * n.toNat) 32 ++ ((parts.take k2.toNat).map lst).flatten = TT := by rw [hTT, List.take_of_length_le (by have := HL.out; omega)]
     have HV2 := A_0 (show WV w0.heap.size wr g v2 TT n by have := HV.out; rw [hfull] at this; exact this)
     have HLEN := A_0 (show ((TT.map c8).length + 1) * 1 ≤ 140737488355328 by
      have := HS.out; rw [hTT]; simp only [List.length_map, List.length_append, List.length_replicate]
      omega)
     have HTT := A_0 (show TT ++ [10] = t ++ lineB n parts by rw [hTT]; unfold lineB; simp only [List.append_assoc])
     clear hTT hfull HV; have HV := HV2; clear HV2
     go_wp2_with (first | ((with_reducible refine gate_builtin (b := .append) (xs := #[.tmp 41, .tmp 42]) rfl ?_); at_builtin; refine print_append_num (w0 := w0) w0.heap.size rfl (.tmp 41) (.tmp 42) 62 5 .u8 1 rfl Try.underlying62 info5b (by decide) v2 (TT.map c8) 10 rfl rfl HV.out.2.2 HB.out ?aS ?aL ?_; (case aS => exact below_size HB.out); (case aL => exact HLEN.out); intro v1 w1 ho1 hb1 hg1 _; obtain ⟨A1, m1, c1, rfl⟩ := own_sl ho1; rw [← map_ten] at ho1; replace HB := A_0 (below_set hb1 GE.out (j := 0) (v := .slice A1 m1 c1)); replace HK := A_0 ((KeepT.grown HK.out HV.out hg1).set 0 (.slice A1 m1 c1)); have hcn : w1.cell? ⟨g, 0, none⟩ = some v2 := (xbc (blk_grown HV.out.1 hg1 (WV.ne HV.out)) 0).trans rfl; have hfn := xbz (blk_grown HV.out.1 hg1 (WV.ne HV.out)) 0; replace HV := A_0 (WV.put HV.out ho1 hg1); clear ho1 hb1 hg1 hcg0 hcg1 hfg0 hfg1))
     go_end0
     exact ⟨rfl, ⟨_, by rw [← HTT.out]; exact HV.out⟩, HB.out, HK.out⟩
theorem name_any (s : ByteArray) : ∃ k, lex_Name.f k s = some (nameB (lst s)) := by
 by_cases h : s.size ≤ 140737488351232
 ·exact name_ok s h
 ·have hlen := lst_len s
  have htl : s.toList = lst s := toList_eq s; cases hl : lst s with
  | nil => rw [hl] at hlen; simp at hlen; omega
  | cons c l =>
   rw [hl] at hlen; have hne : ¬ s.toList = ([] : List UInt8) := by rw [htl, hl]; simp
   refine ⟨1, ?_⟩
   unfold lex_Name.f; rw [if_neg hne, if_pos (by omega), lex_Name.j0, if_pos rfl]; have hnb : nameB (c :: l) = (decide ((c :: l).length ≤ 12) && (letB c && (!wordsB (c :: l) && l.all anB))) := rfl; rw [hnb, xdf (by omega)]
   rfl
def numB (k n : Int) : Bool := if k = 1 then decide (n ≥ 0) else n == 0
def nmB (k : Int) (s : ByteArray) : Bool := if k = 2 then nameB (lst s) else s.toList == ([] : List UInt8)
def opB (k op : Int) : Bool := if k = 4 then decide (op ≥ 19) && decide (op ≤ 21) else if k = 5 then decide (op ≥ 1) && decide (op ≤ 18) else op == 0
def fieldsB (k n : Int) (s : ByteArray) (op : Int) : Bool := numB k n && (nmB k s && opB k op)
theorem fields_j1 (k : Nat) (b c : Bool) (a0 a1 : Int) (a2 : ByteArray) (a3 : Int) (l : List S38) : tree_fields.j1 (k + 1) b c a0 a1 a2 a3 l = some (b && (c && opB a0 a3)) := by
 rw [tree_fields.j1]; unfold opB; by_cases h4 : a0 = 4
 ·rw [if_pos h4, if_pos h4]
  by_cases h : a3 ≥ 19 <;> cases b <;> cases c <;> simp [h]
 ·rw [if_neg h4, if_neg h4]
  by_cases h5 : a0 = 5
  ·rw [if_pos h5, if_pos h5]
   by_cases h : a3 ≥ 1 <;> cases b <;> cases c <;> simp [h]
  ·rw [if_neg h5, if_neg h5]
   cases b <;> cases c <;> simp
theorem fields_j0 (b : Bool) (a0 a1 : Int) (a2 : ByteArray) (a3 : Int) (l : List S38) : ∃ k, tree_fields.j0 k b a0 a1 a2 a3 l = some (b && (nmB a0 a2 && opB a0 a3)) := by
 unfold nmB; by_cases h2 : a0 = 2
 ·obtain ⟨k, hk⟩ := name_any a2
  have hk1 := at_rounds (g := fun k => lex_Name.f k a2) (fun k => lex_Name.mono _ k) (show k ≤ k + 1 by omega) hk
  refine ⟨k + 1 + 1, ?_⟩
  rw [tree_fields.j0, if_pos h2, if_pos h2, hk1, Option.bind_some]; cases nameB (lst a2) with
  | true => rw [if_pos rfl, fields_j1]
  | false => rw [if_neg (by simp), fields_j1]
 ·exact ⟨1 + 1, by rw [tree_fields.j0, if_neg h2, if_neg h2, fields_j1]⟩
theorem fields_ok (a0 a1 : Int) (a2 : ByteArray) (a3 : Int) (l : List S38) : ∃ k, tree_fields.f k a0 a1 a2 a3 l = some (fieldsB a0 a1 a2 a3) := by
 unfold tree_fields.f fieldsB numB; by_cases h1 : a0 = 1
 ·by_cases h : a1 ≥ 0
  ·obtain ⟨k, hk⟩ := fields_j0 true a0 a1 a2 a3 l
   exact ⟨k, by rw [if_pos h1, if_pos h, if_pos h1, xdt h, hk]⟩
  ·obtain ⟨k, hk⟩ := fields_j0 false a0 a1 a2 a3 l
   exact ⟨k, by rw [if_pos h1, if_neg h, if_pos h1, xdf h, hk]⟩
 ·obtain ⟨k, hk⟩ := fields_j0 (a1 == 0) a0 a1 a2 a3 l
  exact ⟨k, by rw [if_neg h1, if_neg h1, hk]⟩
def wantE (k : Int) : Option Nat := if k = 1 then some 0 else if k = 2 then some 0 else if k = 3 then some 1 else if k = 4 then some 1 else if k = 5 then some 2 else none
def goE {α : Type} (f : Int → α → Bool × Int) : Int → List α → Bool × Int
 | n, [] => (true, n)
 | n, x :: xs => if (f n x).1 = true then goE f (f n x).2 xs else (false, (f n x).2)
def cE : Nat → Int → S38 → Bool × Int
 | 0, n, _ => (false, n)
 | d + 1, n, e => if n + 1 > 600 then (false, n + 1) else
  match wantE e.f0 with
  | none => (false, n + 1)
  | some k => if e.f4.length = k then (if fieldsB e.f0 e.f1 e.f2 e.f3 = true then goE (cE d) (n + 1) e.f4 else (false, n + 1)) else (false, n + 1)
def InC (r : Bool × Int) : Prop := 0 ≤ r.2 ∧ r.2 ≤ 601 ∧ (r.1 = true → r.2 ≤ 600)
theorem goE_in {α : Type} (f : Int → α → Bool × Int) (hf : ∀ n x, 0 ≤ n → n ≤ 600 → InC (f n x)) : ∀ (l : List α) (n : Int), 0 ≤ n → n ≤ 600 → InC (goE f n l)
 | [], n, h0, h1 => ⟨h0, by show n ≤ 601; omega, fun _ => h1⟩
 | x :: xs, n, h0, h1 => by
  obtain ⟨a, b, c⟩ := hf n x h0 h1; unfold goE; by_cases q : (f n x).1 = true
  ·rw [if_pos q]; exact goE_in f hf xs _ a (c q)
  ·rw [if_neg q]; exact ⟨a, b, fun h => by simp at h⟩
theorem cE_in : ∀ (d : Nat) (n : Int) (e : S38), 0 ≤ n → n ≤ 600 → InC (cE d n e)
 | 0, n, e, h0, h1 => ⟨h0, by show n ≤ 601; omega, fun h => by simp [cE] at h⟩
 | d + 1, n, e, h0, h1 => by
  unfold cE; have no : InC (false, n + 1) := ⟨by show 0 ≤ n + 1; omega, by show n + 1 ≤ 601; omega, fun h => by simp at h⟩
  by_cases q : n + 1 > 600
  ·rw [if_pos q]; exact no
  ·rw [if_neg q]
   cases wantE e.f0 with
   | none => exact no
   | some k =>
    show InC (if _ then _ else _); by_cases q2 : e.f4.length = k
    ·rw [if_pos q2]
     by_cases q3 : fieldsB e.f0 e.f1 e.f2 e.f3 = true
     ·rw [if_pos q3]; exact goE_in _ (fun n x a b => cE_in d n x a b) _ _ (by omega) (by omega)
     ·rw [if_neg q3]; exact no
    ·rw [if_neg q2]; exact no
theorem drop_rd38 (l : List S38) (i : Int) (h0 : 0 ≤ i) (h1 : i < (l.length : Int)) : l.drop i.toNat = rd_T38 l i :: l.drop (i + 1).toNat := by
 have hl : i.toNat < l.length := by omega
 rw [List.drop_eq_getElem_cons hl]; unfold rd_T38; rw [List.getD_eq_getElem?_getD, List.getElem?_eq_getElem hl]; have : (i + 1).toNat = i.toNat + 1 := by omega
 rw [this]
 rfl
def wantS (k : Int) : Option (Nat × Bool) :=
 if k = 1 then some (1, true) else if k = 2 then some (1, true) else if k = 3 then some (2, false) else if k = 4 then some (1, false) else if k = 8 then some (1, false) else
 if k = 5 then some (1, false) else if k = 6 then some (1, false) else if k = 7 then some (1, false) else if k = 9 then some (0, false) else none
def loopsB (k : Int) : Bool := k == 7 || k == 6
def cellB (k c : Int) : Bool := if k = 5 then decide (0 ≤ c) && decide (c ≤ 255) else c == 0
def headB (s : S41) : Bool :=
 match wantS s.f0 with
 | none => false
 | some (n, named) => s.f3.length == n && ((named == nameB (lst s.f1)) && (named || (s.f1.toList == ([] : List UInt8)))) && cellB s.f0 s.f2 && (loopsB s.f0 || s.f4.isEmpty) && (s.f0 == 6 || s.f5.isEmpty)
def cS (rec_ : Int → List S41 → Bool × Int) (n : Int) (s : S41) : Bool × Int :=
 if headB s = true then
  if (goE (cE 48) n s.f3).1 = true then
   if loopsB s.f0 = true then
    if (rec_ (goE (cE 48) n s.f3).2 s.f4).1 = true then
     if s.f5.length = 0 then (true, (rec_ (goE (cE 48) n s.f3).2 s.f4).2) else rec_ (rec_ (goE (cE 48) n s.f3).2 s.f4).2 s.f5
    else (false, (rec_ (goE (cE 48) n s.f3).2 s.f4).2)
   else (true, (goE (cE 48) n s.f3).2)
  else (false, (goE (cE 48) n s.f3).2)
 else (false, n)
def oneS (rec_ : Int → List S41 → Bool × Int) (n : Int) (s : S41) : Bool × Int := if n + 1 > 600 then (false, n + 1) else cS rec_ (n + 1) s
def cB : Nat → Int → List S41 → Bool × Int
 | 0, n, _ => (false, n)
 | b + 1, n, l => if 600 < l.length then (false, n) else goE (oneS (cB b)) n l
theorem cS_in (rec_ : Int → List S41 → Bool × Int) (hr : ∀ n l, 0 ≤ n → n ≤ 600 → InC (rec_ n l)) (n : Int) (s : S41) (h0 : 0 ≤ n) (h1 : n ≤ 600) : InC (cS rec_ n s) := by
 obtain ⟨a, b, c⟩ := goE_in (cE 48) (fun n x a b => cE_in 48 n x a b) s.f3 n h0 h1; unfold cS; by_cases q : headB s = true
 ·rw [if_pos q]
  by_cases q2 : (goE (cE 48) n s.f3).1 = true
  ·rw [if_pos q2]
   obtain ⟨a2, b2, c2⟩ := hr (goE (cE 48) n s.f3).2 s.f4 a (c q2); by_cases q3 : loopsB s.f0 = true
   ·rw [if_pos q3]
    by_cases q4 : (rec_ (goE (cE 48) n s.f3).2 s.f4).1 = true
    ·rw [if_pos q4]
     by_cases q5 : s.f5.length = 0
     ·rw [if_pos q5]; exact ⟨a2, b2, fun _ => c2 q4⟩
     ·rw [if_neg q5]; exact hr _ _ a2 (c2 q4)
    ·rw [if_neg q4]; exact ⟨a2, b2, fun h => by simp at h⟩
   ·rw [if_neg q3]; exact ⟨a, b, fun _ => c q2⟩
  ·rw [if_neg q2]; exact ⟨a, b, fun h => by simp at h⟩
 ·rw [if_neg q]; exact ⟨h0, by show n ≤ 601; omega, fun h => by simp at h⟩
theorem oneS_in (rec_ : Int → List S41 → Bool × Int) (hr : ∀ n l, 0 ≤ n → n ≤ 600 → InC (rec_ n l)) (n : Int) (s : S41) (h0 : 0 ≤ n) (h1 : n ≤ 600) : InC (oneS rec_ n s) := by
 unfold oneS; by_cases q : n + 1 > 600
 ·rw [if_pos q]; exact ⟨by show 0 ≤ n + 1; omega, by show n + 1 ≤ 601; omega, fun h => by simp at h⟩
 ·rw [if_neg q]; exact cS_in rec_ hr _ s (by omega) (by omega)
theorem cB_in : ∀ (b : Nat) (n : Int) (l : List S41), 0 ≤ n → n ≤ 600 → InC (cB b n l)
 | 0, n, l, h0, h1 => ⟨h0, by show n ≤ 601; omega, fun h => by simp [cB] at h⟩
 | b + 1, n, l, h0, h1 => by
  unfold cB; by_cases q : 600 < l.length
  ·rw [if_pos q]; exact ⟨h0, by show n ≤ 601; omega, fun h => by simp at h⟩
  ·rw [if_neg q]; exact goE_in _ (fun n x a c => oneS_in _ (fun n l a c => cB_in b n l a c) n x a c) _ _ h0 h1
def CPost (b : Bool) (m : Int) (g : Nat) (w0 w : World) (e : Ending) (w' : World) : Prop := e = .returned (.bool b) ∧ IsS95 w0 w' g m ∧ Below w0.heap.size w0 w' ∧ KeepBut w w' g none
theorem one_t (n : Int) (h0 : 0 ≤ n) (h1 : n + 1 ≤ 600) : tree_counter_one.f n = some (true, n + 1) := by
 have e : wrap64 (n + 1) = n + 1 := by unfold wrap64; omega
 unfold tree_counter_one.f; rw [e, xdt h1]
theorem one_f (n : Int) (h0 : 0 ≤ n) (h1 : n ≤ 600) (h2 : ¬ n + 1 ≤ 600) : tree_counter_one.f n = some (false, n + 1) := by
 have e : wrap64 (n + 1) = n + 1 := by unfold wrap64; omega
 unfold tree_counter_one.f; rw [e, xdf h2]
theorem expr_deep (a0 a1 : Int) (a2 : ByteArray) (a3 : Int) (l : List S38) (A : Option Addr) (c : Nat) (n : Int) (g : Nat) (w0 w : World) (hI : IsS95 w0 w g n) (hB : Below w0.heap.size w0 w) :
  Calls Try.prog 120 #[.pointer (some ⟨g, 0, none⟩), .agg #[.int .i64 a0, .int .i64 a1, .string a2, .int .i64 a3, .slice A l.length c], .int .i64 49] w (CPost false n g w0 w) := by
 have hu38 := Try.underlying38; have HI := A_0 hI; have HB := A_0 hB; have HK := A_0 (KeepBut.refl w g none); clear hI hB
 go_enter Try.func120, Try.ntmps120
 go_wp2
 go_ret
 exact z_217
theorem eta38 (x : S38) : (⟨x.f0, x.f1, x.f2, x.f3, x.f4⟩ : S38) = x := by cases x; rfl
def ERel (d : Nat) (l : List S38) (r : Bool × Int) (g : Nat) (w0 w : World) (v40 : Value) (w' : World) : Prop :=
 ∃ (i m : Int), v40 = .int .i64 i ∧ 0 ≤ i ∧ i ≤ (l.length : Int) ∧ 0 ≤ m ∧ m ≤ 600 ∧ Aside0 (goE (cE d) m (l.drop i.toNat) = r) ∧ Aside0 (IsS95 w0 w' g m) ∧ Aside0 (Below w0.heap.size w0 w') ∧ Aside0 (KeepBut w w' g none)
theorem fields_L (a0 a1 : Int) (a2 : ByteArray) (a3 : Int) (l : List S38) (L : Nat) (A : Option Addr) (c : Nat) (w : World) (hL : l.length = L) (hC : Kd.C k38 w A l.length l) (hc : L ≤ c) (r : Bool) (h : fieldsB a0 a1 a2 a3 = r) :
  Calls Try.prog 136 #[.agg #[.int .i64 a0, .int .i64 a1, .string a2, .int .i64 a3, .slice A L c]] w fun e w' => e = .returned (.bool r) ∧ Below w.heap.size w w' := by
 subst hL h; obtain ⟨k, hk⟩ := fields_ok a0 a1 a2 a3 l; exact tree_fields.calls k a0 a1 a2 a3 A c l _ w hC hc hk
def ExprC (d : Nat) : Prop := ∀ (a0 a1 : Int) (a2 : ByteArray) (a3 : Int) (l : List S38) (A : Option Addr) (c : Nat) (n : Int) (b : Bool) (m : Int) (g : Nat) (w0 w : World), Kd.C k38 w0 A l.length l → l.length ≤ c → 0 ≤ n → n ≤ 600 → IsS95 w0 w g n → Below w0.heap.size w0 w → cE d n ⟨a0, a1, a2, a3, l⟩ = (b, m) →
   ∀ deep : Int, deep = 49 - (d : Int) → Calls Try.prog 120 #[.pointer (some ⟨g, 0, none⟩), .agg #[.int .i64 a0, .int .i64 a1, .string a2, .int .i64 a3, .slice A l.length c], .int .i64 deep] w (CPost b m g w0 w)
theorem ExprC.use {d : Nat} (h : ExprC d) :  ∀ (a0 a1 : Int) (a2 : ByteArray) (a3 : Int) (l : List S38) (A : Option Addr) (c : Nat) (n : Int) (b : Bool) (m : Int) (g : Nat) (w0 w : World), Kd.C k38 w0 A l.length l → l.length ≤ c → 0 ≤ n → n ≤ 600 → IsS95 w0 w g n → Below w0.heap.size w0 w → cE d n ⟨a0, a1, a2, a3, l⟩ = (b, m) →
   ∀ deep : Int, deep = 49 - (d : Int) → Calls Try.prog 120 #[.pointer (some ⟨g, 0, none⟩), .agg #[.int .i64 a0, .int .i64 a1, .string a2, .int .i64 a3, .slice A l.length c], .int .i64 deep] w (CPost b m g w0 w) := h
theorem expr_many (d : Nat) (hd : d ≤ 48) (a0 a1 : Int) (a2 : ByteArray) (a3 : Int) (l : List S38) (L : Nat) (A : Option Addr) (c : Nat) (n : Int) (g : Nat) (w0 w : World) (h0 : 0 ≤ n) (h1 : n ≤ 600) (hI : IsS95 w0 w g n) (hB : Below w0.heap.size w0 w) (deep : Int) (hdeep : deep + 1 = 49 - (d : Int)) (q : ¬ n + 1 ≤ 600) : Calls Try.prog 120 #[.pointer (some ⟨g, 0, none⟩), .agg #[.int .i64 a0, .int .i64 a1, .string a2, .int .i64 a3, .slice A L c], .int .i64 deep] w (CPost false (n + 1) g w0 w) := by
 have hu38 := Try.underlying38; have HI := A_0 hI; have HB := A_0 hB; have HK := A_0 (KeepBut.refl w g none); have hdp : decide (48 < deep) = false := xdf (by omega); have hdlo : 0 ≤ deep := by omega
 have hdhi : deep ≤ 48 := by omega
 have HD := A_0 hdeep; clear hI hB hdeep; have H1 := A_0 (one_f n h0 h1 q)
 go_enter Try.func120, Try.ntmps120
 go_wp2_with (first | ((with_reducible refine gate_dst (N := 4) rfl ?_); refine bx (a38 a0 a1 a2 a3 A L c) 38 ?_; intro gb hg w2 hbox hb; replace HB := A_0 (xbs HB.out hb); replace HK := A_0 ((HK.out).trans (KeepBut.of_below hb g none) (.inl rfl)); have BK := A_0 hbox; have GN := A_0 (show gb ≠ g by have := IsS95.fresh HI.out gb (Nat.le_of_eq hg.symm); exact this); replace HI := A_0 (IsS95.below HI.out hb); have GE := A_0 (show w.heap.size ≤ gb by rw [hg]; exact xlr _); clear hb hbox hg))
 (with_reducible refine (tree_counter_one.calls g n _ _ w0 _ HI.out HB.out H1.out).mono ?_)
 rintro e w3 ⟨rfl, hi3, hb3, hk3⟩; replace HI := A_0 hi3; replace HB := A_0 hb3; replace HK := A_0 (HK.out.trans hk3 (.inl rfl)); replace BK := A_0 (KeepBut.blk hk3 BK.out GN.out (by simp)); clear hi3 hb3 hk3; obtain ⟨hcz0, hcz1, hcz2, hcz3, hcz4⟩ := blkc5 BK.out; obtain ⟨hfz0, hfz1, hfz2, hfz3, hfz4⟩ := blkf5 BK.out
 go_wp2
 go_ret
 exact z_217
theorem expr_kind (d : Nat) (hd : d ≤ 48) (a0 a1 : Int) (a2 : ByteArray) (a3 : Int) (l : List S38) (L : Nat) (A : Option Addr) (c : Nat) (n : Int) (g : Nat) (w0 w : World) (h0 : 0 ≤ n) (h1 : n ≤ 600) (hI : IsS95 w0 w g n) (hB : Below w0.heap.size w0 w) (deep : Int) (hdeep : deep + 1 = 49 - (d : Int)) (q : n + 1 ≤ 600) (k1 : a0 ≠ 1) (k2 : a0 ≠ 2) (k3 : a0 ≠ 3) (k4 : a0 ≠ 4) (k5 : a0 ≠ 5) : Calls Try.prog 120 #[.pointer (some ⟨g, 0, none⟩), .agg #[.int .i64 a0, .int .i64 a1, .string a2, .int .i64 a3, .slice A L c], .int .i64 deep] w (CPost false (n + 1) g w0 w) := by
 have hu38 := Try.underlying38; have HI := A_0 hI; have HB := A_0 hB; have HK := A_0 (KeepBut.refl w g none); have hdp : decide (48 < deep) = false := xdf (by omega); have hdlo : 0 ≤ deep := by omega
 have hdhi : deep ≤ 48 := by omega
 have HD := A_0 hdeep; clear hI hB hdeep; have H1 := A_0 (one_t n h0 q); have e1 : (a0 == 1) = false := beq_eq_false_iff_ne.2 k1; have e2 : (a0 == 2) = false := beq_eq_false_iff_ne.2 k2; have e3 : (a0 == 3) = false := beq_eq_false_iff_ne.2 k3; have e4 : (a0 == 4) = false := beq_eq_false_iff_ne.2 k4; have e5 : (a0 == 5) = false := beq_eq_false_iff_ne.2 k5
 go_enter Try.func120, Try.ntmps120
 go_wp2_with (first | ((with_reducible refine gate_dst (N := 4) rfl ?_); refine bx (a38 a0 a1 a2 a3 A L c) 38 ?_; intro gb hg w2 hbox hb; replace HB := A_0 (xbs HB.out hb); replace HK := A_0 ((HK.out).trans (KeepBut.of_below hb g none) (.inl rfl)); have BK := A_0 hbox; have GN := A_0 (show gb ≠ g by have := IsS95.fresh HI.out gb (Nat.le_of_eq hg.symm); exact this); replace HI := A_0 (IsS95.below HI.out hb); have GE := A_0 (show w.heap.size ≤ gb by rw [hg]; exact xlr _); clear hb hbox hg))
 (with_reducible refine (tree_counter_one.calls g n _ _ w0 _ HI.out HB.out H1.out).mono ?_)
 rintro e w3 ⟨rfl, hi3, hb3, hk3⟩; replace HI := A_0 hi3; replace HB := A_0 hb3; replace HK := A_0 (HK.out.trans hk3 (.inl rfl)); replace BK := A_0 (KeepBut.blk hk3 BK.out GN.out (by simp)); clear hi3 hb3 hk3; obtain ⟨hcz0, hcz1, hcz2, hcz3, hcz4⟩ := blkc5 BK.out; obtain ⟨hfz0, hfz1, hfz2, hfz3, hfz4⟩ := blkf5 BK.out
 go_wp2
 go_ret
 exact z_217
def KC (kd wi : Int) : Prop := (((kd == 1) = true ∧ (kd == 2) = false ∧ (kd == 3) = false ∧ (kd == 4) = false ∧ (kd == 5) = false) ∧ wi = 0) ∨ (((kd == 1) = false ∧ (kd == 2) = true ∧ (kd == 3) = false ∧ (kd == 4) = false ∧ (kd == 5) = false) ∧ wi = 0) ∨ (((kd == 1) = false ∧ (kd == 2) = false ∧ (kd == 3) = true ∧ (kd == 4) = false ∧ (kd == 5) = false) ∧ wi = 1) ∨ (((kd == 1) = false ∧ (kd == 2) = false ∧ (kd == 3) = false ∧ (kd == 4) = true ∧ (kd == 5) = false) ∧ wi = 1) ∨ (((kd == 1) = false ∧ (kd == 2) = false ∧ (kd == 3) = false ∧ (kd == 4) = false ∧ (kd == 5) = true) ∧ wi = 2)
theorem KC.of {kd : Int} {W : Nat} (h : wantE kd = some W) : KC kd (W : Int) ∧ (W : Int) ≤ 2 := by
 unfold wantE at h; by_cases c : kd = 1
 ·subst c; injection h with h; subst h; exact ⟨.inl ⟨by decide, rfl⟩, by decide⟩
 rw [if_neg c] at h; by_cases c : kd = 2
 ·subst c; injection h with h; subst h; exact ⟨.inr (.inl ⟨by decide, rfl⟩), by decide⟩
 rw [if_neg c] at h; by_cases c : kd = 3
 ·subst c; injection h with h; subst h; exact ⟨.inr (.inr (.inl ⟨by decide, rfl⟩)), by decide⟩
 rw [if_neg c] at h; by_cases c : kd = 4
 ·subst c; injection h with h; subst h; exact ⟨.inr (.inr (.inr (.inl ⟨by decide, rfl⟩))), by decide⟩
 rw [if_neg c] at h; by_cases c : kd = 5
 ·subst c; injection h with h; subst h; exact ⟨.inr (.inr (.inr (.inr ⟨by decide, rfl⟩))), by decide⟩
 rw [if_neg c] at h; cases h
theorem expr_len (kd wi : Int) (hk : KC kd wi) (hwi : wi ≤ 2) (d : Nat) (hd : d ≤ 48) (a1 : Int) (a2 : ByteArray) (a3 : Int) (l : List S38) (L : Nat) (A : Option Addr) (c : Nat) (n : Int) (g : Nat) (w0 w : World) (h0 : 0 ≤ n) (h1 : n ≤ 600) (hI : IsS95 w0 w g n) (hB : Below w0.heap.size w0 w) (deep : Int) (hdeep : deep + 1 = 49 - (d : Int)) (q : n + 1 ≤ 600) (hL : (L : Int) ≠ wi) : Calls Try.prog 120 #[.pointer (some ⟨g, 0, none⟩), .agg #[.int .i64 kd, .int .i64 a1, .string a2, .int .i64 a3, .slice A L c], .int .i64 deep] w (CPost false (n + 1) g w0 w) := by
 have hu38 := Try.underlying38; have HI := A_0 hI; have HB := A_0 hB; have HK := A_0 (KeepBut.refl w g none); have hdp : decide (48 < deep) = false := xdf (by omega); have hdlo : 0 ≤ deep := by omega
 have hdhi : deep ≤ 48 := by omega
 have HD := A_0 hdeep; clear hI hB hdeep; have H1 := A_0 (one_t n h0 q); obtain ⟨e1, e2⟩ := xnq hL; clear hL hwi; rcases hk with ⟨⟨k1, k2, k3, k4, k5⟩, rfl⟩ | ⟨⟨k1, k2, k3, k4, k5⟩, rfl⟩ | ⟨⟨k1, k2, k3, k4, k5⟩, rfl⟩ | ⟨⟨k1, k2, k3, k4, k5⟩, rfl⟩ | ⟨⟨k1, k2, k3, k4, k5⟩, rfl⟩
 all_goals
  go_enter Try.func120, Try.ntmps120
  go_wp2_with (first | ((with_reducible refine gate_dst (N := 4) rfl ?_); refine bx (a38 kd a1 a2 a3 A L c) 38 ?_; intro gb hg w2 hbox hb; replace HB := A_0 (xbs HB.out hb); replace HK := A_0 ((HK.out).trans (KeepBut.of_below hb g none) (.inl rfl)); have BK := A_0 hbox; have GN := A_0 (show gb ≠ g by have := IsS95.fresh HI.out gb (Nat.le_of_eq hg.symm); exact this); replace HI := A_0 (IsS95.below HI.out hb); have GE := A_0 (show w.heap.size ≤ gb by rw [hg]; exact xlr _); clear hb hbox hg))
  (with_reducible refine (tree_counter_one.calls g n _ _ w0 _ HI.out HB.out H1.out).mono ?_)
  rintro e w3 ⟨rfl, hi3, hb3, hk3⟩; replace HI := A_0 hi3; replace HB := A_0 hb3; replace HK := A_0 (HK.out.trans hk3 (.inl rfl)); replace BK := A_0 (KeepBut.blk hk3 BK.out GN.out (by simp)); clear hi3 hb3 hk3; obtain ⟨hcz0, hcz1, hcz2, hcz3, hcz4⟩ := blkc5 BK.out; obtain ⟨hfz0, hfz1, hfz2, hfz3, hfz4⟩ := blkf5 BK.out
  go_wp2
  go_ret
  exact z_217
theorem expr_fld (kd wi : Int) (hk : KC kd wi) (hwi : wi ≤ 2) (d : Nat) (hd : d ≤ 48) (a1 : Int) (a2 : ByteArray) (a3 : Int) (l : List S38) (L : Nat) (A : Option Addr) (c : Nat) (n : Int) (g : Nat) (w0 w : World) (hL : l.length = L) (hC : Kd.C k38 w0 A l.length l) (hc : L ≤ c) (h0 : 0 ≤ n) (h1 : n ≤ 600) (hI : IsS95 w0 w g n) (hB : Below w0.heap.size w0 w) (deep : Int) (hdeep : deep + 1 = 49 - (d : Int)) (q : n + 1 ≤ 600) (hW : (L : Int) = wi) (hf : fieldsB kd a1 a2 a3 = false) : Calls Try.prog 120 #[.pointer (some ⟨g, 0, none⟩), .agg #[.int .i64 kd, .int .i64 a1, .string a2, .int .i64 a3, .slice A L c], .int .i64 deep] w (CPost false (n + 1) g w0 w) := by
 have hu38 := Try.underlying38; have HI := A_0 hI; have HB := A_0 hB; have HK := A_0 (KeepBut.refl w g none); have hdp : decide (48 < deep) = false := xdf (by omega); have hdlo : 0 ≤ deep := by omega
 have hdhi : deep ≤ 48 := by omega
 have HD := A_0 hdeep; clear hI hB hdeep; have H1 := A_0 (one_t n h0 q); have hLs : (L : Int) ≤ 2 := by omega
 have e1 : ((L : Int) == wi) = true := beq_iff_eq.2 (by omega); have e2 : ((L : Int) != wi) = false := bne_eq_false_iff_eq.2 (by omega); have HL := A_0 hL; have HC := A_0 hC; have HCC := A_0 hc; have HF := A_0 hf; clear hW hL hC hc hf; clear hwi; rcases hk with ⟨⟨k1, k2, k3, k4, k5⟩, rfl⟩ | ⟨⟨k1, k2, k3, k4, k5⟩, rfl⟩ | ⟨⟨k1, k2, k3, k4, k5⟩, rfl⟩ | ⟨⟨k1, k2, k3, k4, k5⟩, rfl⟩ | ⟨⟨k1, k2, k3, k4, k5⟩, rfl⟩
 all_goals
  go_enter Try.func120, Try.ntmps120
  go_wp2_with (first | ((with_reducible refine gate_dst (N := 4) rfl ?_); refine bx (a38 kd a1 a2 a3 A L c) 38 ?_; intro gb hg w2 hbox hb; replace HB := A_0 (xbs HB.out hb); replace HK := A_0 ((HK.out).trans (KeepBut.of_below hb g none) (.inl rfl)); have BK := A_0 hbox; have GN := A_0 (show gb ≠ g by have := IsS95.fresh HI.out gb (Nat.le_of_eq hg.symm); exact this); replace HI := A_0 (IsS95.below HI.out hb); have GE := A_0 (show w.heap.size ≤ gb by rw [hg]; exact xlr _); clear hb hbox hg))
  (with_reducible refine (tree_counter_one.calls g n _ _ w0 _ HI.out HB.out H1.out).mono ?_)
  rintro e w3 ⟨rfl, hi3, hb3, hk3⟩; replace HI := A_0 hi3; replace HB := A_0 hb3; replace HK := A_0 (HK.out.trans hk3 (.inl rfl)); replace BK := A_0 (KeepBut.blk hk3 BK.out GN.out (by simp)); clear hi3 hb3 hk3; obtain ⟨hcz0, hcz1, hcz2, hcz3, hcz4⟩ := blkc5 BK.out; obtain ⟨hfz0, hfz1, hfz2, hfz3, hfz4⟩ := blkf5 BK.out
  go_wp2_with fail
  (with_reducible refine (fields_L kd a1 a2 a3 l L A c _ HL.out (z_218) HCC.out false HF.out).mono ?_)
  rintro e w4 ⟨rfl, hb4⟩; have n0_ := A_0 (IsS95.below (z_219) hb4); have n1_ := A_0 (xbs (z_12) hb4); have n2_ := A_0 (HK.out.trans (KeepBut.of_below hb4 g none) (.inl rfl)); have n3_ := A_0 (blk_below BK.out hb4); clear HI HB HK BK hb4 hcz0 hcz1 hcz2 hcz3 hcz4 hfz0 hfz1 hfz2 hfz3 hfz4; have HI := n0_; have HB := n1_; have HK := n2_; have BK := n3_; clear n0_ n1_ n2_ n3_; have hcz4 : w4.cell? ⟨gb, 4, none⟩ = some (.slice A L c) := (xbc BK.out 4).trans rfl; have hfz4 := xbz BK.out 4
  go_wp2
  go_ret
  exact z_217
theorem expr_go (kd wi : Int) (hk : KC kd wi) (hwi : wi ≤ 2) (d : Nat) (hd : d ≤ 48) (a1 : Int) (a2 : ByteArray) (a3 : Int) (l : List S38) (L : Nat) (A : Option Addr) (c : Nat) (n : Int) (g : Nat) (w0 w : World) (hL : l.length = L) (hC : Kd.C k38 w0 A l.length l) (hc : L ≤ c) (h0 : 0 ≤ n) (h1 : n ≤ 600) (hI : IsS95 w0 w g n) (hB : Below w0.heap.size w0 w) (deep : Int) (hdeep : deep + 1 = 49 - (d : Int)) (IH0 : ExprC d) (b : Bool) (m : Int) (q : n + 1 ≤ 600) (hW : (L : Int) = wi) (hf : fieldsB kd a1 a2 a3 = true) (hr : goE (cE d) (n + 1) l = (b, m)) : Calls Try.prog 120 #[.pointer (some ⟨g, 0, none⟩), .agg #[.int .i64 kd, .int .i64 a1, .string a2, .int .i64 a3, .slice A L c], .int .i64 deep] w (CPost b m g w0 w) := by
 have hu38 := Try.underlying38; have HI := A_0 hI; have HB := A_0 hB; have HK := A_0 (KeepBut.refl w g none); have hdp : decide (48 < deep) = false := xdf (by omega); have hdlo : 0 ≤ deep := by omega
 have hdhi : deep ≤ 48 := by omega
 have HD := A_0 hdeep; clear hI hB hdeep; have H1 := A_0 (one_t n h0 q); have hLs : (L : Int) ≤ 2 := by omega
 have e1 : ((L : Int) == wi) = true := beq_iff_eq.2 (by omega); have e2 : ((L : Int) != wi) = false := bne_eq_false_iff_eq.2 (by omega); have HL := A_0 hL; have HC := A_0 hC; have HCC := A_0 hc; have HF := A_0 hf; clear hW hL hC hc hf; have HR := A_0 hr; have IH := A_0 IH0; clear hr IH0; clear hwi; rcases hk with ⟨⟨k1, k2, k3, k4, k5⟩, rfl⟩ | ⟨⟨k1, k2, k3, k4, k5⟩, rfl⟩ | ⟨⟨k1, k2, k3, k4, k5⟩, rfl⟩ | ⟨⟨k1, k2, k3, k4, k5⟩, rfl⟩ | ⟨⟨k1, k2, k3, k4, k5⟩, rfl⟩
 all_goals
  go_enter Try.func120, Try.ntmps120
  go_wp2_with (first | ((with_reducible refine gate_dst (N := 4) rfl ?_); refine bx (a38 kd a1 a2 a3 A L c) 38 ?_; intro gb hg w2 hbox hb; replace HB := A_0 (xbs HB.out hb); replace HK := A_0 ((HK.out).trans (KeepBut.of_below hb g none) (.inl rfl)); have BK := A_0 hbox; have GN := A_0 (show gb ≠ g by have := IsS95.fresh HI.out gb (Nat.le_of_eq hg.symm); exact this); replace HI := A_0 (IsS95.below HI.out hb); have GE := A_0 (show w.heap.size ≤ gb by rw [hg]; exact xlr _); clear hb hbox hg))
  (with_reducible refine (tree_counter_one.calls g n _ _ w0 _ HI.out HB.out H1.out).mono ?_)
  rintro e w3 ⟨rfl, hi3, hb3, hk3⟩; replace HI := A_0 hi3; replace HB := A_0 hb3; replace HK := A_0 (HK.out.trans hk3 (.inl rfl)); replace BK := A_0 (KeepBut.blk hk3 BK.out GN.out (by simp)); clear hi3 hb3 hk3; obtain ⟨hcz0, hcz1, hcz2, hcz3, hcz4⟩ := blkc5 BK.out; obtain ⟨hfz0, hfz1, hfz2, hfz3, hfz4⟩ := blkf5 BK.out
  go_wp2_with fail
  (with_reducible refine (fields_L kd a1 a2 a3 l L A c _ HL.out (z_218) HCC.out true HF.out).mono ?_)
  rintro e w4 ⟨rfl, hb4⟩; have n0_ := A_0 (IsS95.below (z_219) hb4); have n1_ := A_0 (xbs (z_12) hb4); have n2_ := A_0 (HK.out.trans (KeepBut.of_below hb4 g none) (.inl rfl)); have n3_ := A_0 (blk_below BK.out hb4); clear HI HB HK BK hb4 hcz0 hcz1 hcz2 hcz3 hcz4 hfz0 hfz1 hfz2 hfz3 hfz4; have HI := n0_; have HB := n1_; have HK := n2_; have BK := n3_; clear n0_ n1_ n2_ n3_; have hcz4 : w4.cell? ⟨gb, 4, none⟩ = some (.slice A L c) := (xbc BK.out 4).trans rfl; have hfz4 := xbz BK.out 4
  go_wp2
  go_loopw [40] (fun v40 wr => ERel d l (b, m) g w0 w v40 wr) (fun v40 _ => l.length - (intOf v40).toNat)
  case atStart => exact ⟨0, n + 1, rfl, Int.le_refl _, by omega, by omega, q, HR, HI, HB, HK⟩
  case round =>
   unfold ERel at hrel; clear HR HI HB HK; obtain ⟨i, j, rfl, hi0, hi1, hj0, hj1, HR, HI, HB, HK⟩ := hrel; by_cases hlt : i < (L : Int)
   ·have hlt' : i < (l.length : Int) := by rw [HL.out]; exact hlt
    have hb0 := xdt hlt; have hdr := drop_rd38 l i hi0 hlt'; have HR0 := HR.out; rw [hdr] at HR0; unfold goE at HR0; obtain ⟨ad, A4, c4, eA, hx0, hx1, hx2, hx3, hx4, hl4, hi4⟩ := at_T38 HC.out i hi0 hlt'; subst eA; replace hx0 := (HB.out.cell (xqb w0 _ hx0)).trans hx0; replace hx1 := (HB.out.cell (xqb w0 _ hx1)).trans hx1; replace hx2 := (HB.out.cell (xqb w0 _ hx2)).trans hx2; replace hx3 := (HB.out.cell (xqb w0 _ hx3)).trans hx3; replace hx4 := (HB.out.cell (xqb w0 _ hx4)).trans hx4; have HC4 := A_0 hi4; have HL4 := A_0 hl4; have p1 := eq_true hi0; have p2 := eq_true hlt; obtain ⟨b1, m1, hr1⟩ : ∃ b1 m1, cE d j (rd_T38 l i) = (b1, m1) := ⟨_, _, rfl⟩; have hin := cE_in d j (rd_T38 l i) hj0 hj1; rw [hr1] at HR0 hin; have HR1 := A_0 (show cE d j ⟨(rd_T38 l i).f0, (rd_T38 l i).f1, (rd_T38 l i).f2, (rd_T38 l i).f3, (rd_T38 l i).f4⟩ = (b1, m1) from by rw [eta38]; exact hr1)
    have HIN := A_0 hin; clear hdr hr1 hi4 hl4 hin HR; cases b1 with
    | true =>
     have HR := A_0 (show goE (cE d) m1 (l.drop (i + 1).toNat) = (b, m) from HR0); clear HR0
     go_wp2_with fail
     (with_reducible refine (IH.out.use (rd_T38 l i).f0 (rd_T38 l i).f1 (rd_T38 l i).f2 (rd_T38 l i).f3 (rd_T38 l i).f4 A4 c4 j true m1 g w0 _ HC4.out HL4.out hj0 hj1 (z_219) (z_12) HR1.out _ HD.out).mono ?_)
     rintro e w5 ⟨rfl, hi5, hb5, hk5⟩; have n0_ := A_0 hi5; have n1_ := A_0 hb5; have n2_ := A_0 (KeepBut.trans (show KeepBut w _ g none from z_220) hk5 (.inl rfl)); clear HI HB HK hi5 hb5 hk5; have HI := n0_; have HB := n1_; have HK := n2_; clear n0_ n1_ n2_
     go_wp2
     go_roundw
     case rel => exact ⟨i + 1, m1, rfl, by omega, by omega, HIN.out.1, HIN.out.2.2 rfl, HR, ⟨z_219⟩, ⟨z_12⟩, ⟨z_220⟩⟩
     case measure => simp [intOf]; omega
    | false =>
     have HE := A_0 (show (false, m1) = (b, m) from HR0); clear HR0
     go_wp2_with fail
     (with_reducible refine (IH.out.use (rd_T38 l i).f0 (rd_T38 l i).f1 (rd_T38 l i).f2 (rd_T38 l i).f3 (rd_T38 l i).f4 A4 c4 j false m1 g w0 _ HC4.out HL4.out hj0 hj1 (z_219) (z_12) HR1.out _ HD.out).mono ?_)
     rintro e w5 ⟨rfl, hi5, hb5, hk5⟩; have n0_ := A_0 hi5; have n1_ := A_0 hb5; have n2_ := A_0 (KeepBut.trans (show KeepBut w _ g none from z_220) hk5 (.inl rfl)); clear HI HB HK hi5 hb5 hk5; have HI := n0_; have HB := n1_; have HK := n2_; clear n0_ n1_ n2_
     go_wp2
     go_ret
     have he := HE.out; injection he with he1 he2; subst he1 he2; exact z_217
   ·have hb0 := xdf hlt
    have he : goE (cE d) j (l.drop i.toNat) = (true, j) := by
     rw [List.drop_eq_nil_of_le (by have := HL.out; omega)]
     rfl
    have HE := A_0 (he.symm.trans HR.out); clear he HR
    go_wp2
    go_ret
    have he := HE.out; injection he with he1 he2; subst he1 he2; exact z_217
theorem expr_all : ∀ d : Nat, d ≤ 49 → ExprC d
 | 0, _ => by
  intro a0 a1 a2 a3 l A c n b m g w0 w hC hc h0 h1 hI hB hr deep hdeep; have e : deep = 49 := by omega
  subst e; injection hr with e1 e2; subst e1 e2; exact expr_deep a0 a1 a2 a3 l A c n g w0 w hI hB
 | d + 1, hd => by
  have ih := expr_all d (by omega); intro a0 a1 a2 a3 l A c n b m g w0 w hC hc h0 h1 hI hB hr deep hdeep; have hdeep' : deep + 1 = 49 - (d : Int) := by omega
  have hd' : d ≤ 48 := by omega
  unfold cE at hr; by_cases q : n + 1 > 600
  ·rw [if_pos q] at hr
   injection hr with e1 e2; subst e1 e2; exact expr_many d hd' a0 a1 a2 a3 l l.length A c n g w0 w h0 h1 hI hB deep hdeep' (by omega)
  ·rw [if_neg q] at hr
   have q' : n + 1 ≤ 600 := by omega
   simp only at hr; cases hw : wantE a0 with
   | some W =>
    rw [hw] at hr; simp only at hr; obtain ⟨hk, hwi⟩ := KC.of hw; by_cases hl : l.length = W
    ·rw [if_pos hl] at hr
     cases hf : fieldsB a0 a1 a2 a3 with
     | true =>
      rw [if_pos hf] at hr; exact expr_go a0 (W : Int) hk hwi d hd' a1 a2 a3 l l.length A c n g w0 w rfl hC hc h0 h1 hI hB deep hdeep' ih b m q' (by rw [hl]) hf hr
     | false =>
      rw [if_neg (by rw [hf]; simp)] at hr; injection hr with e1 e2; subst e1 e2; exact expr_fld a0 (W : Int) hk hwi d hd' a1 a2 a3 l l.length A c n g w0 w rfl hC hc h0 h1 hI hB deep hdeep' q' (by rw [hl]) hf
    ·rw [if_neg hl] at hr
     injection hr with e1 e2; subst e1 e2; exact expr_len a0 (W : Int) hk hwi d hd' a1 a2 a3 l l.length A c n g w0 w h0 h1 hI hB deep hdeep' q' (by omega)
   | none =>
    rw [hw] at hr; injection hr with e1 e2; subst e1 e2
    have hz : ∀ k : Int, k = 1 ∨ k = 2 ∨ k = 3 ∨ k = 4 ∨ k = 5 → a0 ≠ k := by
     intro k hk e; subst e; rcases hk with e | e | e | e | e <;> (subst e; cases hw)
    exact expr_kind d hd' a0 a1 a2 a3 l l.length A c n g w0 w h0 h1 hI hB deep hdeep' q' (hz 1 (by simp)) (hz 2 (by simp)) (hz 3 (by simp)) (hz 4 (by simp)) (hz 5 (by simp))
theorem name_L (s : ByteArray) (b : Bool) (w : World) (h : nameB (lst s) = b) : Calls Try.prog 119 #[.string s] w fun e w' => e = .returned (.bool b) ∧ Drawn0 w w' := by
 subst h; obtain ⟨k, hk⟩ := name_any s; exact lex_Name.calls k s _ w hk
theorem stmt_kind (k : Int) (f1 : ByteArray) (f2 : Int) (l3 : List S38) (l4 l5 : List S41) (L3 L4 L5 : Nat) (A3 A4 A5 : Option Addr) (c3 c4 c5 : Nat) (n : Int) (g : Nat) (w0 w : World) (h0 : 0 ≤ n) (h1 : n ≤ 600) (hI : IsS95 w0 w g n) (hB : Below w0.heap.size w0 w) (bl : Int) (hbl0 : 0 ≤ bl) (hbl1 : bl ≤ 13) (hk : ∀ j : Int, 1 ≤ j → j ≤ 9 → k ≠ j) : Calls Try.prog 94 #[.pointer (some ⟨g, 0, none⟩), .agg #[.int .i64 k, .string f1, .int .i64 f2, .slice A3 L3 c3, .slice A4 L4 c4, .slice A5 L5 c5], .int .i64 bl] w (CPost false n g w0 w) := by
 have hu41 := Try.underlying41; have HI := A_0 hI; have HB := A_0 hB; have HK := A_0 (KeepBut.refl w g none); clear hI hB; have e1 : (k == 1) = false := beq_eq_false_iff_ne.2 (hk 1 (by omega) (by omega)); have e2 : (k == 2) = false := beq_eq_false_iff_ne.2 (hk 2 (by omega) (by omega)); have e3 : (k == 3) = false := beq_eq_false_iff_ne.2 (hk 3 (by omega) (by omega)); have e4 : (k == 4) = false := beq_eq_false_iff_ne.2 (hk 4 (by omega) (by omega)); have e5 : (k == 5) = false := beq_eq_false_iff_ne.2 (hk 5 (by omega) (by omega)); have e6 : (k == 6) = false := beq_eq_false_iff_ne.2 (hk 6 (by omega) (by omega)); have e7 : (k == 7) = false := beq_eq_false_iff_ne.2 (hk 7 (by omega) (by omega)); have e8 : (k == 8) = false := beq_eq_false_iff_ne.2 (hk 8 (by omega) (by omega)); have e9 : (k == 9) = false := beq_eq_false_iff_ne.2 (hk 9 (by omega) (by omega)); clear hk
 go_enter Try.func94, Try.ntmps94
 go_wp2_with (first | ((with_reducible refine gate_dst (N := 4) rfl ?_); refine bx (a41 k f1 f2 A3 L3 c3 A4 L4 c4 A5 L5 c5) 41 ?_; intro gb hg w2 hbox hb; replace HB := A_0 (xbs HB.out hb); replace HK := A_0 ((HK.out).trans (KeepBut.of_below hb g none) (.inl rfl)); have BK := A_0 hbox; have GN := A_0 (show gb ≠ g by have := IsS95.fresh HI.out gb (Nat.le_of_eq hg.symm); exact this); replace HI := A_0 (IsS95.below HI.out hb); clear hb hbox hg; obtain ⟨hcz0, hcz1, hcz2, hcz3, hcz4, hcz5⟩ := blkc6 BK.out; obtain ⟨hfz0, hfz1, hfz2, hfz3, hfz4, hfz5⟩ := blkf6 BK.out))
 go_ret
 exact z_217
theorem stmt_b1 (k : Int) (f1 : ByteArray) (f2 : Int) (l3 : List S38) (l4 l5 : List S41) (L3 L4 L5 : Nat) (A3 A4 A5 : Option Addr) (c3 c4 c5 : Nat) (n : Int) (g : Nat) (w0 w : World) (h0 : 0 ≤ n) (h1 : n ≤ 600) (hI : IsS95 w0 w g n) (hB : Below w0.heap.size w0 w) (bl : Int) (hbl0 : 0 ≤ bl) (hbl1 : bl ≤ 13) (W : Int) (nm nb : Bool) (hW : 0 ≤ W ∧ W ≤ 2) (hk : (k = 1 ∧ W = 1 ∧ nm = true) ∨ (k = 2 ∧ W = 1 ∧ nm = true) ∨ (k = 3 ∧ W = 2 ∧ nm = false) ∨ (k = 4 ∧ W = 1 ∧ nm = false) ∨ (k = 5 ∧ W = 1 ∧ nm = false) ∨ (k = 6 ∧ W = 1 ∧ nm = false) ∨ (k = 7 ∧ W = 1 ∧ nm = false) ∨ (k = 8 ∧ W = 1 ∧ nm = false) ∨ (k = 9 ∧ W = 0 ∧ nm = false)) (hnb : nameB (lst f1) = nb) (hl : (L3 : Int) ≠ W) : Calls Try.prog 94 #[.pointer (some ⟨g, 0, none⟩), .agg #[.int .i64 k, .string f1, .int .i64 f2, .slice A3 L3 c3, .slice A4 L4 c4, .slice A5 L5 c5], .int .i64 bl] w (CPost false n g w0 w) := by
 have hu41 := Try.underlying41; have HI := A_0 hI; have HB := A_0 hB; have HK := A_0 (KeepBut.refl w g none); clear hI hB; have HKI := Lib.hid hk; have HN := A_0 hnb; clear hk hnb; have e1 : ((L3 : Int) != W) = true := bne_iff_ne.2 hl; have e1' : ((L3 : Int) == W) = false := beq_eq_false_iff_ne.2 hl; clear hl
 go_enter Try.func94, Try.ntmps94
 go_upto_block 0 with (first | ((with_reducible refine gate_dst (N := 4) rfl ?_); refine bx (a41 k f1 f2 A3 L3 c3 A4 L4 c4 A5 L5 c5) 41 ?_; intro gb hg w2 hbox hb; replace HB := A_0 (xbs HB.out hb); replace HK := A_0 ((HK.out).trans (KeepBut.of_below hb g none) (.inl rfl)); have BK := A_0 hbox; have GN := A_0 (show gb ≠ g by have := IsS95.fresh HI.out gb (Nat.le_of_eq hg.symm); exact this); replace HI := A_0 (IsS95.below HI.out hb); clear hb hbox hg; obtain ⟨hcz0, hcz1, hcz2, hcz3, hcz4, hcz5⟩ := blkc6 BK.out; obtain ⟨hfz0, hfz1, hfz2, hfz3, hfz4, hfz5⟩ := blkf6 BK.out))
 go_cut [7, 8] (fun s7 s8 wx => s7 = .int .i64 W ∧ s8 = .bool nm ∧ w2 = wx)
 case first =>
  rcases HKI.out with ⟨rfl, rfl, rfl⟩ | ⟨rfl, rfl, rfl⟩ | ⟨rfl, rfl, rfl⟩ | ⟨rfl, rfl, rfl⟩ | ⟨rfl, rfl, rfl⟩ | ⟨rfl, rfl, rfl⟩ | ⟨rfl, rfl, rfl⟩ | ⟨rfl, rfl, rfl⟩ | ⟨rfl, rfl, rfl⟩
  all_goals (go_wp2_with fail; go_meet; exact z_182)
 case rest =>
  obtain ⟨rfl, rfl, rfl⟩ := hcut
  go_wp2_with (first | (go_at_call 119; (with_reducible refine (name_L f1 _ _ HN.out).mono ?_); rintro e w' ⟨rfl, ⟨nd, rfl⟩⟩))
  go_ret
  exact z_217
theorem stmt_b2 (k : Int) (f1 : ByteArray) (f2 : Int) (l3 : List S38) (l4 l5 : List S41) (L3 L4 L5 : Nat) (A3 A4 A5 : Option Addr) (c3 c4 c5 : Nat) (n : Int) (g : Nat) (w0 w : World) (h0 : 0 ≤ n) (h1 : n ≤ 600) (hI : IsS95 w0 w g n) (hB : Below w0.heap.size w0 w) (bl : Int) (hbl0 : 0 ≤ bl) (hbl1 : bl ≤ 13) (W : Int) (nm nb : Bool) (hW : 0 ≤ W ∧ W ≤ 2) (hk : (k = 1 ∧ W = 1 ∧ nm = true) ∨ (k = 2 ∧ W = 1 ∧ nm = true) ∨ (k = 3 ∧ W = 2 ∧ nm = false) ∨ (k = 4 ∧ W = 1 ∧ nm = false) ∨ (k = 5 ∧ W = 1 ∧ nm = false) ∨ (k = 6 ∧ W = 1 ∧ nm = false) ∨ (k = 7 ∧ W = 1 ∧ nm = false) ∨ (k = 8 ∧ W = 1 ∧ nm = false) ∨ (k = 9 ∧ W = 0 ∧ nm = false)) (hnb : nameB (lst f1) = nb) (hl : (L3 : Int) = W) (hn : nm ≠ nb) : Calls Try.prog 94 #[.pointer (some ⟨g, 0, none⟩), .agg #[.int .i64 k, .string f1, .int .i64 f2, .slice A3 L3 c3, .slice A4 L4 c4, .slice A5 L5 c5], .int .i64 bl] w (CPost false n g w0 w) := by
 have hu41 := Try.underlying41; have HI := A_0 hI; have HB := A_0 hB; have HK := A_0 (KeepBut.refl w g none); clear hI hB; have HKI := Lib.hid hk; have HN := A_0 hnb; clear hk hnb; have e1 : ((L3 : Int) != W) = false := bne_eq_false_iff_eq.2 hl; have e1' : ((L3 : Int) == W) = true := beq_iff_eq.2 hl; have HL := Lib.hid hl; clear hl
 go_enter Try.func94, Try.ntmps94
 go_upto_block 0 with (first | ((with_reducible refine gate_dst (N := 4) rfl ?_); refine bx (a41 k f1 f2 A3 L3 c3 A4 L4 c4 A5 L5 c5) 41 ?_; intro gb hg w2 hbox hb; replace HB := A_0 (xbs HB.out hb); replace HK := A_0 ((HK.out).trans (KeepBut.of_below hb g none) (.inl rfl)); have BK := A_0 hbox; have GN := A_0 (show gb ≠ g by have := IsS95.fresh HI.out gb (Nat.le_of_eq hg.symm); exact this); replace HI := A_0 (IsS95.below HI.out hb); clear hb hbox hg; obtain ⟨hcz0, hcz1, hcz2, hcz3, hcz4, hcz5⟩ := blkc6 BK.out; obtain ⟨hfz0, hfz1, hfz2, hfz3, hfz4, hfz5⟩ := blkf6 BK.out))
 go_cut [7, 8] (fun s7 s8 wx => s7 = .int .i64 W ∧ s8 = .bool nm ∧ w2 = wx)
 case first =>
  rcases HKI.out with ⟨rfl, rfl, rfl⟩ | ⟨rfl, rfl, rfl⟩ | ⟨rfl, rfl, rfl⟩ | ⟨rfl, rfl, rfl⟩ | ⟨rfl, rfl, rfl⟩ | ⟨rfl, rfl, rfl⟩ | ⟨rfl, rfl, rfl⟩ | ⟨rfl, rfl, rfl⟩ | ⟨rfl, rfl, rfl⟩
  all_goals (go_wp2_with fail; go_meet; exact z_182)
 case rest =>
  obtain ⟨rfl, rfl, rfl⟩ := hcut; cases nm <;> cases nb <;> (first | exact absurd rfl hn | (clear hn; go_wp2_with (first | (go_at_call 119; (with_reducible refine (name_L f1 _ _ HN.out).mono ?_); rintro e w' ⟨rfl, ⟨nd, rfl⟩⟩)); go_ret; exact z_217))
theorem stmt_b3 (k : Int) (f1 : ByteArray) (f2 : Int) (l3 : List S38) (l4 l5 : List S41) (L3 L4 L5 : Nat) (A3 A4 A5 : Option Addr) (c3 c4 c5 : Nat) (n : Int) (g : Nat) (w0 w : World) (h0 : 0 ≤ n) (h1 : n ≤ 600) (hI : IsS95 w0 w g n) (hB : Below w0.heap.size w0 w) (bl : Int) (hbl0 : 0 ≤ bl) (hbl1 : bl ≤ 13) (W : Int) (nm nb : Bool) (hW : 0 ≤ W ∧ W ≤ 2) (hk : (k = 1 ∧ W = 1 ∧ nm = true) ∨ (k = 2 ∧ W = 1 ∧ nm = true) ∨ (k = 3 ∧ W = 2 ∧ nm = false) ∨ (k = 4 ∧ W = 1 ∧ nm = false) ∨ (k = 5 ∧ W = 1 ∧ nm = false) ∨ (k = 6 ∧ W = 1 ∧ nm = false) ∨ (k = 7 ∧ W = 1 ∧ nm = false) ∨ (k = 8 ∧ W = 1 ∧ nm = false) ∨ (k = 9 ∧ W = 0 ∧ nm = false)) (hnb : nameB (lst f1) = nb) (hl : (L3 : Int) = W) (hn : nm = false) (hn2 : nb = false) (hf : f1.toList ≠ []) : Calls Try.prog 94 #[.pointer (some ⟨g, 0, none⟩), .agg #[.int .i64 k, .string f1, .int .i64 f2, .slice A3 L3 c3, .slice A4 L4 c4, .slice A5 L5 c5], .int .i64 bl] w (CPost false n g w0 w) := by
 have hu41 := Try.underlying41; have HI := A_0 hI; have HB := A_0 hB; have HK := A_0 (KeepBut.refl w g none); clear hI hB; have HKI := Lib.hid hk; have HN := A_0 hnb; clear hk hnb; have e1 : ((L3 : Int) != W) = false := bne_eq_false_iff_eq.2 hl; have e1' : ((L3 : Int) == W) = true := beq_iff_eq.2 hl; have HL := Lib.hid hl; clear hl; have HNM := Lib.hid hn; have HNB := Lib.hid hn2; clear hn hn2; obtain ⟨e2, e3⟩ := xnq hf
 have e4 : (!f1.toList.isEmpty) = true := by
  cases h : f1.toList with
  | nil => exact absurd h hf
  | cons => rfl
 have e5 : f1.toList.isEmpty = false := by
  cases h : f1.toList with
  | nil => exact absurd h hf
  | cons => rfl
 go_enter Try.func94, Try.ntmps94
 go_upto_block 0 with (first | ((with_reducible refine gate_dst (N := 4) rfl ?_); refine bx (a41 k f1 f2 A3 L3 c3 A4 L4 c4 A5 L5 c5) 41 ?_; intro gb hg w2 hbox hb; replace HB := A_0 (xbs HB.out hb); replace HK := A_0 ((HK.out).trans (KeepBut.of_below hb g none) (.inl rfl)); have BK := A_0 hbox; have GN := A_0 (show gb ≠ g by have := IsS95.fresh HI.out gb (Nat.le_of_eq hg.symm); exact this); replace HI := A_0 (IsS95.below HI.out hb); clear hb hbox hg; obtain ⟨hcz0, hcz1, hcz2, hcz3, hcz4, hcz5⟩ := blkc6 BK.out; obtain ⟨hfz0, hfz1, hfz2, hfz3, hfz4, hfz5⟩ := blkf6 BK.out))
 go_cut [7, 8] (fun s7 s8 wx => s7 = .int .i64 W ∧ s8 = .bool nm ∧ w2 = wx)
 case first =>
  rcases HKI.out with ⟨rfl, rfl, rfl⟩ | ⟨rfl, rfl, rfl⟩ | ⟨rfl, rfl, rfl⟩ | ⟨rfl, rfl, rfl⟩ | ⟨rfl, rfl, rfl⟩ | ⟨rfl, rfl, rfl⟩ | ⟨rfl, rfl, rfl⟩ | ⟨rfl, rfl, rfl⟩ | ⟨rfl, rfl, rfl⟩
  all_goals (go_wp2_with fail; go_meet; exact z_182)
 case rest =>
  obtain ⟨rfl, rfl, rfl⟩ := hcut; obtain rfl := HNM.out; obtain rfl := HNB.out
  go_wp2_with (first | (go_at_call 119; (with_reducible refine (name_L f1 _ _ HN.out).mono ?_); rintro e w' ⟨rfl, ⟨nd, rfl⟩⟩))
  go_ret
  exact z_217
theorem stmt_b4 (k : Int) (f1 : ByteArray) (f2 : Int) (l3 : List S38) (l4 l5 : List S41) (L3 L4 L5 : Nat) (A3 A4 A5 : Option Addr) (c3 c4 c5 : Nat) (n : Int) (g : Nat) (w0 w : World) (h0 : 0 ≤ n) (h1 : n ≤ 600) (hI : IsS95 w0 w g n) (hB : Below w0.heap.size w0 w) (bl : Int) (hbl0 : 0 ≤ bl) (hbl1 : bl ≤ 13) (W : Int) (nm nb : Bool) (hW : 0 ≤ W ∧ W ≤ 2) (hk : (k = 1 ∧ W = 1 ∧ nm = true) ∨ (k = 2 ∧ W = 1 ∧ nm = true) ∨ (k = 3 ∧ W = 2 ∧ nm = false) ∨ (k = 4 ∧ W = 1 ∧ nm = false) ∨ (k = 5 ∧ W = 1 ∧ nm = false) ∨ (k = 6 ∧ W = 1 ∧ nm = false) ∨ (k = 7 ∧ W = 1 ∧ nm = false) ∨ (k = 8 ∧ W = 1 ∧ nm = false) ∨ (k = 9 ∧ W = 0 ∧ nm = false)) (hnb : nameB (lst f1) = nb) (hl : (L3 : Int) = W) (hn : (nm = true ∧ nb = true) ∨ (nm = false ∧ nb = false ∧ f1.toList = [])) (hc : (k = 5 ∧ (f2 < 0 ∨ (0 ≤ f2 ∧ 255 < f2))) ∨ (k ≠ 5 ∧ f2 ≠ 0)) : Calls Try.prog 94 #[.pointer (some ⟨g, 0, none⟩), .agg #[.int .i64 k, .string f1, .int .i64 f2, .slice A3 L3 c3, .slice A4 L4 c4, .slice A5 L5 c5], .int .i64 bl] w (CPost false n g w0 w) := by
 have hu41 := Try.underlying41; have HI := A_0 hI; have HB := A_0 hB; have HK := A_0 (KeepBut.refl w g none); clear hI hB; have HKI := Lib.hid hk; have HN := A_0 hnb; clear hk hnb; have e1 : ((L3 : Int) != W) = false := bne_eq_false_iff_eq.2 hl; have e1' : ((L3 : Int) == W) = true := beq_iff_eq.2 hl; have HL := Lib.hid hl; clear hl; have HNM := Lib.hid hn; clear hn; have HCL := Lib.hid hc; clear hc
 go_enter Try.func94, Try.ntmps94
 go_upto_block 0 with (first | ((with_reducible refine gate_dst (N := 4) rfl ?_); refine bx (a41 k f1 f2 A3 L3 c3 A4 L4 c4 A5 L5 c5) 41 ?_; intro gb hg w2 hbox hb; replace HB := A_0 (xbs HB.out hb); replace HK := A_0 ((HK.out).trans (KeepBut.of_below hb g none) (.inl rfl)); have BK := A_0 hbox; have GN := A_0 (show gb ≠ g by have := IsS95.fresh HI.out gb (Nat.le_of_eq hg.symm); exact this); replace HI := A_0 (IsS95.below HI.out hb); clear hb hbox hg; obtain ⟨hcz0, hcz1, hcz2, hcz3, hcz4, hcz5⟩ := blkc6 BK.out; obtain ⟨hfz0, hfz1, hfz2, hfz3, hfz4, hfz5⟩ := blkf6 BK.out))
 go_cut [7, 8] (fun s7 s8 wx => s7 = .int .i64 W ∧ s8 = .bool nm ∧ w2 = wx)
 case first =>
  rcases HKI.out with ⟨rfl, rfl, rfl⟩ | ⟨rfl, rfl, rfl⟩ | ⟨rfl, rfl, rfl⟩ | ⟨rfl, rfl, rfl⟩ | ⟨rfl, rfl, rfl⟩ | ⟨rfl, rfl, rfl⟩ | ⟨rfl, rfl, rfl⟩ | ⟨rfl, rfl, rfl⟩ | ⟨rfl, rfl, rfl⟩
  all_goals (go_wp2_with fail; go_meet; exact z_182)
 case rest =>
  obtain ⟨rfl, rfl, rfl⟩ := hcut; rcases HCL.out with ⟨hk5, hc | ⟨hc0, hc⟩⟩ | ⟨hk5, hc⟩
  ·have k5 : (k == 5) = true := beq_iff_eq.2 hk5
   have k5' : (k != 5) = false := bne_eq_false_iff_eq.2 hk5; have c1 := xdt hc; clear hk5; rcases HNM.out with ⟨rfl, rfl⟩ | ⟨rfl, rfl, hf⟩
   ·go_wp2_with (first | (go_at_call 119; (with_reducible refine (name_L f1 _ _ HN.out).mono ?_); rintro e w' ⟨rfl, ⟨nd, rfl⟩⟩))
    go_ret
    exact z_217
   ·obtain ⟨e2, e3⟩ := xbq hf
    have e5 : f1.toList.isEmpty = true := by rw [hf]; rfl
    have e4 : (!f1.toList.isEmpty) = false := by rw [hf]; rfl
    go_wp2_with (first | (go_at_call 119; (with_reducible refine (name_L f1 _ _ HN.out).mono ?_); rintro e w' ⟨rfl, ⟨nd, rfl⟩⟩))
    go_ret
    exact z_217
  ·have k5 : (k == 5) = true := beq_iff_eq.2 hk5
   have k5' : (k != 5) = false := bne_eq_false_iff_eq.2 hk5; have c1 : decide (f2 < 0) = false := xdf (by omega); have c2 := xdt hc; clear hk5; rcases HNM.out with ⟨rfl, rfl⟩ | ⟨rfl, rfl, hf⟩
   ·go_wp2_with (first | (go_at_call 119; (with_reducible refine (name_L f1 _ _ HN.out).mono ?_); rintro e w' ⟨rfl, ⟨nd, rfl⟩⟩))
    go_ret
    exact z_217
   ·obtain ⟨e2, e3⟩ := xbq hf
    have e5 : f1.toList.isEmpty = true := by rw [hf]; rfl
    have e4 : (!f1.toList.isEmpty) = false := by rw [hf]; rfl
    go_wp2_with (first | (go_at_call 119; (with_reducible refine (name_L f1 _ _ HN.out).mono ?_); rintro e w' ⟨rfl, ⟨nd, rfl⟩⟩))
    go_ret
    exact z_217
  ·have k5 : (k == 5) = false := beq_eq_false_iff_ne.2 hk5
   have k5' : (k != 5) = true := bne_iff_ne.2 hk5; obtain ⟨c1, c2⟩ := xnq hc; rcases HNM.out with ⟨rfl, rfl⟩ | ⟨rfl, rfl, hf⟩
   ·go_wp2_with (first | (go_at_call 119; (with_reducible refine (name_L f1 _ _ HN.out).mono ?_); rintro e w' ⟨rfl, ⟨nd, rfl⟩⟩))
    go_ret
    exact z_217
   ·obtain ⟨e2, e3⟩ := xbq hf
    have e5 : f1.toList.isEmpty = true := by rw [hf]; rfl
    have e4 : (!f1.toList.isEmpty) = false := by rw [hf]; rfl
    go_wp2_with (first | (go_at_call 119; (with_reducible refine (name_L f1 _ _ HN.out).mono ?_); rintro e w' ⟨rfl, ⟨nd, rfl⟩⟩))
    go_ret
    exact z_217
theorem stmt_b5 (k : Int) (f1 : ByteArray) (f2 : Int) (l3 : List S38) (l4 l5 : List S41) (L3 L4 L5 : Nat) (A3 A4 A5 : Option Addr) (c3 c4 c5 : Nat) (n : Int) (g : Nat) (w0 w : World) (h0 : 0 ≤ n) (h1 : n ≤ 600) (hI : IsS95 w0 w g n) (hB : Below w0.heap.size w0 w) (bl : Int) (hbl0 : 0 ≤ bl) (hbl1 : bl ≤ 13) (W : Int) (nm nb : Bool) (hW : 0 ≤ W ∧ W ≤ 2) (hk : (k = 1 ∧ W = 1 ∧ nm = true) ∨ (k = 2 ∧ W = 1 ∧ nm = true) ∨ (k = 3 ∧ W = 2 ∧ nm = false) ∨ (k = 4 ∧ W = 1 ∧ nm = false) ∨ (k = 5 ∧ W = 1 ∧ nm = false) ∨ (k = 6 ∧ W = 1 ∧ nm = false) ∨ (k = 7 ∧ W = 1 ∧ nm = false) ∨ (k = 8 ∧ W = 1 ∧ nm = false) ∨ (k = 9 ∧ W = 0 ∧ nm = false)) (hnb : nameB (lst f1) = nb) (hl : (L3 : Int) = W) (hn : (nm = true ∧ nb = true) ∨ (nm = false ∧ nb = false ∧ f1.toList = [])) (hc : (k = 5 ∧ 0 ≤ f2 ∧ f2 ≤ 255) ∨ (k ≠ 5 ∧ f2 = 0)) (hk7 : k ≠ 7) (hk6 : k ≠ 6) (hl4 : L4 ≠ 0) : Calls Try.prog 94 #[.pointer (some ⟨g, 0, none⟩), .agg #[.int .i64 k, .string f1, .int .i64 f2, .slice A3 L3 c3, .slice A4 L4 c4, .slice A5 L5 c5], .int .i64 bl] w (CPost false n g w0 w) := by
 have hu41 := Try.underlying41; have HI := A_0 hI; have HB := A_0 hB; have HK := A_0 (KeepBut.refl w g none); clear hI hB; have HKI := Lib.hid hk; have HN := A_0 hnb; clear hk hnb; have e1 : ((L3 : Int) != W) = false := bne_eq_false_iff_eq.2 hl; have e1' : ((L3 : Int) == W) = true := beq_iff_eq.2 hl; have HL := Lib.hid hl; clear hl; have HNM := Lib.hid hn; clear hn; have HCL := Lib.hid hc; clear hc; have k7 : (k == 7) = false := beq_eq_false_iff_ne.2 hk7; have k6 : (k == 6) = false := beq_eq_false_iff_ne.2 hk6; have l4b : decide (0 < L4) = true := xdt (by omega); have l4c : decide ((0 : Int) < (L4 : Int)) = true := xdt (by omega); have l4d : 0 < L4 := by omega
 go_enter Try.func94, Try.ntmps94
 go_upto_block 0 with (first | ((with_reducible refine gate_dst (N := 4) rfl ?_); refine bx (a41 k f1 f2 A3 L3 c3 A4 L4 c4 A5 L5 c5) 41 ?_; intro gb hg w2 hbox hb; replace HB := A_0 (xbs HB.out hb); replace HK := A_0 ((HK.out).trans (KeepBut.of_below hb g none) (.inl rfl)); have BK := A_0 hbox; have GN := A_0 (show gb ≠ g by have := IsS95.fresh HI.out gb (Nat.le_of_eq hg.symm); exact this); replace HI := A_0 (IsS95.below HI.out hb); clear hb hbox hg; obtain ⟨hcz0, hcz1, hcz2, hcz3, hcz4, hcz5⟩ := blkc6 BK.out; obtain ⟨hfz0, hfz1, hfz2, hfz3, hfz4, hfz5⟩ := blkf6 BK.out))
 go_cut [7, 8] (fun s7 s8 wx => s7 = .int .i64 W ∧ s8 = .bool nm ∧ w2 = wx)
 case first =>
  rcases HKI.out with ⟨rfl, rfl, rfl⟩ | ⟨rfl, rfl, rfl⟩ | ⟨rfl, rfl, rfl⟩ | ⟨rfl, rfl, rfl⟩ | ⟨rfl, rfl, rfl⟩ | ⟨rfl, rfl, rfl⟩ | ⟨rfl, rfl, rfl⟩ | ⟨rfl, rfl, rfl⟩ | ⟨rfl, rfl, rfl⟩
  all_goals (go_wp2_with fail; go_meet; exact z_182)
 case rest =>
  obtain ⟨rfl, rfl, rfl⟩ := hcut; go_upto_region 16 with fail
  go_cut [47] (fun s47 wx => s47 = .bool false ∧ ∃ nq, w2.drewN nq = wx)
  case first =>
   rcases HNM.out with ⟨rfl, rfl⟩ | ⟨rfl, rfl, hf⟩
   ·go_wp2_with (first | (go_at_call 119; (with_reducible refine (name_L f1 _ _ HN.out).mono ?_); rintro e w' ⟨rfl, ⟨nd, rfl⟩⟩))
    go_meet
    exact ⟨rfl, _, rfl⟩
   ·obtain ⟨e2, e3⟩ := xbq hf
    have e5 : f1.toList.isEmpty = true := by rw [hf]; rfl
    have e4 : (!f1.toList.isEmpty) = false := by rw [hf]; rfl
    go_wp2_with (first | (go_at_call 119; (with_reducible refine (name_L f1 _ _ HN.out).mono ?_); rintro e w' ⟨rfl, ⟨nd, rfl⟩⟩))
    go_meet
    exact ⟨rfl, _, rfl⟩
  case rest =>
   obtain ⟨rfl, nq, rfl⟩ := hcut; go_upto_region 18 with fail
   go_cut [70] (fun s70 wx => s70 = .bool false ∧ w2.drewN nq = wx)
   case first =>
    rcases HCL.out with ⟨hk5, hc0, hc1⟩ | ⟨hk5, hc⟩
    ·have k5 : (k == 5) = true := beq_iff_eq.2 hk5
     have k5' : (k != 5) = false := bne_eq_false_iff_eq.2 hk5; have c1 : decide (f2 < 0) = false := xdf (by omega); have c2 : decide (255 < f2) = false := xdf (by omega); clear hk5
     go_wp2_with fail
     go_meet
     exact ⟨rfl, rfl⟩
    ·have k5 : (k == 5) = false := beq_eq_false_iff_ne.2 hk5
     have k5' : (k != 5) = true := bne_iff_ne.2 hk5; obtain ⟨c1, c2⟩ := xbq hc; have HCE := Lib.hid hc; clear hc
     go_wp2_with fail
     go_meet
     exact ⟨rfl, rfl⟩
   case rest =>
    obtain ⟨rfl, rfl⟩ := hcut
    go_wp2_with (first | (go_at_call 119; (with_reducible refine (name_L f1 _ _ HN.out).mono ?_); rintro e w' ⟨rfl, ⟨nd, rfl⟩⟩))
    go_ret
    exact z_217
theorem stmt_b6 (k : Int) (f1 : ByteArray) (f2 : Int) (l3 : List S38) (l4 l5 : List S41) (L3 L4 L5 : Nat) (A3 A4 A5 : Option Addr) (c3 c4 c5 : Nat) (n : Int) (g : Nat) (w0 w : World) (h0 : 0 ≤ n) (h1 : n ≤ 600) (hI : IsS95 w0 w g n) (hB : Below w0.heap.size w0 w) (bl : Int) (hbl0 : 0 ≤ bl) (hbl1 : bl ≤ 13) (W : Int) (nm nb : Bool) (hW : 0 ≤ W ∧ W ≤ 2) (hk : (k = 1 ∧ W = 1 ∧ nm = true) ∨ (k = 2 ∧ W = 1 ∧ nm = true) ∨ (k = 3 ∧ W = 2 ∧ nm = false) ∨ (k = 4 ∧ W = 1 ∧ nm = false) ∨ (k = 5 ∧ W = 1 ∧ nm = false) ∨ (k = 6 ∧ W = 1 ∧ nm = false) ∨ (k = 7 ∧ W = 1 ∧ nm = false) ∨ (k = 8 ∧ W = 1 ∧ nm = false) ∨ (k = 9 ∧ W = 0 ∧ nm = false)) (hnb : nameB (lst f1) = nb) (hl : (L3 : Int) = W) (hn : (nm = true ∧ nb = true) ∨ (nm = false ∧ nb = false ∧ f1.toList = [])) (hc : (k = 5 ∧ 0 ≤ f2 ∧ f2 ≤ 255) ∨ (k ≠ 5 ∧ f2 = 0)) (hb : k = 7 ∨ L4 = 0) (hk6 : k ≠ 6) (hl5 : L5 ≠ 0) : Calls Try.prog 94 #[.pointer (some ⟨g, 0, none⟩), .agg #[.int .i64 k, .string f1, .int .i64 f2, .slice A3 L3 c3, .slice A4 L4 c4, .slice A5 L5 c5], .int .i64 bl] w (CPost false n g w0 w) := by
 have hu41 := Try.underlying41; have HI := A_0 hI; have HB := A_0 hB; have HK := A_0 (KeepBut.refl w g none); clear hI hB; have HKI := Lib.hid hk; have HN := A_0 hnb; clear hk hnb; have e1 : ((L3 : Int) != W) = false := bne_eq_false_iff_eq.2 hl; have e1' : ((L3 : Int) == W) = true := beq_iff_eq.2 hl; have HL := Lib.hid hl; clear hl; have HNM := Lib.hid hn; clear hn; have HCL := Lib.hid hc; have HBD := Lib.hid hb; clear hc hb; have k6 : (k == 6) = false := beq_eq_false_iff_ne.2 hk6; have k6' : (k != 6) = true := bne_iff_ne.2 hk6; have l5b : decide (0 < L5) = true := xdt (by omega); have l5c : decide ((0 : Int) < (L5 : Int)) = true := xdt (by omega); have l5d : 0 < L5 := by omega
 go_enter Try.func94, Try.ntmps94
 go_upto_block 0 with (first | ((with_reducible refine gate_dst (N := 4) rfl ?_); refine bx (a41 k f1 f2 A3 L3 c3 A4 L4 c4 A5 L5 c5) 41 ?_; intro gb hg w2 hbox hb; replace HB := A_0 (xbs HB.out hb); replace HK := A_0 ((HK.out).trans (KeepBut.of_below hb g none) (.inl rfl)); have BK := A_0 hbox; have GN := A_0 (show gb ≠ g by have := IsS95.fresh HI.out gb (Nat.le_of_eq hg.symm); exact this); replace HI := A_0 (IsS95.below HI.out hb); clear hb hbox hg; obtain ⟨hcz0, hcz1, hcz2, hcz3, hcz4, hcz5⟩ := blkc6 BK.out; obtain ⟨hfz0, hfz1, hfz2, hfz3, hfz4, hfz5⟩ := blkf6 BK.out))
 go_cut [7, 8] (fun s7 s8 wx => s7 = .int .i64 W ∧ s8 = .bool nm ∧ w2 = wx)
 case first =>
  rcases HKI.out with ⟨rfl, rfl, rfl⟩ | ⟨rfl, rfl, rfl⟩ | ⟨rfl, rfl, rfl⟩ | ⟨rfl, rfl, rfl⟩ | ⟨rfl, rfl, rfl⟩ | ⟨rfl, rfl, rfl⟩ | ⟨rfl, rfl, rfl⟩ | ⟨rfl, rfl, rfl⟩ | ⟨rfl, rfl, rfl⟩
  all_goals (go_wp2_with fail; go_meet; exact z_182)
 case rest =>
  obtain ⟨rfl, rfl, rfl⟩ := hcut; go_upto_region 16 with fail
  go_cut [47] (fun s47 wx => s47 = .bool false ∧ ∃ nq, w2.drewN nq = wx)
  case first =>
   rcases HNM.out with ⟨rfl, rfl⟩ | ⟨rfl, rfl, hf⟩
   ·go_wp2_with (first | (go_at_call 119; (with_reducible refine (name_L f1 _ _ HN.out).mono ?_); rintro e w' ⟨rfl, ⟨nd, rfl⟩⟩))
    go_meet
    exact ⟨rfl, _, rfl⟩
   ·obtain ⟨e2, e3⟩ := xbq hf
    have e5 : f1.toList.isEmpty = true := by rw [hf]; rfl
    have e4 : (!f1.toList.isEmpty) = false := by rw [hf]; rfl
    go_wp2_with (first | (go_at_call 119; (with_reducible refine (name_L f1 _ _ HN.out).mono ?_); rintro e w' ⟨rfl, ⟨nd, rfl⟩⟩))
    go_meet
    exact ⟨rfl, _, rfl⟩
  case rest =>
   obtain ⟨rfl, nq, rfl⟩ := hcut; go_upto_region 18 with fail
   go_cut [70] (fun s70 wx => s70 = .bool false ∧ w2.drewN nq = wx)
   case first =>
    rcases HCL.out with ⟨hk5, hc0, hc1⟩ | ⟨hk5, hc⟩
    ·have k5 : (k == 5) = true := beq_iff_eq.2 hk5
     have k5' : (k != 5) = false := bne_eq_false_iff_eq.2 hk5; have c1 : decide (f2 < 0) = false := xdf (by omega); have c2 : decide (255 < f2) = false := xdf (by omega); clear hk5
     go_wp2_with fail
     go_meet
     exact ⟨rfl, rfl⟩
    ·have k5 : (k == 5) = false := beq_eq_false_iff_ne.2 hk5
     have k5' : (k != 5) = true := bne_iff_ne.2 hk5; obtain ⟨c1, c2⟩ := xbq hc; have HCE := Lib.hid hc; clear hc
     go_wp2_with fail
     go_meet
     exact ⟨rfl, rfl⟩
   case rest =>
    obtain ⟨rfl, rfl⟩ := hcut; by_cases hk7 : k = 7
    ·have k7 : (k == 7) = true := beq_iff_eq.2 hk7
     clear hk7
     go_wp2_with (first | (go_at_call 119; (with_reducible refine (name_L f1 _ _ HN.out).mono ?_); rintro e w' ⟨rfl, ⟨nd, rfl⟩⟩))
     go_ret
     exact z_217
    ·have k7 : (k == 7) = false := beq_eq_false_iff_ne.2 hk7
     have hz : L4 = 0 := by rcases HBD.out with x | x; exact absurd x hk7; exact x
     have l4b : decide (0 < L4) = false := xdf (by omega); have l4c : decide ((0 : Int) < (L4 : Int)) = false := xdf (by omega); have l4d : ¬ 0 < L4 := by omega
     have HZ := Lib.hid hz; clear hz
     go_wp2_with (first | (go_at_call 119; (with_reducible refine (name_L f1 _ _ HN.out).mono ?_); rintro e w' ⟨rfl, ⟨nd, rfl⟩⟩))
     go_ret
     exact z_217
theorem pair_of {α β : Type} (p : α × β) : ∃ a b, p = (a, b) := ⟨p.1, p.2, rfl⟩
def BlockC (b : Nat) : Prop := ∀ (l : List S41) (L : Nat) (A : Option Addr) (c : Nat) (n : Int) (r : Bool) (m : Int) (g : Nat) (w0 w : World), l.length = L → Kd.C k41 w0 A l.length l → L ≤ c → 0 ≤ n → n ≤ 600 → IsS95 w0 w g n → Below w0.heap.size w0 w → cB b n l = (r, m) →
   ∀ bl : Int, bl = 13 - (b : Int) → Calls Try.prog 55 #[.pointer (some ⟨g, 0, none⟩), .slice A L c, .int .i64 bl] w (CPost r m g w0 w)
theorem BlockC.use {b : Nat} (h : BlockC b) : ∀ (l : List S41) (L : Nat) (A : Option Addr) (c : Nat) (n : Int) (r : Bool) (m : Int) (g : Nat) (w0 w : World), l.length = L → Kd.C k41 w0 A l.length l → L ≤ c → 0 ≤ n → n ≤ 600 → IsS95 w0 w g n → Below w0.heap.size w0 w → cB b n l = (r, m) →
   ∀ bl : Int, bl = 13 - (b : Int) → Calls Try.prog 55 #[.pointer (some ⟨g, 0, none⟩), .slice A L c, .int .i64 bl] w (CPost r m g w0 w) := h
def SFin (b : Nat) (lp : Bool) (l4 l5 : List S41) (L5 : Nat) (b1 : Bool) (m1 : Int) (r : Bool) (m : Int) : Prop :=
 (b1 = false ∧ r = false ∧ m = m1) ∨ (b1 = true ∧ lp = false ∧ L5 = 0 ∧ r = true ∧ m = m1) ∨
 (b1 = true ∧ lp = true ∧ 0 ≤ m1 ∧ m1 ≤ 600 ∧ cB b m1 l4 = (false, m) ∧ r = false) ∨
 (b1 = true ∧ lp = true ∧ 0 ≤ m1 ∧ m1 ≤ 600 ∧ cB b m1 l4 = (true, m) ∧ r = true ∧ L5 = 0) ∨
 (b1 = true ∧ lp = true ∧ 0 ≤ m1 ∧ m1 ≤ 600 ∧ ∃ m2, cB b m1 l4 = (true, m2) ∧ 0 ≤ m2 ∧ m2 ≤ 600 ∧ L5 ≠ 0 ∧ cB b m2 l5 = (r, m))
def SRel (k : Int) (f1 : ByteArray) (f2 : Int) (A3 A4 A5 : Option Addr) (L3 c3 L4 c4 L5 c5 gb : Nat) (l3 : List S38) (r : Bool × Int) (g : Nat) (w0 w : World) (v101 : Value) (w' : World) : Prop :=
 ∃ (i m : Int), v101 = .int .i64 i ∧ 0 ≤ i ∧ i ≤ (L3 : Int) ∧ 0 ≤ m ∧ m ≤ 600 ∧ Aside0 (goE (cE 48) m (l3.drop i.toNat) = r) ∧ Aside0 (IsS95 w0 w' g m) ∧ Aside0 (Below w0.heap.size w0 w') ∧ Aside0 (KeepBut w w' g none) ∧ Aside0 (w'.heap[gb]? = some (b41 k f1 f2 A3 L3 c3 A4 L4 c4 A5 L5 c5))
theorem stmt_ok (k : Int) (f1 : ByteArray) (f2 : Int) (l3 : List S38) (l4 l5 : List S41) (L3 L4 L5 : Nat) (A3 A4 A5 : Option Addr) (c3 c4 c5 : Nat) (n : Int) (g : Nat) (w0 w : World) (h0 : 0 ≤ n) (h1 : n ≤ 600) (hI : IsS95 w0 w g n) (hB : Below w0.heap.size w0 w) (bl : Int) (hbl0 : 0 ≤ bl) (hbl1 : bl ≤ 13) (W : Int) (nm nb : Bool) (hW : 0 ≤ W ∧ W ≤ 2) (hk : (k = 1 ∧ W = 1 ∧ nm = true) ∨ (k = 2 ∧ W = 1 ∧ nm = true) ∨ (k = 3 ∧ W = 2 ∧ nm = false) ∨ (k = 4 ∧ W = 1 ∧ nm = false) ∨ (k = 5 ∧ W = 1 ∧ nm = false) ∨ (k = 6 ∧ W = 1 ∧ nm = false) ∨ (k = 7 ∧ W = 1 ∧ nm = false) ∨ (k = 8 ∧ W = 1 ∧ nm = false) ∨ (k = 9 ∧ W = 0 ∧ nm = false)) (hnb : nameB (lst f1) = nb) (hl : (L3 : Int) = W) (hn : (nm = true ∧ nb = true) ∨ (nm = false ∧ nb = false ∧ f1.toList = [])) (hc : (k = 5 ∧ 0 ≤ f2 ∧ f2 ≤ 255) ∨ (k ≠ 5 ∧ f2 = 0)) (b : Nat) (BC0 : BlockC b) (hbl : bl + 1 = 13 - (b : Int)) (hL3 : l3.length = L3) (hL4 : l4.length = L4) (hL5 : l5.length = L5) (hC3 : Kd.C k38 w0 A3 l3.length l3) (hC4 : Kd.C k41 w0 A4 l4.length l4) (hC5 : Kd.C k41 w0 A5 l5.length l5) (hcs4 : L4 ≤ c4) (hcs5 : L5 ≤ c5) (lp : Bool) (hlp : (k ≠ 6 ∧ k = 7 ∧ lp = true) ∨ (k = 6 ∧ k ≠ 7 ∧ lp = true) ∨ (k ≠ 6 ∧ k ≠ 7 ∧ lp = false)) (hbd : (lp = true ∧ k = 6) ∨ (lp = true ∧ k ≠ 6 ∧ L5 = 0) ∨ (lp = false ∧ k ≠ 6 ∧ L4 = 0 ∧ L5 = 0)) (b1 : Bool) (m1 : Int) (r : Bool) (m : Int) (hr : goE (cE 48) n l3 = (b1, m1)) (hfin : SFin b lp l4 l5 L5 b1 m1 r m) : Calls Try.prog 94 #[.pointer (some ⟨g, 0, none⟩), .agg #[.int .i64 k, .string f1, .int .i64 f2, .slice A3 L3 c3, .slice A4 L4 c4, .slice A5 L5 c5], .int .i64 bl] w (CPost r m g w0 w) := by
 have hu41 := Try.underlying41; have HI := A_0 hI; have HB := A_0 hB; have HK := A_0 (KeepBut.refl w g none); clear hI hB; have HKI := Lib.hid hk; have HN := A_0 hnb; clear hk hnb; have e1 : ((L3 : Int) != W) = false := bne_eq_false_iff_eq.2 hl; have e1' : ((L3 : Int) == W) = true := beq_iff_eq.2 hl; have HL := Lib.hid hl; clear hl; have HNM := Lib.hid hn; clear hn; have HCL := Lib.hid hc; have BC := A_0 BC0; have HBL := A_0 hbl; have HL3 := A_0 hL3; have HL4 := A_0 hL4; have HL5 := A_0 hL5; have HC3 := A_0 hC3; have HC4 := A_0 hC4; have HC5 := A_0 hC5; have HCS4 := A_0 hcs4; have HCS5 := A_0 hcs5; have HR := A_0 hr; have HFIN := A_0 hfin
 have HLP := Lib.hid (show ((k == 7) = true ∧ (k == 6) = false ∧ lp = true) ∨ ((k == 7) = false ∧ (k == 6) = true ∧ lp = true) ∨ ((k == 7) = false ∧ (k == 6) = false ∧ lp = false) by
  rcases hlp with ⟨a, c, d⟩ | ⟨a, c, d⟩ | ⟨a, c, d⟩
  ·exact .inl ⟨beq_iff_eq.2 c, beq_eq_false_iff_ne.2 a, d⟩
  ·exact .inr (.inl ⟨beq_eq_false_iff_ne.2 c, beq_iff_eq.2 a, d⟩)
  ·exact .inr (.inr ⟨beq_eq_false_iff_ne.2 c, beq_eq_false_iff_ne.2 a, d⟩))
 have HBD := Lib.hid (show (lp = true ∧ (k == 6) = true) ∨ (lp = true ∧ (k == 6) = false ∧ L5 = 0) ∨ (lp = false ∧ (k == 6) = false ∧ L4 = 0 ∧ L5 = 0) by
  rcases hbd with ⟨a, c⟩ | ⟨a, c, d⟩ | ⟨a, c, d⟩
  ·exact .inl ⟨a, beq_iff_eq.2 c⟩
  ·exact .inr (.inl ⟨a, beq_eq_false_iff_ne.2 c, d⟩)
  ·exact .inr (.inr ⟨a, beq_eq_false_iff_ne.2 c, d⟩))
 clear hc BC0 hbl hL3 hL4 hL5 hC3 hC4 hC5 hcs4 hcs5 hr hfin hlp hbd; have hW2 : (L3 : Int) ≤ 2 := by have := HL.out; omega
 have hblb : bl + 1 ≤ 14 := by omega
 go_enter Try.func94, Try.ntmps94
 go_upto_block 0 with (first | ((with_reducible refine gate_dst (N := 4) rfl ?_); refine bx (a41 k f1 f2 A3 L3 c3 A4 L4 c4 A5 L5 c5) 41 ?_; intro gb hg w2 hbox hb; replace HB := A_0 (xbs HB.out hb); replace HK := A_0 ((HK.out).trans (KeepBut.of_below hb g none) (.inl rfl)); have BK := A_0 hbox; have GN := A_0 (show gb ≠ g by have := IsS95.fresh HI.out gb (Nat.le_of_eq hg.symm); exact this); replace HI := A_0 (IsS95.below HI.out hb); clear hb hbox hg; obtain ⟨hcz0, hcz1, hcz2, hcz3, hcz4, hcz5⟩ := blkc6 BK.out; obtain ⟨hfz0, hfz1, hfz2, hfz3, hfz4, hfz5⟩ := blkf6 BK.out))
 go_cut [7, 8] (fun s7 s8 wx => s7 = .int .i64 W ∧ s8 = .bool nm ∧ w2 = wx)
 case first =>
  rcases HKI.out with ⟨rfl, rfl, rfl⟩ | ⟨rfl, rfl, rfl⟩ | ⟨rfl, rfl, rfl⟩ | ⟨rfl, rfl, rfl⟩ | ⟨rfl, rfl, rfl⟩ | ⟨rfl, rfl, rfl⟩ | ⟨rfl, rfl, rfl⟩ | ⟨rfl, rfl, rfl⟩ | ⟨rfl, rfl, rfl⟩
  all_goals (go_wp2_with fail; go_meet; exact z_182)
 case rest =>
  obtain ⟨rfl, rfl, rfl⟩ := hcut; go_upto_region 16 with fail
  go_cut [47] (fun s47 wx => s47 = .bool false ∧ ∃ nq, w2.drewN nq = wx)
  case first =>
   rcases HNM.out with ⟨rfl, rfl⟩ | ⟨rfl, rfl, hf⟩
   ·go_wp2_with (first | (go_at_call 119; (with_reducible refine (name_L f1 _ _ HN.out).mono ?_); rintro e w' ⟨rfl, ⟨nd, rfl⟩⟩))
    go_meet
    exact ⟨rfl, _, rfl⟩
   ·obtain ⟨e2, e3⟩ := xbq hf
    have e5 : f1.toList.isEmpty = true := by rw [hf]; rfl
    have e4 : (!f1.toList.isEmpty) = false := by rw [hf]; rfl
    go_wp2_with (first | (go_at_call 119; (with_reducible refine (name_L f1 _ _ HN.out).mono ?_); rintro e w' ⟨rfl, ⟨nd, rfl⟩⟩))
    go_meet
    exact ⟨rfl, _, rfl⟩
  case rest =>
   obtain ⟨rfl, nq, rfl⟩ := hcut; go_upto_region 18 with fail
   go_cut [70] (fun s70 wx => s70 = .bool false ∧ w2.drewN nq = wx)
   case first =>
    rcases HCL.out with ⟨hk5, hc0, hc1⟩ | ⟨hk5, hc⟩
    ·have k5 : (k == 5) = true := beq_iff_eq.2 hk5
     have k5' : (k != 5) = false := bne_eq_false_iff_eq.2 hk5; have c1 : decide (f2 < 0) = false := xdf (by omega); have c2 : decide (255 < f2) = false := xdf (by omega); clear hk5
     go_wp2_with fail
     go_meet
     exact ⟨rfl, rfl⟩
    ·have k5 : (k == 5) = false := beq_eq_false_iff_ne.2 hk5
     have k5' : (k != 5) = true := bne_iff_ne.2 hk5; obtain ⟨c1, c2⟩ := xbq hc; have HCE := Lib.hid hc; clear hc
     go_wp2_with fail
     go_meet
     exact ⟨rfl, rfl⟩
   case rest =>
    obtain ⟨rfl, rfl⟩ := hcut; go_upto_region 20 with fail
    go_cut [9] (fun s9 wx => s9 = .bool lp ∧ w2.drewN nq = wx)
    case first =>
     rcases HLP.out with ⟨k7, k6, rfl⟩ | ⟨k7, k6, rfl⟩ | ⟨k7, k6, rfl⟩
     all_goals (go_wp2_with fail; go_meet; exact ⟨rfl, rfl⟩)
    case rest =>
     obtain ⟨rfl, rfl⟩ := hcut; go_upto_region 21 with fail
     go_cut [97] (fun s97 wx => s97 = .bool false ∧ w2.drewN nq = wx)
     case first =>
      rcases HBD.out with ⟨rfl, k6⟩ | ⟨rfl, k6, hl5⟩ | ⟨rfl, k6, hl4, hl5⟩
      ·have k6' : (k != 6) = false := by rw [bne, k6]; rfl
       go_wp2_with fail
       go_meet
       exact ⟨rfl, rfl⟩
      ·have k6' : (k != 6) = true := by rw [bne, k6]; rfl
       have l5b : decide (0 < L5) = false := xdf (by omega); have l5c : decide ((0 : Int) < (L5 : Int)) = false := xdf (by omega); have l5d : ¬ 0 < L5 := by omega
       have HZ := Lib.hid hl5; clear hl5
       go_wp2_with fail
       go_meet
       exact ⟨rfl, rfl⟩
      ·have k6' : (k != 6) = true := by rw [bne, k6]; rfl
       have l4b : decide (0 < L4) = false := xdf (by omega); have l4c : decide ((0 : Int) < (L4 : Int)) = false := xdf (by omega); have l4d : ¬ 0 < L4 := by omega
       have l5b : decide (0 < L5) = false := xdf (by omega); have l5c : decide ((0 : Int) < (L5 : Int)) = false := xdf (by omega); have l5d : ¬ 0 < L5 := by omega
       have HZ := Lib.hid hl5; have HZ4 := Lib.hid hl4; clear hl5 hl4
       go_wp2_with fail
       go_meet
       exact ⟨rfl, rfl⟩
     case rest =>
      obtain ⟨rfl, rfl⟩ := hcut
      go_wp2
      go_loopw [101] (fun v101 wr => SRel k f1 f2 A3 A4 A5 L3 c3 L4 c4 L5 c5 gb l3 (b1, m1) g w0 w v101 wr) (fun v101 _ => L3 - (intOf v101).toNat)
      case atStart => exact ⟨0, n, rfl, Int.le_refl _, by omega, h0, h1, HR, ⟨z_219⟩, ⟨z_12⟩, ⟨z_220⟩, ⟨z_5⟩⟩
      case round =>
       unfold SRel at hrel; clear HR HI HB HK BK hcz0 hfz0 hcz1 hfz1 hcz2 hfz2 hcz3 hfz3 hcz4 hfz4 hcz5 hfz5; obtain ⟨i, j, rfl, hi0, hi1, hj0, hj1, HR, HI, HB, HK, BK⟩ := hrel; by_cases hlt : i < (L3 : Int)
       ·have hlt' : i < (l3.length : Int) := by rw [HL3.out]; exact hlt
        have hb0 := xdt hlt; have hdr := drop_rd38 l3 i hi0 hlt'; have HR0 := HR.out; rw [hdr] at HR0; unfold goE at HR0; obtain ⟨ad, Aq, cq, eA, hx0, hx1, hx2, hx3, hx4, hl4, hi4⟩ := at_T38 HC3.out i hi0 hlt'; subst eA; replace hx0 := (HB.out.cell (xqb w0 _ hx0)).trans hx0; replace hx1 := (HB.out.cell (xqb w0 _ hx1)).trans hx1; replace hx2 := (HB.out.cell (xqb w0 _ hx2)).trans hx2; replace hx3 := (HB.out.cell (xqb w0 _ hx3)).trans hx3; replace hx4 := (HB.out.cell (xqb w0 _ hx4)).trans hx4; have HC4 := A_0 hi4; have HL4 := A_0 hl4; have p1 := eq_true hi0; have p2 := eq_true hlt; obtain ⟨bq, mq, hr1⟩ : ∃ bq mq, cE 48 j (rd_T38 l3 i) = (bq, mq) := pair_of _; have hin := cE_in 48 j (rd_T38 l3 i) hj0 hj1; rw [hr1] at HR0 hin; have HR1 := A_0 (show cE 48 j ⟨(rd_T38 l3 i).f0, (rd_T38 l3 i).f1, (rd_T38 l3 i).f2, (rd_T38 l3 i).f3, (rd_T38 l3 i).f4⟩ = (bq, mq) from by rw [eta38]; exact hr1)
        have HIN := A_0 hin; clear hdr hr1 hi4 hl4 hin HR; cases bq with
        | true =>
         have HR := A_0 (show goE (cE 48) mq (l3.drop (i + 1).toNat) = (b1, m1) from HR0); clear HR0
         go_wp2_with fail
         (with_reducible refine ((expr_all 48 (by omega)).use (rd_T38 l3 i).f0 (rd_T38 l3 i).f1 (rd_T38 l3 i).f2 (rd_T38 l3 i).f3 (rd_T38 l3 i).f4 Aq cq j true mq g w0 _ HC4.out HL4.out hj0 hj1 (z_219) (z_12) HR1.out 1 (by omega)).mono ?_)
         rintro e w5 ⟨rfl, hi5, hb5, hk5⟩; have n0_ := A_0 hi5; have n1_ := A_0 hb5; have n3_ := A_0 (KeepBut.blk (o := b41 k f1 f2 _ L3 c3 A4 L4 c4 A5 L5 c5) hk5 (z_5) GN.out (by simp)); have n2_ := A_0 (KeepBut.trans (show KeepBut w _ g none from z_220) hk5 (.inl rfl)); clear HI HB HK BK hi5 hb5 hk5; have HI := n0_; have HB := n1_; have HK := n2_; have BK := n3_; clear n0_ n1_ n2_ n3_
         go_wp2
         go_roundw
         case rel => exact ⟨i + 1, mq, rfl, by omega, by omega, HIN.out.1, HIN.out.2.2 rfl, HR, ⟨z_219⟩, ⟨z_12⟩, ⟨z_220⟩, ⟨z_5⟩⟩
         case measure => simp [intOf]; omega
        | false =>
         have HE := A_0 (show (false, mq) = (b1, m1) from HR0); clear HR0
         go_wp2_with fail
         (with_reducible refine ((expr_all 48 (by omega)).use (rd_T38 l3 i).f0 (rd_T38 l3 i).f1 (rd_T38 l3 i).f2 (rd_T38 l3 i).f3 (rd_T38 l3 i).f4 Aq cq j false mq g w0 _ HC4.out HL4.out hj0 hj1 (z_219) (z_12) HR1.out 1 (by omega)).mono ?_)
         rintro e w5 ⟨rfl, hi5, hb5, hk5⟩; have n0_ := A_0 hi5; have n1_ := A_0 hb5; have n3_ := A_0 (KeepBut.blk (o := b41 k f1 f2 _ L3 c3 A4 L4 c4 A5 L5 c5) hk5 (z_5) GN.out (by simp)); have n2_ := A_0 (KeepBut.trans (show KeepBut w _ g none from z_220) hk5 (.inl rfl)); clear HI HB HK BK hi5 hb5 hk5; have HI := n0_; have HB := n1_; have HK := n2_; have BK := n3_; clear n0_ n1_ n2_ n3_
         go_wp2
         go_ret
         have he := HE.out; injection he with he1 he2; subst he1 he2; have hfin := HFIN.out; unfold SFin at hfin
         have hfin2 : r = false ∧ m = mq := by
          rcases hfin with h | h | h | h | h
          ·exact h.2
          all_goals exact absurd h.1 (by simp)
         obtain ⟨rfl, rfl⟩ := hfin2; exact z_217
       ·have hb0 := xdf hlt
        have he : goE (cE 48) j (l3.drop i.toNat) = (true, j) := by
         rw [List.drop_eq_nil_of_le (by have := HL3.out; omega)]
         rfl
        have he2 := he.symm.trans HR.out; injection he2 with e1 e2; have hfin := HFIN.out; rw [← e1, ← e2] at hfin; unfold SFin at hfin; clear he HR e1 e2 HFIN; obtain ⟨hcz0, hcz1, hcz2, hcz3, hcz4, hcz5⟩ := blkc6 BK.out; obtain ⟨hfz0, hfz1, hfz2, hfz3, hfz4, hfz5⟩ := blkf6 BK.out; rcases hfin with h | ⟨_, h2, h3, h4, h5⟩ | ⟨_, h2, h3, h4, h5, h6⟩ | ⟨_, h2, h3, h4, h5, h6, h7⟩ | ⟨_, h2, h3, h4, m2, h5, h6, h7, h8, h9⟩
        ·exact absurd h.1 (by simp)
        ·subst h2 h4 h5
         have l5a : ((L5 : Int) == 0) = true := beq_iff_eq.2 (by omega); have HZ := Lib.hid h3; clear h3
         go_wp2
         go_ret
         exact z_217
        ·subst h2 h6
         have H5 := A_0 h5; clear h5
         go_wp2_with fail
         (with_reducible refine (BC.out.use l4 L4 A4 c4 j false m g w0 _ HL4.out HC4.out (by have := HCS4.out; omega) h3 h4 (z_219) (z_12) H5.out _ HBL.out).mono ?_)
         rintro e w5 ⟨rfl, hi5, hb5, hk5⟩; have n0_ := A_0 hi5; have n1_ := A_0 hb5; have n3_ := A_0 (KeepBut.blk (o := b41 k f1 f2 _ L3 c3 A4 L4 c4 A5 L5 c5) hk5 (z_5) GN.out (by simp)); have n2_ := A_0 (KeepBut.trans (show KeepBut w _ g none from z_220) hk5 (.inl rfl)); clear HI HB HK BK hi5 hb5 hk5; have HI := n0_; have HB := n1_; have HK := n2_; have BK := n3_; clear n0_ n1_ n2_ n3_
         go_wp2
         go_ret
         exact z_217
        ·subst h2 h6
         have H5 := A_0 h5; have l5a : ((L5 : Int) == 0) = true := beq_iff_eq.2 (by omega); have HZ := Lib.hid h7; clear h5 h7
         go_wp2_with fail
         (with_reducible refine (BC.out.use l4 L4 A4 c4 j true m g w0 _ HL4.out HC4.out (by have := HCS4.out; omega) h3 h4 (z_219) (z_12) H5.out _ HBL.out).mono ?_)
         rintro e w5 ⟨rfl, hi5, hb5, hk5⟩; have n0_ := A_0 hi5; have n1_ := A_0 hb5; have n3_ := A_0 (KeepBut.blk (o := b41 k f1 f2 _ L3 c3 A4 L4 c4 A5 L5 c5) hk5 (z_5) GN.out (by simp)); have n2_ := A_0 (KeepBut.trans (show KeepBut w _ g none from z_220) hk5 (.inl rfl)); clear HI HB HK BK hi5 hb5 hk5; have HI := n0_; have HB := n1_; have HK := n2_; have BK := n3_; clear n0_ n1_ n2_ n3_; clear hcz0 hfz0 hcz1 hfz1 hcz2 hfz2 hcz3 hfz3 hcz4 hfz4 hcz5 hfz5; obtain ⟨hcz0, hcz1, hcz2, hcz3, hcz4, hcz5⟩ := blkc6 BK.out; obtain ⟨hfz0, hfz1, hfz2, hfz3, hfz4, hfz5⟩ := blkf6 BK.out
         go_wp2
         go_ret
         exact z_217
        ·subst h2
         have H5 := A_0 h5; have H9 := A_0 h9; have l5a : ((L5 : Int) == 0) = false := beq_eq_false_iff_ne.2 (by omega); clear h5 h9
         go_wp2_with fail
         (with_reducible refine (BC.out.use l4 L4 A4 c4 j true m2 g w0 _ HL4.out HC4.out (by have := HCS4.out; omega) h3 h4 (z_219) (z_12) H5.out _ HBL.out).mono ?_)
         rintro e w5 ⟨rfl, hi5, hb5, hk5⟩; have n0_ := A_0 hi5; have n1_ := A_0 hb5; have n3_ := A_0 (KeepBut.blk (o := b41 k f1 f2 _ L3 c3 A4 L4 c4 A5 L5 c5) hk5 (z_5) GN.out (by simp)); have n2_ := A_0 (KeepBut.trans (show KeepBut w _ g none from z_220) hk5 (.inl rfl)); clear HI HB HK BK hi5 hb5 hk5; have HI := n0_; have HB := n1_; have HK := n2_; have BK := n3_; clear n0_ n1_ n2_ n3_; clear hcz0 hfz0 hcz1 hfz1 hcz2 hfz2 hcz3 hfz3 hcz4 hfz4 hcz5 hfz5; obtain ⟨hcz0, hcz1, hcz2, hcz3, hcz4, hcz5⟩ := blkc6 BK.out; obtain ⟨hfz0, hfz1, hfz2, hfz3, hfz4, hfz5⟩ := blkf6 BK.out; cases r with
         | true =>
          go_wp2_with fail
          (with_reducible refine (BC.out.use l5 L5 A5 c5 m2 true m g w0 _ HL5.out HC5.out (by have := HCS5.out; omega) h6 h7 (z_219) (z_12) H9.out _ HBL.out).mono ?_)
          rintro e w6 ⟨rfl, hi5, hb5, hk5⟩; have n0_ := A_0 hi5; have n1_ := A_0 hb5; have n3_ := A_0 (KeepBut.blk (o := b41 k f1 f2 _ L3 c3 A4 L4 c4 A5 L5 c5) hk5 (z_5) GN.out (by simp)); have n2_ := A_0 (KeepBut.trans (show KeepBut w _ g none from z_220) hk5 (.inl rfl)); clear HI HB HK BK hi5 hb5 hk5; have HI := n0_; have HB := n1_; have HK := n2_; have BK := n3_; clear n0_ n1_ n2_ n3_
          go_wp2
          go_ret
          exact z_217
         | false =>
          go_wp2_with fail
          (with_reducible refine (BC.out.use l5 L5 A5 c5 m2 false m g w0 _ HL5.out HC5.out (by have := HCS5.out; omega) h6 h7 (z_219) (z_12) H9.out _ HBL.out).mono ?_)
          rintro e w6 ⟨rfl, hi5, hb5, hk5⟩; have n0_ := A_0 hi5; have n1_ := A_0 hb5; have n3_ := A_0 (KeepBut.blk (o := b41 k f1 f2 _ L3 c3 A4 L4 c4 A5 L5 c5) hk5 (z_5) GN.out (by simp)); have n2_ := A_0 (KeepBut.trans (show KeepBut w _ g none from z_220) hk5 (.inl rfl)); clear HI HB HK BK hi5 hb5 hk5; have HI := n0_; have HB := n1_; have HK := n2_; have BK := n3_; clear n0_ n1_ n2_ n3_
          go_wp2
          go_ret
          exact z_217
end Go.Proofs.Ytobkdmmnbnpemaa.K
