/- Texts of the claim, one behind the other. -/
import Derived.Test.YtobkdmmnbnpemaaXIB14
import Derived.Test.YtobkdmmnbnpemaaXIB08
import Derived.Test.YtobkdmmnbnpemaaXIB13
import Derived.Test.YtobkdmmnbnpemaaXIB01
set_option maxHeartbeats 16000000
set_option maxRecDepth 100000
namespace Go.Proofs.Ytobkdmmnbnpemaa.Lx
open Go.RowKit Go.Proofs.YtobkdmmnbnpemaaW.PrintWords Go.Proofs.YtobkdmmnbnpemaaW.PrintLast Go.Proofs.YtobkdmmnbnpemaaW.PrintMore
attribute [local go_sem] max2_int min2_int max_two min_two max_three min_three max_four min_four
set_option linter.unusedVariables false
set_option linter.unusedSimpArgs false
def SkipR (s : ByteArray) (i j : Int) : Prop := ∃ k, lex_cutter_skip.f k s i = some (s, j)
def NextR (s : ByteArray) (i : Int) (r : Int × ByteArray × Int × Int × Int × Int) : Prop := ∃ k, lex_cutter_next.f k s i = some (r.1, r.2.1, r.2.2.1, r.2.2.2.1, r.2.2.2.2.1, s, r.2.2.2.2.2)
inductive CutRun (s : ByteArray) : Nat → Int → List S33 → (List S33 × Int × Int) → Prop
 | err (n : Nat) (i j : Int) (acc : List S33) (kd : Int) (tx : ByteArray) (nm at_ er p : Int) : SkipR s i j → NextR s j (kd, tx, nm, at_, er, p) → er ≠ 0 → CutRun s (n + 1) i acc ([], at_, er)
 | fin (n : Nat) (i j : Int) (acc : List S33) (kd : Int) (tx : ByteArray) (nm at_ p : Int) : SkipR s i j → NextR s j (kd, tx, nm, at_, 0, p) → acc.length < 100000 → kd = 0 → CutRun s (n + 1) i acc (acc ++ [⟨kd, tx, nm, at_⟩], 0, 0)
 | step (n : Nat) (i j : Int) (acc : List S33) (kd : Int) (tx : ByteArray) (nm at_ p : Int) (r : List S33 × Int × Int) : SkipR s i j → NextR s j (kd, tx, nm, at_, 0, p) → acc.length < 100000 → kd ≠ 0 → CutRun s n p (acc ++ [⟨kd, tx, nm, at_⟩]) r → CutRun s (n + 1) i acc r
open Classical in
noncomputable def lex_Cut.f (s : ByteArray) : Option (List S33 × Int × Int) :=
 if 8192 < s.size then some ([], 0, 30) else if h : ∃ r, ∃ n, CutRun s n 0 [] r then some h.choose else none
theorem cut_run {s : ByteArray} {r : List S33 × Int × Int} (h : lex_Cut.f s = some r) : (8192 < s.size ∧ r = ([], 0, 30)) ∨ (¬ 8192 < s.size ∧ ∃ n, CutRun s n 0 [] r) := by
 unfold lex_Cut.f at h; by_cases c : 8192 < s.size
 ·rw [if_pos c] at h
  exact .inl ⟨c, (xsi h).symm⟩
 ·rw [if_neg c] at h
  by_cases q : ∃ r, ∃ n, CutRun s n 0 [] r
  ·rw [dif_pos q] at h
   have e := xsi h; have := q.choose_spec; rw [e] at this; exact .inr ⟨c, this⟩
  ·rw [dif_neg q] at h
   simp at h
theorem skip_of (s : ByteArray) (i j : Int) (h : SkipR s i j) (g : Nat) (w0 w : World) (hI : IsS41 w0 w g s i) (hB : Below w0.heap.size w0 w) :
  Calls Try.prog 57 #[.pointer (some ⟨g, 0, none⟩)] w fun e w' => e = .returned (.tuple #[]) ∧ IsS41 w0 w' g s j ∧ Below w0.heap.size w0 w' ∧ KeepBut w w' g none := by
 obtain ⟨k, hk⟩ := h; exact lex_cutter_skip.calls k g s i s j w0 w hI hB hk
theorem next_of (s : ByteArray) (i kd : Int) (tx : ByteArray) (nm at_ er p : Int) (h : NextR s i (kd, tx, nm, at_, er, p)) (g : Nat) (w0 w : World) (hI : IsS41 w0 w g s i) (hB : Below w0.heap.size w0 w) :
  Calls Try.prog 58 #[.pointer (some ⟨g, 0, none⟩)] w fun e w' => e = .returned (.tuple #[.agg #[.int .i64 kd, .string tx, .int .i64 nm, .int .i64 at_], .int .i64 er]) ∧ IsS41 w0 w' g s p ∧ Below w0.heap.size w0 w' ∧ KeepBut w w' g none := by
 obtain ⟨k, hk⟩ := h; exact lex_cutter_next.calls k g s i kd tx nm at_ er s p w0 w hI hB hk
def CPost (r : List S33 × Int × Int) (w : World) (e : Ending) (w' : World) : Prop :=
 ∃ v : Value, e = .returned (.tuple #[v, .int .i64 r.2.1, .int .i64 r.2.2]) ∧ Kd.R k33 58 w' w.heap.size (fun _ => True) v r.1 ∧ Below w.heap.size w w'
def CRel (s : ByteArray) (g : Nat) (r : List S33 × Int × Int) (w : World) (kq : Nat) (v6 : Value) (w' : World) : Prop :=
 ∃ (i : Int) (acc : List S33) (n : Nat), n < kq ∧ Aside0 (CutRun s n i acc r) ∧ Aside0 (IsS41 w w' g s i) ∧ Aside0 (Kd.R k33 58 w' w.heap.size (· ≠ g) v6 acc) ∧ Aside0 (Below w.heap.size w w')
theorem cut_big (s : ByteArray) (w : World) (h : 8192 < s.size) : Calls Try.prog 36 #[.string s] w (CPost ([], 0, 30) w) := by
 have h' : (8192 : Int) < (s.size : Int) := by omega
 go_enter Try.func36, Try.ntmps36
 go_wp2
 refine bodyPost_ret (v := .tuple #[.slice none 0 0, .int .i64 0, .int .i64 30]) (by simp [results, Try.results36, go_sem]) rfl ?_
 exact ⟨_, rfl, Kd.R_nil _ _ _ _ _, xbr _ _⟩
theorem cut_walk (s : ByteArray) (r : List S33 × Int × Int) (w : World) (h : ¬ 8192 < s.size) (n0 : Nat) (hr : CutRun s n0 0 [] r) : Calls Try.prog 36 #[.string s] w (CPost r w) := by
 have h' : ¬ (8192 : Int) < (s.size : Int) := by omega
 have HR := A_0 hr; have HB := A_0 (xbr w.heap.size w); clear hr
 go_enter Try.func36, Try.ntmps36
 go_wp2_with (first | ((with_reducible refine gate_dst (N := 14) rfl ?_); refine bx #[.string s, .int .i64 0] 99 ?_; intro g hg w3 hbox hb; have HI := A_0 (show IsS41 w w3 g s 0 from ⟨hbox, (z_4)⟩); replace HB := A_0 (xbs HB.out hb); clear hb hbox hg))
 go_loopg [6] (n0 + 1) (fun kq v6 w' => CRel s g r w kq v6 w')
 case atStart => exact ⟨0, [], n0, by omega, HR, HI, ⟨Kd.R_nil _ _ _ _ _⟩, HB⟩
 case round =>
  clear HI HB HR; unfold CRel at hrel; obtain ⟨i, acc, n, hn, HR, HI, HO, HB⟩ := hrel; cases gk with
  | zero => omega
  | succ k1 =>
  have hcase := HR.out; cases hcase with
  | err n i j acc kd tx nm at_ er p h1 h2 h3 =>
   have H1 := A_0 h1; have H2 := A_0 h2; have H3 := Lib.hid h3; clear h1 h2 h3 HR
   go_wp2_with fail
   refine (skip_of s i j H1.out g w _ HI.out HB.out).mono ?_
   rintro e w5 ⟨rfl, hi5, hb5, hk5⟩; replace HI := A_0 hi5; replace HB := A_0 hb5; clear hi5 hb5 hk5
   go_wp2_with fail
   refine (next_of s j kd tx nm at_ er p H2.out g w _ HI.out HB.out).mono ?_
   rintro e w6 ⟨rfl, hi6, hb6, hk6⟩; have HB6 := A_0 hb6; clear HI HB hi6 hb6 hk6 HO; have e1 : (er != 0) = true := by rw [bne_iff_ne]; exact H3.out
   go_wp2
   go_quiet (fail)
   go_wp2
   refine bodyPost_ret (v := .tuple #[.slice none 0 0, .int .i64 at_, .int .i64 er]) (by simp [results, Try.results36, go_sem]) rfl ?_
   exact ⟨_, rfl, Kd.R_nil _ _ _ _ _, pw_below_drewN (below_alloc HB6.out _) _⟩
  | fin n i j acc kd tx nm at_ p h1 h2 h3 h4 =>
   have H1 := A_0 h1; have H2 := A_0 h2; have H3 := Lib.hid h3; have H4 := Lib.hid h4; clear h1 h2 h3 h4 HR
   go_wp2_with fail
   refine (skip_of s i j H1.out g w _ HI.out HB.out).mono ?_
   rintro e w5 ⟨rfl, hi5, hb5, hk5⟩; replace HI := A_0 hi5; replace HB := A_0 hb5; replace HO := A_0 (Kd.R_keep HO.out hk5 (fun k hk => hk)); clear hi5 hb5 hk5
   go_wp2_with fail
   refine (next_of s j kd tx nm at_ 0 p H2.out g w _ HI.out HB.out).mono ?_
   rintro e w6 ⟨rfl, hi6, hb6, hk6⟩; replace HI := A_0 hi6; replace HB := A_0 hb6; replace HO := A_0 (Kd.R_keep HO.out hk6 (fun k hk => hk)); clear hi6 hb6 hk6; have e1 : (kd == 0) = true := by rw [beq_iff_eq]; exact H4.out
   have hfr : ∀ k, w6.heap.size + 1 ≤ k → k ≠ g := fun k hk => by have := IsS41.lt HI.out; omega
   have hal := below_size HB.out
   go_wp2_with (first | ((with_reducible refine gate_builtin (b := .append) (xs := #[.tmp 27, .tmp 29]) rfl ?_); at_builtin; refine Kd.R_append k33 (w0 := w) w.heap.size rfl (.tmp 27) (.tmp 29) 53 58 (.agg #[(.int .i64 0), (.string ⟨#[]⟩), (.int .i64 0), (.int .i64 0)]) 40 rfl Try.underlying53 info33 rfl (by decide) (by omega) u6 acc (⟨kd, tx, nm, at_⟩ : S33) [.int .i64 kd, .string tx, .int .i64 nm, .int .i64 at_] (· ≠ g) (fun _ => False) rfl ?aX ?aP (fun _ hk => hk.elim) ?aF ?aO ?aB ?aS ?aL ?_; (case aX => show Value.slice _ _ _ = _; simp); (case aP => exact k33_mkM _ _ _ _); (case aF => exact (fun k hk => hfr k (by simpa using hk))); (case aO => exact Kd.R_alloc HO.out _); (case aB => exact below_alloc HB.out _); (case aS => exact below_size (below_alloc HB.out _)); (case aL => have := H3.out; omega); intro v9 w9 ho9 hb9 hg9 hat9; have m1_ := A_0 ho9; have m2_ := A_0 hb9; have m3_ := A_0 (IsS41.grown (IsS41.alloc HI.out _) hg9 (IsS41.own_ne HI.out HO.out (by decide))); have m4_ := A_0 (hg9.block w6.heap.size (by simp) (fun e => Kd.R_ne_new HO.out 0 (by simpa using e))); clear HI HB HO ho9 hb9 hg9 hat9; have HO := m1_; have HB := m2_; have HI := m3_; clear m1_ m2_ m3_; have hT : w9.heap[w6.heap.size]? = some (b58 kd tx nm at_) := m4_.out.trans (blk_new w6 _); have t0 : w9.cell? ⟨w6.heap.size, 0, none⟩ = some (.int .i64 kd) := (xbc hT 0).trans rfl; clear hT m4_))
   refine bodyPost_ret (v := .tuple #[v9, .int .i64 0, .int .i64 0]) (by simp [results, Try.results36, go_sem]) rfl ?_
   exact ⟨_, rfl, Kd.R_mono HO.out (fun _ _ => trivial), HB.out⟩
  | step n i j acc kd tx nm at_ p r h1 h2 h3 h4 h5 =>
   have H5 := A_0 h5; clear h5; have H1 := A_0 h1; have H2 := A_0 h2; have H3 := Lib.hid h3; have H4 := Lib.hid h4; clear h1 h2 h3 h4 HR
   go_wp2_with fail
   refine (skip_of s i j H1.out g w _ HI.out HB.out).mono ?_
   rintro e w5 ⟨rfl, hi5, hb5, hk5⟩; replace HI := A_0 hi5; replace HB := A_0 hb5; replace HO := A_0 (Kd.R_keep HO.out hk5 (fun k hk => hk)); clear hi5 hb5 hk5
   go_wp2_with fail
   refine (next_of s j kd tx nm at_ 0 p H2.out g w _ HI.out HB.out).mono ?_
   rintro e w6 ⟨rfl, hi6, hb6, hk6⟩; replace HI := A_0 hi6; replace HB := A_0 hb6; replace HO := A_0 (Kd.R_keep HO.out hk6 (fun k hk => hk)); clear hi6 hb6 hk6; have e1 : (kd == 0) = false := by rw [beq_eq_false_iff_ne]; exact H4.out
   have hfr : ∀ k, w6.heap.size + 1 ≤ k → k ≠ g := fun k hk => by have := IsS41.lt HI.out; omega
   have hal := below_size HB.out
   go_wp2_with (first | ((with_reducible refine gate_builtin (b := .append) (xs := #[.tmp 27, .tmp 29]) rfl ?_); at_builtin; refine Kd.R_append k33 (w0 := w) w.heap.size rfl (.tmp 27) (.tmp 29) 53 58 (.agg #[(.int .i64 0), (.string ⟨#[]⟩), (.int .i64 0), (.int .i64 0)]) 40 rfl Try.underlying53 info33 rfl (by decide) (by omega) u6 acc (⟨kd, tx, nm, at_⟩ : S33) [.int .i64 kd, .string tx, .int .i64 nm, .int .i64 at_] (· ≠ g) (fun _ => False) rfl ?aX ?aP (fun _ hk => hk.elim) ?aF ?aO ?aB ?aS ?aL ?_; (case aX => show Value.slice _ _ _ = _; simp); (case aP => exact k33_mkM _ _ _ _); (case aF => exact (fun k hk => hfr k (by simpa using hk))); (case aO => exact Kd.R_alloc HO.out _); (case aB => exact below_alloc HB.out _); (case aS => exact below_size (below_alloc HB.out _)); (case aL => have := H3.out; omega); intro v9 w9 ho9 hb9 hg9 hat9; have m1_ := A_0 ho9; have m2_ := A_0 hb9; have m3_ := A_0 (IsS41.grown (IsS41.alloc HI.out _) hg9 (IsS41.own_ne HI.out HO.out (by decide))); have m4_ := A_0 (hg9.block w6.heap.size (by simp) (fun e => Kd.R_ne_new HO.out 0 (by simpa using e))); clear HI HB HO ho9 hb9 hg9 hat9; have HO := m1_; have HB := m2_; have HI := m3_; clear m1_ m2_ m3_; have hT : w9.heap[w6.heap.size]? = some (b58 kd tx nm at_) := m4_.out.trans (blk_new w6 _); have t0 : w9.cell? ⟨w6.heap.size, 0, none⟩ = some (.int .i64 kd) := (xbc hT 0).trans rfl; clear hT m4_))
   go_roundg k1
   case measure => omega
   case rel => exact ⟨p, _, n, by omega, H5, HI, HO, HB⟩
theorem lex_Cut.calls (a0 : ByteArray) (r1 : List S33) (r2 r3 : Int) (w : World) (h : lex_Cut.f a0 = some (r1, r2, r3)) :
  Calls Try.prog 36 #[.string a0] w fun e w' => ∃ v1_ : Value, e = .returned (.tuple #[v1_, .int .i64 r2, .int .i64 r3]) ∧ Kd.R k33 58 w' w.heap.size (fun _ => True) v1_ r1 ∧ Below w.heap.size w w' := by
 rcases cut_run h with ⟨hs, hr⟩ | ⟨hs, n, hr⟩
 ·have := cut_big a0 w hs
  rw [← hr] at this; exact this
 ·exact cut_walk a0 (r1, r2, r3) w hs n hr
def c8 (b : UInt8) : Int := (b.toNat : Int)
def lst (s : ByteArray) : List UInt8 := s.data.toList
theorem lst_len (s : ByteArray) : (lst s).length = s.size := data_length s
theorem bt_get (s : ByteArray) (i : Nat) (h : i < (lst s).length) : bt s (i : Int) = c8 (lst s)[i] := by
 have hs : i < s.size := by rw [← lst_len]; exact h
 unfold bt c8; simp only [Int.toNat_natCast]; rw [dif_pos hs]
 rfl
theorem bt_drop {s : ByteArray} {i : Nat} {c : UInt8} {l : List UInt8} (h : (lst s).drop i = c :: l) : i < s.size ∧ bt s (i : Int) = c8 c ∧ (lst s).drop (i + 1) = l := by
 have hl : i < (lst s).length := by
  by_cases q : i < (lst s).length
  ·exact q
  ·rw [List.drop_eq_nil_of_le (by omega)] at h; simp at h
 rw [List.drop_eq_getElem_cons hl] at h; injection h with h1 h2; exact ⟨by rw [← lst_len]; exact hl, by rw [bt_get s i hl, h1], h2⟩
theorem drop_nil {s : ByteArray} {i : Nat} (h : (lst s).drop i = []) (hi : i ≤ s.size) : i = s.size := by
 have := congrArg List.length h; rw [List.length_drop, lst_len] at this; simp at this
 omega
def blankB (b : UInt8) : Bool := c8 b == 32 || c8 b == 10 || c8 b == 9 || c8 b == 13
theorem blank_f (b : UInt8) : lex_blank.f (c8 b) = some (blankB b) := by
 unfold lex_blank.f blankB; by_cases h1 : c8 b = 32
 ·rw [if_pos h1, beq_iff_eq.2 h1]; rfl
 ·rw [if_neg h1, beq_eq_false_iff_ne.2 h1]
  by_cases h2 : c8 b = 10
  ·rw [if_pos h2, beq_iff_eq.2 h2]; rfl
  ·rw [if_neg h2, beq_eq_false_iff_ne.2 h2]
   by_cases h3 : c8 b = 9
   ·rw [if_pos h3, beq_iff_eq.2 h3]; rfl
   ·rw [if_neg h3, beq_eq_false_iff_ne.2 h3]; rfl
def skipL : Bool → List UInt8 → List UInt8
 | _, [] => []
 | true, c :: l => if c8 c = 10 then skipL false l else skipL true l
 | false, c :: l => if blankB c = true then skipL false l else if c8 c = 35 then skipL true l else c :: l
theorem skipL_len : ∀ r l, (skipL r l).length ≤ l.length
 | _, [] => by simp [skipL]
 | true, c :: l => by
  unfold skipL; have h1 := skipL_len false l; have h2 := skipL_len true l
  split <;> simp <;> omega
 | false, c :: l => by
  unfold skipL; have h1 := skipL_len false l; have h2 := skipL_len true l
  split
  ·simp; omega
  ·split
   ·simp; omega
   ·simp
theorem skipL_drop : ∀ r l, ∃ k, skipL r l = l.drop k ∧ k ≤ l.length
 | _, [] => ⟨0, by simp [skipL]⟩
 | true, c :: l => by
  unfold skipL; obtain ⟨k1, h1, h1'⟩ := skipL_drop false l; obtain ⟨k2, h2, h2'⟩ := skipL_drop true l
  split
  ·exact ⟨k1 + 1, by simpa using h1, by simp; omega⟩
  ·exact ⟨k2 + 1, by simpa using h2, by simp; omega⟩
 | false, c :: l => by
  unfold skipL; obtain ⟨k1, h1, h1'⟩ := skipL_drop false l; obtain ⟨k2, h2, h2'⟩ := skipL_drop true l
  split
  ·exact ⟨k1 + 1, by simpa using h1, by simp; omega⟩
  ·split
   ·exact ⟨k2 + 1, by simpa using h2, by simp; omega⟩
   ·exact ⟨0, by simp, by simp⟩
theorem wrap64_nat (i : Nat) (h : i ≤ 140737488351232) : wrap64 ((i : Int) + 1) = ((i + 1 : Nat) : Int) := by unfold wrap64; omega
theorem skip_both (s : ByteArray) (hs : s.size ≤ 140737488351232) : ∀ (l : List UInt8) (i : Nat), (lst s).drop i = l → i ≤ s.size →
  (∃ k, lex_cutter_skip.l0 k s (i : Int) = some (s, ((s.size - (skipL false l).length : Nat) : Int))) ∧ (∃ k, lex_cutter_skip.l1 k s (i : Int) = some (s, ((s.size - (skipL true l).length : Nat) : Int)))
 | [], i, h, hi => by
  have e := drop_nil h hi; subst e; refine ⟨⟨1, ?_⟩, ⟨2, ?_⟩⟩
  ·rw [lex_cutter_skip.l0, if_neg (by omega)]; rfl
  ·rw [lex_cutter_skip.l1, if_neg (by omega), lex_cutter_skip.l0, if_neg (by omega)]; rfl
 | c :: l, i, h, hi => by
  obtain ⟨h1, h2, h3⟩ := bt_drop h; obtain ⟨⟨ka, ha⟩, ⟨kb, hb⟩⟩ := skip_both s hs l (i + 1) h3 (by omega); have hw := wrap64_nat i (by omega)
  have A : ∃ k, lex_cutter_skip.l0 k s (i : Int) = some (s, ((s.size - (skipL false (c :: l)).length : Nat) : Int)) := by
   by_cases q1 : blankB c = true
   ·refine ⟨ka + 1, ?_⟩
    rw [lex_cutter_skip.l0, if_pos (by omega), if_pos (by omega), h2, blank_f]; simp only [Option.bind_some]; rw [if_pos q1, hw, ha, skipL, if_pos q1]
   ·by_cases q2 : c8 c = 35
    ·refine ⟨kb + 1 + 1, ?_⟩
     rw [lex_cutter_skip.l0, if_pos (by omega), if_pos (by omega), h2, blank_f]; simp only [Option.bind_some]; rw [if_neg q1, if_pos q2, lex_cutter_skip.l1, if_pos (by omega), if_pos (by omega), h2, if_neg (by omega), hw, hb, skipL, if_neg q1, if_pos q2]
    ·refine ⟨1, ?_⟩
     rw [lex_cutter_skip.l0, if_pos (by omega), if_pos (by omega), h2, blank_f]; simp only [Option.bind_some]; rw [if_neg q1, if_neg q2, skipL, if_neg q1, if_neg q2]
     have e : s.size - (c :: l).length = i := by
      have := congrArg List.length h; rw [List.length_drop, lst_len] at this
      omega
     rw [e]
  refine ⟨A, ?_⟩
  by_cases q : c8 c = 10
  ·obtain ⟨k, hk⟩ := A
   refine ⟨k + 1, ?_⟩
   rw [lex_cutter_skip.l1, if_pos (by omega), if_pos (by omega), h2, if_pos q, hk]; have hbl : blankB c = true := by unfold blankB; rw [q]; rfl
   rw [skipL, skipL, if_pos hbl, if_pos q]
  ·refine ⟨kb + 1, ?_⟩
   rw [lex_cutter_skip.l1, if_pos (by omega), if_pos (by omega), h2, if_neg q, hw, hb, skipL, if_neg q]
theorem skip_R (s : ByteArray) (hs : s.size ≤ 140737488351232) (i : Nat) (hi : i ≤ s.size) : SkipR s (i : Int) ((s.size - (skipL false ((lst s).drop i)).length : Nat) : Int) := by
 obtain ⟨⟨k, hk⟩, _⟩ := skip_both s hs _ i rfl hi; exact ⟨k, hk⟩
theorem skip_left (s : ByteArray) (i : Nat) (hi : i ≤ s.size) : (lst s).drop (s.size - (skipL false ((lst s).drop i)).length) = skipL false ((lst s).drop i) := by
 obtain ⟨k, h1, h2⟩ := skipL_drop false ((lst s).drop i); have hl : ((lst s).drop i).length = s.size - i := by rw [List.length_drop, lst_len]
 rw [h1, List.length_drop, hl, List.drop_drop]; rw [hl] at h2
 congr 1
 omega
def digB (b : UInt8) : Bool := isDig (c8 b)
def letB (b : UInt8) : Bool := isLet (c8 b)
def anB (b : UInt8) : Bool := isAn (c8 b)
theorem upto_take (p : Int → Bool) (s : ByteArray) : ∀ (l : List UInt8) (i : Nat), (lst s).drop i = l → i ≤ s.size → upto p s i = i + (l.takeWhile (fun b => p (c8 b))).length
 | [], i, h, hi => by
  have e := drop_nil h hi; rw [upto_out p s i (fun q => by omega)]
  simp
 | c :: l, i, h, hi => by
  obtain ⟨h1, h2, h3⟩ := bt_drop h; by_cases q : p (c8 c) = true
  ·rw [upto_in p s i h1 (by rw [h2]; exact q), upto_take p s l (i + 1) h3 (by omega)]
   simp [List.takeWhile_cons, q]
   omega
  ·rw [upto_out p s i (fun _ => by rw [h2]; simpa using q)]
   simp [List.takeWhile_cons, q]
def bs (l : List UInt8) : ByteArray := ⟨l.toArray⟩
theorem bs_lst (s : ByteArray) : bs (lst s) = s := by unfold bs lst; simp
theorem lst_bs (l : List UInt8) : lst (bs l) = l := by unfold bs lst; simp
theorem bs_size (l : List UInt8) : (bs l).size = l.length := by rw [← lst_len, lst_bs]
theorem bs_toList (l : List UInt8) : (bs l).toList = l := by rw [toList_eq]; exact lst_bs l
theorem lst_extract (s : ByteArray) (i j : Nat) : lst (s.extract i j) = ((lst s).drop i).take (j - i) := by
 unfold lst; rw [ByteArray.data_extract]; simp [List.take_drop]
structure Tok where
 kd : Int
 tx : List UInt8
 nm : Int
def signsL : List (List UInt8) := [[61, 61], [33, 61], [60, 61], [62, 61], [60, 60], [62, 62], [61], [60], [62], [43], [45], [42], [47], [37], [38], [124], [94], [126], [33], [40], [41], [91], [93], [123], [125], [59], [44]]
def findSign : List (List UInt8) → List UInt8 → Option (List UInt8)
 | [], _ => none
 | w :: ws, l => if w.isPrefixOf l = true then some w else findSign ws l
def wordsB (t : List UInt8) : Bool := t == [118, 97, 114] || (t == [105, 102] || (t == [101, 108, 115, 101] || (t == [119, 104, 105, 108, 101] || (t == [101, 109, 105, 116] || (t == [105, 110, 116, 111] || (t == [102, 97, 105, 108] || (t == [115, 116, 111, 112] || (t == [109] || (t == [109, 105, 110] || (t == [109, 97, 120] || false))))))))))
theorem if_or (t a : List UInt8) (b : Bool) : (if t = a then some true else some b) = some (t == a || b) := by
 by_cases h : t = a
 ·rw [if_pos h, beq_iff_eq.2 h]; rfl
 ·rw [if_neg h, beq_eq_false_iff_ne.2 h]; rfl
def tokL (c : UInt8) (l : List UInt8) : Except (Int × Nat) Tok :=
 if digB c = true then
  if (parseP (bs ((c :: l).takeWhile digB))).2 ≠ 0 then .error (33, 0)
  else match (c :: l).dropWhile digB with
   | d :: _ => if letB d = true then .error (31, ((c :: l).takeWhile digB).length) else .ok ⟨1, (c :: l).takeWhile digB, (parseP (bs ((c :: l).takeWhile digB))).1⟩
   | [] => .ok ⟨1, (c :: l).takeWhile digB, (parseP (bs ((c :: l).takeWhile digB))).1⟩
 else if letB c = true then
  if wordsB ((c :: l).takeWhile anB) = true then .ok ⟨3, (c :: l).takeWhile anB, 0⟩
  else if 12 < ((c :: l).takeWhile anB).length then .error (32, 0) else .ok ⟨2, (c :: l).takeWhile anB, 0⟩
 else match findSign signsL (c :: l) with
  | some w => .ok ⟨4, w, 0⟩
  | none => .error (31, 0)
theorem take_prefix {α : Type} (p : α → Bool) (l : List α) : l = l.takeWhile p ++ l.dropWhile p := (List.takeWhile_append_dropWhile).symm
theorem drop_while_len (p : UInt8 → Bool) (l : List UInt8) : l.drop (l.takeWhile p).length = l.dropWhile p := by
 have h := take_prefix p l; have : l.drop (l.takeWhile p).length = (l.takeWhile p ++ l.dropWhile p).drop (l.takeWhile p).length := by rw [← h]
 rw [this, List.drop_left]
theorem take_while_len (p : UInt8 → Bool) (l : List UInt8) : l.take (l.takeWhile p).length = l.takeWhile p := by
 have h := take_prefix p l; have : l.take (l.takeWhile p).length = (l.takeWhile p ++ l.dropWhile p).take (l.takeWhile p).length := by rw [← h]
 rw [this, List.take_left]
theorem piece (p : Int → Bool) (s : ByteArray) (i : Nat) (l : List UInt8) (h : (lst s).drop i = l) (hi : i ≤ s.size) : s.extract i (upto p s i) = bs (l.takeWhile (fun b => p (c8 b))) := by
 have hu := upto_take p s l i h hi
 have h1 : lst (s.extract i (upto p s i)) = l.takeWhile (fun b => p (c8 b)) := by
  rw [lst_extract, h, hu, Nat.add_sub_cancel_left]; exact take_while_len _ l
 rw [← h1, bs_lst]
theorem words_get (t : List UInt8) : lex_Words.f (bs t) = some (wordsB t) := by
 unfold lex_Words.f wordsB; simp only [bs_toList, if_or]
def tokR (s : ByteArray) (i : Nat) (c : UInt8) (l : List UInt8) (r : Except (Int × Nat) Tok) : Prop :=
 match r with
 | .ok t => NextR s (i : Int) (t.kd, bs t.tx, t.nm, (i : Int), 0, ((i + t.tx.length : Nat) : Int))
 | .error (e, d) => ∃ kd tx nm p, NextR s (i : Int) (kd, tx, nm, ((i + d : Nat) : Int), e, p)
theorem next_num (s : ByteArray) (hs : s.size ≤ 140737488351232) (i : Nat) (c : UInt8) (l : List UInt8) (h : (lst s).drop i = c :: l) (hd : digB c = true) : tokR s i c l (tokL c l) := by
 obtain ⟨h1, h2, h3⟩ := bt_drop h; have hu := upto_take isDig s (c :: l) i h (by omega); have hp := piece isDig s i (c :: l) h (by omega); have hul := upto_le isDig s i (by omega); have hd' : isDig (c8 c) = true := hd
 have hN : ∀ k, lex_cutter_next.f k s (i : Int) = some (numF s i 0 (i : Int)) := by
  intro k; unfold lex_cutter_next.f; rw [if_neg (by omega), if_pos (by omega), if_pos (by omega), h2, digit_f, hd']; simp only [Option.bind_some, if_true]; unfold lex_cutter_number.f; rw [if_pos ⟨by omega, by omega, hs, by rw [h2]; exact hd'⟩, Int.toNat_natCast]
  rfl
 have hdw : (lst s).drop (upto isDig s i) = (c :: l).dropWhile digB := by
  rw [hu, ← List.drop_drop, h]; exact drop_while_len digB (c :: l)
 have hpp : s.extract i (upto isDig s i) = bs ((c :: l).takeWhile digB) := hp; have huu : upto isDig s i = i + ((c :: l).takeWhile digB).length := hu; unfold numF at hN; rw [hpp] at hN; unfold tokL; rw [if_pos hd]; by_cases q : (parseP (bs ((c :: l).takeWhile digB))).2 ≠ 0
 ·rw [if_pos q]
  simp only [if_pos q] at hN; exact ⟨_, _, _, _, 0, hN 0⟩
 ·rw [if_neg q]
  simp only [if_neg q] at hN; cases hr : (c :: l).dropWhile digB with
  | nil =>
   rw [hr] at hdw; have he := drop_nil hdw hul.2; have hc : ¬ (upto isDig s i < s.size ∧ isLet (bt s ((upto isDig s i : Nat) : Int)) = true) := fun x => by omega
   simp only [if_neg hc] at hN; simp only [tokR]; rw [← huu]; exact ⟨0, hN 0⟩
  | cons d ds =>
   rw [hr] at hdw; obtain ⟨g1, g2, g3⟩ := bt_drop hdw; simp only; by_cases ql : letB d = true
   ·have hc : upto isDig s i < s.size ∧ isLet (bt s ((upto isDig s i : Nat) : Int)) = true := ⟨g1, by rw [g2]; exact ql⟩
    simp only [if_pos hc] at hN; rw [if_pos ql]; simp only [tokR]; rw [← huu]; exact ⟨_, _, _, _, 0, hN 0⟩
   ·have hc : ¬ (upto isDig s i < s.size ∧ isLet (bt s ((upto isDig s i : Nat) : Int)) = true) := fun x => ql (by have := x.2; rw [g2] at this; exact this)
    simp only [if_neg hc] at hN; rw [if_neg ql]; simp only [tokR]; rw [← huu]; exact ⟨0, hN 0⟩
theorem next_word (s : ByteArray) (hs : s.size ≤ 140737488351232) (i : Nat) (c : UInt8) (l : List UInt8) (h : (lst s).drop i = c :: l) (hd : digB c = false) (hl : letB c = true) : tokR s i c l (tokL c l) := by
 obtain ⟨h1, h2, h3⟩ := bt_drop h; have hu := upto_take isAn s (c :: l) i h (by omega); have hp := piece isAn s i (c :: l) h (by omega); have hd' : isDig (c8 c) = false := hd; have hl' : isLet (c8 c) = true := hl
 have hN : ∀ k, lex_cutter_next.f k s (i : Int) = some (wordF s i 0 (i : Int)) := by
  intro k; unfold lex_cutter_next.f; rw [if_neg (by omega), if_pos (by omega), if_pos (by omega), h2, digit_f, hd', letter_f, hl']; simp only [Option.bind_some, if_true, Bool.false_eq_true, if_false]; unfold lex_cutter_word.f; rw [if_pos ⟨by omega, by omega, hs⟩, Int.toNat_natCast]
  rfl
 have hpp : s.extract i (upto isAn s i) = bs ((c :: l).takeWhile anB) := hp; have huu : upto isAn s i = i + ((c :: l).takeWhile anB).length := hu; unfold wordF at hN; rw [hpp, words_get, bs_size] at hN; unfold tokL; rw [if_neg (by rw [hd]; simp), if_pos hl]; by_cases q : wordsB ((c :: l).takeWhile anB) = true
 ·rw [if_pos q]
  rw [q] at hN; simp only [if_true] at hN; simp only [tokR]; rw [← huu]; exact ⟨0, hN 0⟩
 ·rw [if_neg q]
  have q' : wordsB ((c :: l).takeWhile anB) = false := by simpa using q
  rw [q'] at hN; simp only [Option.some.injEq, Bool.false_eq_true, if_false] at hN; by_cases q2 : 12 < ((c :: l).takeWhile anB).length
  ·rw [if_pos q2]
   simp only [if_pos q2] at hN; exact ⟨_, _, _, _, 0, hN 0⟩
  ·rw [if_neg q2]
   simp only [if_neg q2] at hN; simp only [tokR]; rw [← huu]; exact ⟨0, hN 0⟩
theorem prefix_take (w l : List UInt8) : w.isPrefixOf l = true ↔ w.length ≤ l.length ∧ l.take w.length = w := by
 rw [List.isPrefixOf_iff_prefix]
 constructor
 ·rintro ⟨t, rfl⟩
  exact ⟨by simp, by simp⟩
 ·rintro ⟨h1, h2⟩
  exact ⟨l.drop w.length, by conv => { lhs; lhs; rw [← h2] }; exact List.take_append_drop _ _⟩
def signFull : List ByteArray := signsL.map bs
theorem signs_f : lex_signs.f = some signFull := by rfl
theorem sign_rd (j : Nat) (w : List UInt8) (ws : List (List UInt8)) (h : signsL.drop j = w :: ws) : j < signFull.length ∧ rdOf ByteArray.empty signFull (j : Int) = bs w ∧ signsL.drop (j + 1) = ws := by
 have hl : j < signsL.length := by
  by_cases q : j < signsL.length
  ·exact q
  ·rw [List.drop_eq_nil_of_le (by omega)] at h; simp at h
 rw [List.drop_eq_getElem_cons hl] at h; injection h with h1 h2; have hl2 : j < signFull.length := by unfold signFull; rw [List.length_map]; exact hl
 refine ⟨hl2, ?_, h2⟩
 have hl3 : j < (signsL.map bs).length := hl2; have hx : (signsL.map bs)[j]'hl3 = bs w := by rw [List.getElem_map, h1]
 unfold rdOf; simp only [Int.toNat_natCast]; rw [List.getD_eq_getElem?_getD, List.getElem?_eq_getElem hl2]; exact hx
theorem sign_small : ∀ w ∈ signsL, w.length ≤ 2 := by decide
theorem next_loop (s : ByteArray) (hs : s.size ≤ 140737488351232) (i : Nat) (l : List UInt8) (hi : i ≤ s.size) (h : (lst s).drop i = l) : ∀ (ws : List (List UInt8)) (j : Nat), signsL.drop j = ws → (∀ w ∈ ws, w.length ≤ 2) → j ≤ 27 → ∃ k, lex_cutter_next.l0 k signFull (signFull.length : Int) (j : Int) s (i : Int) 0 (⟨#[]⟩ : ByteArray) 0 (i : Int) =
  (match findSign ws l with
   | some w => some (4, bs w, 0, (i : Int), 0, s, ((i + w.length : Nat) : Int))
   | none => some (0, ⟨#[]⟩, 0, (i : Int), 31, s, (i : Int)))
 | [], j, hj, _, _ => by
  refine ⟨1, ?_⟩
  have hl : signsL.length ≤ j := by
   have := congrArg List.length hj; rw [List.length_drop] at this; simp at this
   omega
  have hl2 : ¬ (j : Int) < (signFull.length : Int) := by unfold signFull; rw [List.length_map]; omega
  rw [lex_cutter_next.l0, if_neg hl2]
  rfl
 | w :: ws, j, hj, hw, hj27 => by
  obtain ⟨g1, g2, g3⟩ := sign_rd j w ws hj; have hw2 : w.length ≤ 2 := hw w (by simp)
  have hj27' : j + 1 ≤ 27 := by
   have h27 : signFull.length = 27 := by rfl
   omega
  obtain ⟨k, hk⟩ := next_loop s hs i l hi h ws (j + 1) g3 (fun x hx => hw x (by simp [hx])) hj27'; have hll : l.length = s.size - i := by rw [← h, List.length_drop, lst_len]
  have e1 : wrap64 ((s.size : Int) - (i : Int)) = ((s.size - i : Nat) : Int) := by unfold wrap64; omega
  have e2 : wrap64 ((i : Int) + ((w.length : Nat) : Int)) = ((i + w.length : Nat) : Int) := by unfold wrap64; omega
  have e3 : wrap64 ((j : Int) + 1) = ((j + 1 : Nat) : Int) := by unfold wrap64; omega
  refine ⟨k + 1, ?_⟩
  rw [lex_cutter_next.l0, if_pos (by omega), if_pos (by omega), if_pos (by omega), g2, bs_size, e1, e2, e3]; unfold findSign; by_cases c1 : ((w.length : Nat) : Int) ≤ ((s.size - i : Nat) : Int)
  ·rw [if_pos c1, if_pos (by omega), if_pos (by omega), if_pos (by omega)]
   have hx : (s.extract i (i + w.length)).toList = l.take w.length := by
    rw [toList_eq]; have := lst_extract s i (i + w.length); rw [h, Nat.add_sub_cancel_left] at this; exact this
   simp only [Int.toNat_natCast, hx, bs_toList]; by_cases c2 : l.take w.length = w
   ·rw [if_pos c2, if_pos ((prefix_take w l).2 ⟨by omega, c2⟩)]
   ·rw [if_neg c2, if_neg (fun q => c2 ((prefix_take w l).1 q).2)]
    exact hk
  ·rw [if_neg c1, if_neg (fun q => by have := ((prefix_take w l).1 q).1; omega)]
   exact hk
theorem next_sign (s : ByteArray) (hs : s.size ≤ 140737488351232) (i : Nat) (c : UInt8) (l : List UInt8) (h : (lst s).drop i = c :: l) (hd : digB c = false) (hl : letB c = false) : tokR s i c l (tokL c l) := by
 obtain ⟨h1, h2, h3⟩ := bt_drop h; have hd' : isDig (c8 c) = false := hd; have hl' : isLet (c8 c) = false := hl; obtain ⟨k, hk⟩ := next_loop s hs i (c :: l) (by omega) h signsL 0 rfl sign_small (by omega)
 have hN : lex_cutter_next.f k s (i : Int) = (match findSign signsL (c :: l) with
   | some w => some (4, bs w, 0, (i : Int), 0, s, ((i + w.length : Nat) : Int))
   | none => some (0, ⟨#[]⟩, 0, (i : Int), 31, s, (i : Int))) := by
  unfold lex_cutter_next.f; rw [if_neg (by omega), if_pos (by omega), if_pos (by omega), h2, digit_f, hd', letter_f, hl', signs_f]; simp only [Option.bind_some, Bool.false_eq_true, if_false]; exact hk
 unfold tokL; rw [if_neg (by rw [hd]; simp), if_neg (by rw [hl]; simp)]; cases hf : findSign signsL (c :: l) with
 | none =>
  rw [hf] at hN; simp only; exact ⟨_, _, _, _, k, hN⟩
 | some w =>
  rw [hf] at hN; simp only; exact ⟨k, hN⟩
theorem next_tok (s : ByteArray) (hs : s.size ≤ 140737488351232) (i : Nat) (c : UInt8) (l : List UInt8) (h : (lst s).drop i = c :: l) : tokR s i c l (tokL c l) := by
 cases hd : digB c with
 | true => exact next_num s hs i c l h hd
 | false =>
  cases hl : letB c with
  | true => exact next_word s hs i c l h hd hl
  | false => exact next_sign s hs i c l h hd hl
theorem next_end (s : ByteArray) : NextR s (s.size : Int) (0, ⟨#[]⟩, 0, (s.size : Int), 0, (s.size : Int)) := by
 refine ⟨0, ?_⟩
 unfold lex_cutter_next.f; rw [if_pos rfl]
theorem take_pos (p : UInt8 → Bool) (c : UInt8) (l : List UInt8) (h : p c = true) : 1 ≤ ((c :: l).takeWhile p).length := by
 rw [List.takeWhile_cons, if_pos h]; simp
theorem find_prefix : ∀ (ws : List (List UInt8)) (l w : List UInt8), findSign ws l = some w → w ∈ ws ∧ w.isPrefixOf l = true
 | [], l, w, h => by simp [findSign] at h
 | v :: ws, l, w, h => by
  unfold findSign at h; by_cases c : v.isPrefixOf l = true
  ·rw [if_pos c] at h
   injection h with h; subst h; exact ⟨by simp, c⟩
  ·rw [if_neg c] at h
   obtain ⟨h1, h2⟩ := find_prefix ws l w h; exact ⟨by simp [h1], h2⟩
theorem sign_pos : ∀ w ∈ signsL, 1 ≤ w.length := by decide
theorem tok_ok (c : UInt8) (l : List UInt8) (t : Tok) (h : tokL c l = .ok t) : 1 ≤ t.tx.length ∧ t.tx.length ≤ (c :: l).length ∧ (c :: l).take t.tx.length = t.tx ∧ t.kd ≠ 0 := by
 have tw : ∀ p : UInt8 → Bool, p c = true → 1 ≤ ((c :: l).takeWhile p).length ∧ ((c :: l).takeWhile p).length ≤ (c :: l).length ∧ (c :: l).take ((c :: l).takeWhile p).length = (c :: l).takeWhile p := fun p hp =>
  ⟨take_pos p c l hp, (List.takeWhile_prefix p).length_le, take_while_len p (c :: l)⟩
 unfold tokL at h; by_cases hd : digB c = true
 ·rw [if_pos hd] at h
  by_cases q : (parseP (bs ((c :: l).takeWhile digB))).2 ≠ 0
  ·rw [if_pos q] at h; simp at h
  ·rw [if_neg q] at h
   obtain ⟨a1, a2, a3⟩ := tw digB hd; cases hr : (c :: l).dropWhile digB with
   | nil =>
    rw [hr] at h; simp only at h; injection h with h; subst h; exact ⟨a1, a2, a3, by simp⟩
   | cons d ds =>
    rw [hr] at h; simp only at h; by_cases ql : letB d = true
    ·rw [if_pos ql] at h; simp at h
    ·rw [if_neg ql] at h
     injection h with h; subst h; exact ⟨a1, a2, a3, by simp⟩
 ·rw [if_neg hd] at h
  by_cases hl : letB c = true
  ·rw [if_pos hl] at h
   have ha : anB c = true := by unfold anB isAn; have : isLet (c8 c) = true := hl; rw [this]; rfl
   obtain ⟨a1, a2, a3⟩ := tw anB ha; by_cases q : wordsB ((c :: l).takeWhile anB) = true
   ·rw [if_pos q] at h
    injection h with h; subst h; exact ⟨a1, a2, a3, by simp⟩
   ·rw [if_neg q] at h
    by_cases q2 : 12 < ((c :: l).takeWhile anB).length
    ·rw [if_pos q2] at h; simp at h
    ·rw [if_neg q2] at h
     injection h with h; subst h; exact ⟨a1, a2, a3, by simp⟩
  ·rw [if_neg hl] at h
   cases hf : findSign signsL (c :: l) with
   | none => rw [hf] at h; simp at h
   | some w =>
    rw [hf] at h; simp only at h; injection h with h; subst h; obtain ⟨m1, m2⟩ := find_prefix _ _ _ hf; obtain ⟨p1, p2⟩ := (prefix_take w (c :: l)).1 m2; exact ⟨sign_pos w m1, p1, p2, by simp⟩
def cutL : Nat → List UInt8 → List (Tok × Nat) × (Option (Int × Nat))
 | 0, _ => ([], none)
 | k + 1, l =>
  match skipL false l with
  | [] => ([], none)
  | c :: m =>
   match tokL c m with
   | .error (e, d) => ([], some (e, (c :: m).length - d))
   | .ok t => ((t, (c :: m).length) :: (cutL k ((c :: m).drop t.tx.length)).1, (cutL k ((c :: m).drop t.tx.length)).2)
def s33 (n : Nat) (x : Tok × Nat) : S33 := ⟨x.1.kd, bs x.1.tx, x.1.nm, ((n - x.2 : Nat) : Int)⟩
def endTok (n : Nat) : S33 := ⟨0, ⟨#[]⟩, 0, (n : Int)⟩
def cutP (s : ByteArray) : List S33 × Int × Int :=
 if 8192 < s.size then ([], 0, 30) else
 match cutL (s.size + 1) (lst s) with
 | (ts, none) => (ts.map (s33 s.size) ++ [endTok s.size], 0, 0)
 | (_, some (e, p)) => ([], ((s.size - p : Nat) : Int), e)
theorem tok_err (c : UInt8) (l : List UInt8) (e : Int) (d : Nat) (h : tokL c l = .error (e, d)) : e ≠ 0 ∧ d ≤ (c :: l).length := by
 unfold tokL at h; by_cases hd : digB c = true
 ·rw [if_pos hd] at h
  by_cases q : (parseP (bs ((c :: l).takeWhile digB))).2 ≠ 0
  ·rw [if_pos q] at h
   injection h with h; injection h with h1 h2; subst h1 h2; exact ⟨by decide, Nat.zero_le _⟩
  ·rw [if_neg q] at h
   cases hr : (c :: l).dropWhile digB with
   | nil => rw [hr] at h; simp at h
   | cons x xs =>
    rw [hr] at h; simp only at h; by_cases ql : letB x = true
    ·rw [if_pos ql] at h
     injection h with h; injection h with h1 h2; subst h1 h2; exact ⟨by decide, (List.takeWhile_prefix digB).length_le⟩
    ·rw [if_neg ql] at h; simp at h
 ·rw [if_neg hd] at h
  by_cases hl : letB c = true
  ·rw [if_pos hl] at h
   by_cases q : wordsB ((c :: l).takeWhile anB) = true
   ·rw [if_pos q] at h; simp at h
   ·rw [if_neg q] at h
    by_cases q2 : 12 < ((c :: l).takeWhile anB).length
    ·rw [if_pos q2] at h
     injection h with h; injection h with h1 h2; subst h1 h2; exact ⟨by decide, Nat.zero_le _⟩
    ·rw [if_neg q2] at h; simp at h
  ·rw [if_neg hl] at h
   cases hf : findSign signsL (c :: l) with
   | none =>
    rw [hf] at h; simp only at h; injection h with h; injection h with h1 h2; subst h1 h2; exact ⟨by decide, Nat.zero_le _⟩
   | some w => rw [hf] at h; simp at h
def told (n : Nat) (acc : List S33) (r : List (Tok × Nat) × Option (Int × Nat)) : List S33 × Int × Int :=
 match r with
 | (ts, none) => (acc ++ (ts.map (s33 n) ++ [endTok n]), 0, 0)
 | (_, some (e, p)) => ([], ((n - p : Nat) : Int), e)
theorem cut_link (s : ByteArray) (hs : s.size ≤ 8192) : ∀ (k : Nat) (l : List UInt8) (i : Nat) (acc : List S33), (lst s).drop i = l → i ≤ s.size → l.length < k → acc.length + l.length < 90000 →
  CutRun s k (i : Int) acc (told s.size acc (cutL k l)) := by
 intro k
 induction k with
 | zero => intro l i acc _ _ h _; omega
 | succ k ih =>
  intro l i acc hl hi hk ha; have hsk := skip_R s (by omega) i hi; have hleft := skip_left s i hi; rw [hl] at hsk hleft; have hsl := skipL_len false l; have hll : l.length = s.size - i := by rw [← hl, List.length_drop, lst_len]
  unfold cutL; cases hc : skipL false l with
  | nil =>
   rw [hc] at hsk; simp only [List.length_nil, Nat.sub_zero] at hsk; exact CutRun.fin k _ _ acc 0 _ 0 _ _ hsk (next_end s) (by omega) rfl
  | cons c m =>
   rw [hc] at hsk hleft hsl; have hj : s.size - (c :: m).length ≤ s.size := by omega
   have htok := next_tok s (by omega) _ c m hleft; simp only; cases ht : tokL c m with
   | error ed =>
    obtain ⟨e, d⟩ := ed; rw [ht] at htok; obtain ⟨kd, tx, nm, p, hn⟩ := htok; obtain ⟨e1, e2⟩ := tok_err c m e d ht; have hx : s.size - (c :: m).length + d = s.size - ((c :: m).length - d) := by omega
    rw [hx] at hn; exact CutRun.err k _ _ acc kd tx nm _ e p hsk hn e1
   | ok t =>
    rw [ht] at htok; obtain ⟨t1, t2, t3, t4⟩ := tok_ok c m t ht
    have hd : (lst s).drop (s.size - (c :: m).length + t.tx.length) = (c :: m).drop t.tx.length := by
     rw [← List.drop_drop, hleft]
    have hl' : ((c :: m).drop t.tx.length).length = (c :: m).length - t.tx.length := List.length_drop; have hih := ih ((c :: m).drop t.tx.length) _ (acc ++ [⟨t.kd, bs t.tx, t.nm, ((s.size - (c :: m).length : Nat) : Int)⟩]) hd (by omega) (by rw [hl']; omega) (by rw [hl', List.length_append]; simp only [List.length_singleton]; omega); have hst := CutRun.step k (i : Int) _ acc t.kd (bs t.tx) t.nm _ _ _ hsk htok (by omega) t4 hih; simp only; cases hq : cutL k ((c :: m).drop t.tx.length) with
    | mk ts er =>
     rw [hq] at hst; cases er with
     | none =>
      simp only [told, List.append_assoc] at hst; exact hst
     | some ep => exact hst
theorem skip_fun {s : ByteArray} {i j j' : Int} (h : SkipR s i j) (h' : SkipR s i j') : j = j' := by
 obtain ⟨k, hk⟩ := h; obtain ⟨k', hk'⟩ := h'; have m := more_rounds (g := fun k => lex_cutter_skip.f k s i) (fun k => lex_cutter_skip.mono _ _ k); have a := m k k' _ hk; have b := m k' k _ hk'; rw [Nat.add_comm k' k] at b; rw [a] at b
 simpa using b
theorem next_fun {s : ByteArray} {i : Int} {r r' : Int × ByteArray × Int × Int × Int × Int} (h : NextR s i r) (h' : NextR s i r') : r = r' := by
 obtain ⟨k, hk⟩ := h; obtain ⟨k', hk'⟩ := h'; have m := more_rounds (g := fun k => lex_cutter_next.f k s i) (fun k => lex_cutter_next.mono _ _ k); have a := m k k' _ hk; have b := m k' k _ hk'; rw [Nat.add_comm k' k] at b; rw [a] at b; obtain ⟨r1, r2, r3, r4, r5, r6⟩ := r; obtain ⟨q1, q2, q3, q4, q5, q6⟩ := r'
 simpa using b
theorem cut_fun {s : ByteArray} {n : Nat} {i : Int} {acc : List S33} {r : List S33 × Int × Int} (h : CutRun s n i acc r) : ∀ {n' : Nat} {r' : List S33 × Int × Int}, CutRun s n' i acc r' → r = r' := by
 induction h with
 | err n i j acc kd tx nm at_ er p h1 h2 h3 =>
  intro n' r' h'; cases h' with
  | err n i j' acc kd' tx' nm' at_' er' p' g1 g2 g3 =>
   have e := skip_fun h1 g1; subst e; have e := next_fun h2 g2; simp only [Prod.mk.injEq] at e; obtain ⟨_, _, _, rfl, rfl, _⟩ := e
   rfl
  | fin n i j' acc kd' tx' nm' at_' p' g1 g2 g3 g4 =>
   have e := skip_fun h1 g1; subst e; have e := next_fun h2 g2; simp only [Prod.mk.injEq] at e; exact absurd e.2.2.2.2.1 h3
  | step n i j' acc kd' tx' nm' at_' p' r g1 g2 g3 g4 g5 =>
   have e := skip_fun h1 g1; subst e; have e := next_fun h2 g2; simp only [Prod.mk.injEq] at e; exact absurd e.2.2.2.2.1 h3
 | fin n i j acc kd tx nm at_ p h1 h2 h3 h4 =>
  intro n' r' h'; cases h' with
  | err n i j' acc kd' tx' nm' at_' er' p' g1 g2 g3 =>
   have e := skip_fun h1 g1; subst e; have e := next_fun h2 g2; simp only [Prod.mk.injEq] at e; exact absurd e.2.2.2.2.1.symm g3
  | fin n i j' acc kd' tx' nm' at_' p' g1 g2 g3 g4 =>
   have e := skip_fun h1 g1; subst e; have e := next_fun h2 g2; simp only [Prod.mk.injEq] at e; obtain ⟨rfl, rfl, rfl, rfl, _, _⟩ := e
   rfl
  | step n i j' acc kd' tx' nm' at_' p' r g1 g2 g3 g4 g5 =>
   have e := skip_fun h1 g1; subst e; have e := next_fun h2 g2; simp only [Prod.mk.injEq] at e; exact absurd (e.1.symm.trans h4) g4
 | step n i j acc kd tx nm at_ p r h1 h2 h3 h4 h5 ih =>
  intro n' r' h'; cases h' with
  | err n i j' acc kd' tx' nm' at_' er' p' g1 g2 g3 =>
   have e := skip_fun h1 g1; subst e; have e := next_fun h2 g2; simp only [Prod.mk.injEq] at e; exact absurd e.2.2.2.2.1.symm g3
  | fin n i j' acc kd' tx' nm' at_' p' g1 g2 g3 g4 =>
   have e := skip_fun h1 g1; subst e; have e := next_fun h2 g2; simp only [Prod.mk.injEq] at e; exact absurd (e.1.trans g4) h4
  | step n i j' acc kd' tx' nm' at_' p' r g1 g2 g3 g4 g5 =>
   have e := skip_fun h1 g1; subst e; have e := next_fun h2 g2; simp only [Prod.mk.injEq] at e; obtain ⟨rfl, rfl, rfl, rfl, _, rfl⟩ := e; exact ih g5
theorem cut_f (s : ByteArray) : lex_Cut.f s = some (cutP s) := by
 unfold lex_Cut.f cutP; by_cases c : 8192 < s.size
 ·rw [if_pos c, if_pos c]
 ·rw [if_neg c, if_neg c]
  have hl := cut_link s (by omega) (s.size + 1) (lst s) 0 [] rfl (Nat.zero_le _) (by rw [lst_len]; omega) (by rw [lst_len]; simp; omega); have hex : ∃ r, ∃ n, CutRun s n 0 [] r := ⟨_, _, hl⟩; rw [dif_pos hex]; obtain ⟨n, hn⟩ := hex.choose_spec; rw [cut_fun hn hl]
  rfl
theorem cutL_fuel : ∀ (k k' : Nat) (l : List UInt8), l.length < k → l.length < k' → cutL k l = cutL k' l := by
 intro k
 induction k with
 | zero => intro k' l h _; omega
 | succ k ih =>
  intro k' l h h'; obtain ⟨j, rfl⟩ : ∃ j, k' = j + 1 := ⟨k' - 1, by omega⟩
  have hsl := skipL_len false l; unfold cutL; cases hc : skipL false l with
  | nil => rfl
  | cons c m =>
   rw [hc] at hsl; simp only; cases ht : tokL c m with
   | error ed => rfl
   | ok t =>
    obtain ⟨t1, t2, t3, t4⟩ := tok_ok c m t ht; have hl' : ((c :: m).drop t.tx.length).length = (c :: m).length - t.tx.length := List.length_drop; simp only; rw [ih j ((c :: m).drop t.tx.length) (by rw [hl']; omega) (by rw [hl']; omega)]
theorem cutL_succ (k : Nat) (l : List UInt8) : cutL (k + 1) l =
  match skipL false l with
  | [] => ([], none)
  | c :: m =>
   match tokL c m with
   | .error (e, d) => ([], some (e, (c :: m).length - d))
   | .ok t => ((t, (c :: m).length) :: (cutL k ((c :: m).drop t.tx.length)).1, (cutL k ((c :: m).drop t.tx.length)).2) := rfl
theorem cutP_small (s : ByteArray) (c : ¬ 8192 < s.size) : cutP s =
  match cutL (s.size + 1) (lst s) with
  | (ts, none) => (ts.map (s33 s.size) ++ [endTok s.size], 0, 0)
  | (_, some (e, p)) => ([], ((s.size - p : Nat) : Int), e) := by
 unfold cutP; rw [if_neg c]
 all_goals rfl
end Go.Proofs.Ytobkdmmnbnpemaa.Lx
namespace Go.Proofs.Ytobkdmmnbnpemaa.K
open Go.RowKit Go.Proofs.YtobkdmmnbnpemaaW.PrintWords Go.Proofs.YtobkdmmnbnpemaaW.PrintLast Go.Proofs.YtobkdmmnbnpemaaW.PrintMore
set_option linter.unusedVariables false
theorem cut_R {w w' : World} {v : Value} {T : List S58} (h : Kd.R k58 58 w' w.heap.size (fun _ => True) v T) : ∃ A c, v = .slice A T.length c ∧ Kd.F k58 w' (newO w w') A T.length T := by
 obtain ⟨h0, inner, ho, hr⟩ := h
 have hF := F_own (d := k58) (ok := newO w w') ho (fun k hk => ⟨own_base ho k hk, own_lt ho k hk⟩)
  (fun W' _ => hr.imp_ (fun x cs hx => by rw [Lx.k33_openM hx]; exact k58_mk W' x)) rfl (by decide)
 obtain ⟨A', c', h1, h2, _⟩ := hF; exact ⟨A', c', h1, h2⟩
theorem cut_nil {w w' : World} {v : Value} (h : Kd.R k58 58 w' w.heap.size (fun _ => True) v []) : ∃ A c, v = .slice A 0 c := by
 obtain ⟨A, c, h1, _⟩ := cut_R h; exact ⟨A, c, h1⟩
theorem cut_C (s : ByteArray) (T : List S58) (h : Lx.cutP s = (T, 0, 0)) : CutC s (.ok T) := fun w => by
 have hf := Lx.cut_f s; rw [h] at hf; refine (Lx.lex_Cut.calls s T 0 0 w hf).mono ?_; rintro e w' ⟨v, rfl, hR, hB⟩; obtain ⟨A, c, rfl, hF⟩ := cut_R hR; exact ⟨hB, A, c, rfl, hF⟩
set_option linter.unusedSimpArgs false
theorem mem_takeWhile_ {p : UInt8 → Bool} : ∀ {l : List UInt8} {x : UInt8}, x ∈ l.takeWhile p → p x = true
 | [], x, h => by simp at h
 | c :: l, x, h => by
  rw [List.takeWhile_cons] at h; by_cases q : p c = true
  ·rw [if_pos q] at h
   rcases List.mem_cons.1 h with e | e
   ·rw [e]; exact q
   ·exact mem_takeWhile_ e
  ·rw [if_neg q] at h; simp at h
theorem digs_take (l : List UInt8) : Lx.digs (Lx.bs (l.takeWhile Lx.digB)) := by
 intro i hi; have h' : i < (Lx.lst (Lx.bs (l.takeWhile Lx.digB))).length := by rw [Lx.lst_len]; exact hi
 rw [Lx.bt_get _ _ h']; have hm := List.getElem_mem h'; generalize (Lx.lst (Lx.bs (l.takeWhile Lx.digB)))[i] = b at hm ⊢; rw [Lx.lst_bs] at hm; exact mem_takeWhile_ (p := Lx.digB) hm
theorem parse_nonneg (t : ByteArray) (h : Lx.digs t) : 0 ≤ (Lx.parseP t).1 := by
 unfold Lx.parseP; by_cases a : bt t 0 = 48 ∧ 1 < t.size
 ·rw [if_pos a]; exact Int.le_refl _
 rw [if_neg a]; by_cases b : Lx.dv t t.size > 9223372036854775807
 ·rw [if_pos b]; exact Int.le_refl _
 rw [if_neg b]; exact Lx.dv_nonneg h _ (xlr _)
theorem tok_num (c : UInt8) (l : List UInt8) (t : Lx.Tok) (h : Lx.tokL c l = .ok t) : 0 ≤ t.nm ∧ (t.kd = 2 → nameB t.tx = true) := by
 unfold Lx.tokL at h; by_cases hd : Lx.digB c = true
 ·rw [if_pos hd] at h
  have hn := parse_nonneg _ (digs_take (c :: l)); by_cases q : (Lx.parseP (Lx.bs ((c :: l).takeWhile Lx.digB))).2 ≠ 0
  ·rw [if_pos q] at h; simp at h
  ·rw [if_neg q] at h
   cases hr : (c :: l).dropWhile Lx.digB with
   | nil =>
    rw [hr] at h; simp only at h; injection h with h; subst h; exact ⟨hn, fun e => by simp at e⟩
   | cons d ds =>
    rw [hr] at h; simp only at h; by_cases ql : Lx.letB d = true
    ·rw [if_pos ql] at h; simp at h
    ·rw [if_neg ql] at h
     injection h with h; subst h; exact ⟨hn, fun e => by simp at e⟩
 ·rw [if_neg hd] at h
  by_cases hl : Lx.letB c = true
  ·rw [if_pos hl] at h
   have ha : Lx.anB c = true := by unfold Lx.anB Lx.isAn; have : Lx.isLet (Lx.c8 c) = true := hl; rw [this]; rfl
   have htw : (c :: l).takeWhile Lx.anB = c :: l.takeWhile Lx.anB := by rw [List.takeWhile_cons, if_pos ha]
   by_cases q : Lx.wordsB ((c :: l).takeWhile Lx.anB) = true
   ·rw [if_pos q] at h
    injection h with h; subst h; exact ⟨Int.le_refl _, fun e => by simp at e⟩
   ·rw [if_neg q] at h
    by_cases q2 : 12 < ((c :: l).takeWhile Lx.anB).length
    ·rw [if_pos q2] at h; simp at h
    ·rw [if_neg q2] at h
     injection h with h; subst h; refine ⟨Int.le_refl _, fun _ => ?_⟩; rw [htw] at q q2 ⊢; show nameB (c :: l.takeWhile Lx.anB) = true; unfold nameB; dsimp only; rw [xdt (by omega), show letB c = true from hl, show wordsB (c :: l.takeWhile Lx.anB) = false from Bool.eq_false_iff.2 q]; simp only [Bool.true_and, Bool.not_false, List.all_eq_true]; exact fun x hx => mem_takeWhile_ (p := Lx.anB) hx
  ·rw [if_neg hl] at h
   cases hf : Lx.findSign Lx.signsL (c :: l) with
   | none => rw [hf] at h; simp at h
   | some w =>
    rw [hf] at h; simp only at h; injection h with h; subst h; exact ⟨Int.le_refl _, fun e => by simp at e⟩
theorem cut_toks : ∀ (k : Nat) (l : List UInt8), (∀ x ∈ (Lx.cutL k l).1, 0 ≤ x.1.nm ∧ (x.1.kd = 2 → nameB x.1.tx = true) ∧ x.1.kd ≠ 0) ∧ (∀ e p, (Lx.cutL k l).2 = some (e, p) → e ≠ 0 ∧ p ≤ l.length)
 | 0, l => ⟨fun x hx => absurd hx (by simp [Lx.cutL]), fun e p h => absurd h (by simp [Lx.cutL])⟩
 | k + 1, l => by
  have hsl := Lx.skipL_len false l; unfold Lx.cutL; rcases hs : Lx.skipL false l with _ | ⟨c, m⟩
  ·exact ⟨fun x hx => absurd hx (by simp [Lx.cutL]), fun e p h => absurd h (by simp [Lx.cutL])⟩
  rw [hs] at hsl; dsimp only; rcases ht : Lx.tokL c m with ⟨e, d⟩ | t
  ·refine ⟨fun x hx => by simp at hx, fun e' p h => ?_⟩
   dsimp only at h; injection h with h; injection h with h1 h2; subst h1 h2; exact ⟨(Lx.tok_err _ _ _ _ ht).1, by omega⟩
  ·dsimp only
   obtain ⟨ih1, ih2⟩ := cut_toks k ((c :: m).drop t.tx.length); obtain ⟨a1, a2⟩ := tok_num _ _ _ ht; obtain ⟨b1, b2, b3, b4⟩ := Lx.tok_ok _ _ _ ht; refine ⟨fun x hx => ?_, fun e' p h => ?_⟩
   ·rcases List.mem_cons.1 hx with q | q
    ·rw [q]; exact ⟨a1, a2, b4⟩
    ·exact ih1 x q
   ·obtain ⟨c1, c2⟩ := ih2 e' p h
    refine ⟨c1, ?_⟩
    rw [List.length_drop] at c2
    omega
theorem cut_cases (s : ByteArray) : (∃ T, Lx.cutP s = (T, 0, 0) ∧ TokT T s.size) ∨ (∃ a e, Lx.cutP s = ([], a, e) ∧ e ≠ 0 ∧ 0 ≤ a ∧ a ≤ s.size) := by
 unfold Lx.cutP; by_cases hb : 8192 < s.size
 ·rw [if_pos hb]
  exact .inr ⟨0, 30, rfl, by decide, Int.le_refl _, by omega⟩
 rw [if_neg hb]; obtain ⟨h1, h2⟩ := cut_toks (s.size + 1) (Lx.lst s); generalize Lx.cutL (s.size + 1) (Lx.lst s) = r at h1 h2; rcases r with ⟨ts, _ | ⟨e, p⟩⟩
 ·refine .inl ⟨_, rfl, ?_⟩
  dsimp only at h1
  have hrd : ∀ i : Nat, i < ts.length → ∃ x ∈ ts, rd_T58 (ts.map (Lx.s33 s.size) ++ [Lx.endTok s.size]) (i : Int) = Lx.s33 s.size x := by
   intro i hi; refine ⟨ts[i], List.getElem_mem hi, ?_⟩; unfold rd_T58; rw [Int.toNat_natCast, List.getD_eq_getElem?_getD, List.getElem?_append_left (by simpa using hi), List.getElem?_map, List.getElem?_eq_getElem hi]
   rfl
  have hend : rd_T58 (ts.map (Lx.s33 s.size) ++ [Lx.endTok s.size]) (ts.length : Int) = Lx.endTok s.size := by
   unfold rd_T58; rw [Int.toNat_natCast, List.getD_eq_getElem?_getD, List.getElem?_append_right (by simp)]; simp
  have hlen : (ts.map (Lx.s33 s.size) ++ [Lx.endTok s.size]).length = ts.length + 1 := by simp
  have hcase : ∀ i : Int, 0 ≤ i → i < ((ts.map (Lx.s33 s.size) ++ [Lx.endTok s.size]).length : Nat) → (∃ x ∈ ts, rd_T58 (ts.map (Lx.s33 s.size) ++ [Lx.endTok s.size]) i = Lx.s33 s.size x) ∨ rd_T58 (ts.map (Lx.s33 s.size) ++ [Lx.endTok s.size]) i = Lx.endTok s.size := by
   intro i h0 hi; rw [hlen] at hi; by_cases q : i.toNat < ts.length
   ·have := hrd i.toNat q
    rw [Int.toNat_of_nonneg h0] at this; exact .inl this
   ·have e : i = (ts.length : Int) := by omega
    rw [e]; exact .inr hend
  refine ⟨by rw [hlen]; omega, ?_, ?_, ?_, ?_⟩
  ·rw [hlen, show ((ts.length + 1 : Nat) : Int) - 1 = (ts.length : Int) by omega, hend]; rfl
  ·intro i h0 hi
   rcases hcase i h0 hi with ⟨x, hx, e⟩ | e
   ·rw [e]
    show 0 ≤ ((s.size - x.2 : Nat) : Int) ∧ ((s.size - x.2 : Nat) : Int) ≤ s.size
    omega
   ·rw [e]
    show 0 ≤ (s.size : Int) ∧ (s.size : Int) ≤ s.size
    omega
  ·intro i h0 hi hk
   rcases hcase i h0 hi with ⟨x, hx, e⟩ | e
   ·rw [e]; exact (h1 x hx).1
   ·rw [e]; exact Int.le_refl _
  ·intro i h0 hi hk
   rcases hcase i h0 hi with ⟨x, hx, e⟩ | e
   ·rw [e] at hk ⊢
    have := (h1 x hx).2.1 hk; show nameB (lst (Lx.bs x.1.tx)) = true; rw [show lst (Lx.bs x.1.tx) = x.1.tx from Lx.lst_bs _]; exact this
   ·rw [e] at hk; exact absurd (show (0 : Int) = 2 from hk) (by decide)
 ·dsimp only at h1 h2
  have := h2 e p rfl; exact .inr ⟨_, e, rfl, this.1, by omega, by omega⟩
def CutE (s : ByteArray) (er at_ : Int) : Prop := ∀ w : World, Calls Try.prog 36 #[.string s] w fun e w' => ∃ A c, e = .returned (.tuple #[.slice A 0 c, .int .i64 at_, .int .i64 er]) ∧ Below w.heap.size w w'
theorem CutE.use {s : ByteArray} {er at_ : Int} (h : CutE s er at_) (w : World) : Calls Try.prog 36 #[.string s] w fun e w' => ∃ A c, e = .returned (.tuple #[.slice A 0 c, .int .i64 at_, .int .i64 er]) ∧ Below w.heap.size w w' := h w
theorem cut_E (s : ByteArray) (er at_ : Int) (h : Lx.cutP s = ([], at_, er)) : CutE s er at_ := fun w => by
 have hf := Lx.cut_f s; rw [h] at hf; refine (Lx.lex_Cut.calls s [] at_ er w hf).mono ?_; rintro e w' ⟨v, rfl, hR, hB⟩; obtain ⟨A, c, rfl⟩ := cut_nil hR; exact ⟨A, c, rfl, hB⟩
structure EE (w W : World) (er at_ : Int) : Prop where
 b : Below w.heap.size w W
 l : W.heap[w.heap.size]? = some (.cells #[.slice none 0 0] 22 (0, 0))
 a : W.heap[w.heap.size + 1]? = some (.cells #[.int .i64 at_] 3 (0, 0))
 e : W.heap[w.heap.size + 2]? = some (.cells #[.int .i64 er] 24 (0, 0))
theorem EE.drewN {w W : World} {er at_ : Int} (h : EE w W er at_) (m : Nat) : EE w (W.drewN m) er at_ := by
 have hb := pw_below_drewN (xbr W.heap.size W) m; exact ⟨pw_below_drewN h.b m, blk_below h.l hb, blk_below h.a hb, blk_below h.e hb⟩
theorem EE.drew {w W : World} {er at_ : Int} (h : EE w W er at_) : EE w W.drew er at_ := by
 have hb := below_drew (xbr W.heap.size W); exact ⟨below_drew h.b, blk_below h.l hb, blk_below h.a hb, blk_below h.e hb⟩
theorem EE.s0 {w W : World} {er at_ : Int} (h : EE w W er at_) : EE w (W.setCell ⟨w.heap.size, 0, none⟩ (.slice none 0 0)) er at_ :=
 ⟨Below.setCell h.b (xlr _) _, blk_put (cs := #[.slice none 0 0]) h.l 0 _ rfl, blk_far h.a (by show w.heap.size + 1 ≠ w.heap.size; omega) _, blk_far h.e (by show w.heap.size + 2 ≠ w.heap.size; omega) _⟩
theorem EE.s1 {w W : World} {er at_ : Int} (h : EE w W er at_) : EE w (W.setCell ⟨w.heap.size + 1, 0, none⟩ (.int .i64 at_)) er at_ :=
 ⟨Below.setCell h.b (Nat.le_add_right _ _) _, blk_far h.l (by show w.heap.size ≠ w.heap.size + 1; omega) _, blk_put (cs := #[.int .i64 at_]) h.a 0 _ rfl, blk_far h.e (z_150) _⟩
theorem EE.s2 {w W : World} {er at_ : Int} (h : EE w W er at_) : EE w (W.setCell ⟨w.heap.size + 2, 0, none⟩ (.int .i64 er)) er at_ :=
 ⟨Below.setCell h.b (Nat.le_add_right _ _) _, blk_far h.l (by show w.heap.size ≠ w.heap.size + 2; omega) _, blk_far h.a (by show w.heap.size + 1 ≠ w.heap.size + 2; omega) _, blk_put (cs := #[.int .i64 er]) h.e 0 _ rfl⟩
theorem ee_end {w W : World} {er at_ : Int} {tm : Array Value} (h : EE w W er at_)
  (hr : W.cell? ⟨w.heap.size, 0, none⟩ = some (.slice none 0 0) → W.cell? ⟨w.heap.size + 1, 0, none⟩ = some (.int .i64 at_) → W.cell? ⟨w.heap.size + 2, 0, none⟩ = some (.int .i64 er) → (results Try.f25 tm).run Try.prog W = .ok (.tuple #[.slice none 0 0, .int .i64 at_, .int .i64 er]) W) :
  bodyPostD Try.prog Try.f25 (PPar w (.error (er, at_))) Exit.ret ⟨tm, []⟩ W :=
 ⟨_, hr (one_ h.l).1 (one_ h.a).1 (one_ h.e).1, h.b, rfl⟩
theorem parse_E (s : ByteArray) (er at_ : Int) (hne : er ≠ 0) (HC0 : CutE s er at_) (w : World) : Calls Try.prog 25 #[.string s] w (PPar w (.error (er, at_))) := by
 have HC := A_0 HC0; have hmf : ∀ (fn : Fn) (first cap : Array Value) (w : World), (Instr.makeFunc fn first cap).run Try.prog w = .ok (.func fn first cap) w := fun _ _ _ _ => rfl
 clear HC0; have dn := bne_iff_ne.2 hne
 go_enter_defers Try.func25, Try.ntmps25
 go_upto_region 1 with fail
 generalize hw3 : World.alloc _ (.cells #[.int .i64 0] 24) = w3; have hB3 : Below w.heap.size w w3 := by rw [← hw3]; exact below_alloc (below_alloc (below_alloc (xbr _ _) _) _) _
 have hs3 : w3.heap.size = w.heap.size + 3 := by rw [← hw3]; simp
 have hl3 : w3.heap[w.heap.size]? = some (.cells #[.slice none 0 0] 22 (0, 0)) := by rw [← hw3]; exact blk_alloc (blk_alloc (blk_new _ _) _) _
 have ha3 : w3.heap[w.heap.size + 1]? = some (.cells #[.int .i64 0] 3 (0, 0)) := by rw [← hw3]; exact blk_alloc (blk_new' (by simp)) _
 have he3 : w3.heap[w.heap.size + 2]? = some (.cells #[.int .i64 0] 24 (0, 0)) := by rw [← hw3]; exact blk_new' (by simp)
 clear hw3; rw [show w.heap.size + 1 + 1 = w.heap.size + 2 from rfl]; obtain ⟨zl, fl⟩ := one_ hl3; obtain ⟨za, fa⟩ := one_ ha3; obtain ⟨ze, fe⟩ := one_ he3; have n10 : w.heap.size + 1 ≠ w.heap.size := by omega
 have HB := A_0 hB3; have HL := A_0 hl3; have HA := A_0 ha3; have HE := A_0 he3; have HS := A_0 hs3; clear hB3 hl3 ha3 he3 hs3
 go_wp2_with fail
 (with_reducible refine (CutE.use HC.out w3).mono ?_)
 rintro e w4 ⟨A, c, rfl, hb4⟩; have n0_ := A_0 (xbs HB.out hb4); have n1_ := A_0 (blk_below HL.out hb4); have n2_ := A_0 (blk_below HA.out hb4); have n3_ := A_0 (blk_below HE.out hb4); have n4_ := A_0 (show w.heap.size + 3 ≤ w4.heap.size from by have := hb4.size; have := HS.out; omega)
 clear zl fl za fa ze fe HB HL HA HE HS hb4 HC; have HB := n0_; have HL := n1_; have HA := n2_; have HE := n3_; have HS := n4_; clear n0_ n1_ n2_ n3_ n4_; obtain ⟨zl, fl⟩ := one_ HL.out; obtain ⟨za, fa⟩ := one_ HA.out; obtain ⟨ze, fe⟩ := one_ HE.out; go_upto_region 3 with fail; generalize hw5 : World.setCell _ ⟨w.heap.size + 2, 0, none⟩ _ = w5; replace HB : Aside0 (Below w.heap.size w w5) := ⟨z_151⟩; replace HL : Aside0 (w5.heap[w.heap.size]? = some (.cells #[.slice none 0 0] 22 (0, 0))) := ⟨z_152⟩; replace HA : Aside0 (w5.heap[w.heap.size + 1]? = some (.cells #[.int .i64 at_] 3 (0, 0))) := ⟨z_153⟩; replace HE : Aside0 (w5.heap[w.heap.size + 2]? = some (.cells #[.int .i64 er] 24 (0, 0))) := ⟨z_154⟩; clear zl fl za fa ze fe HS hw5; obtain ⟨zl, fl⟩ := one_ HL.out; obtain ⟨za, fa⟩ := one_ HA.out; obtain ⟨ze, fe⟩ := one_ HE.out; refine wp_region_noPanic ?_
 go_region_law fail
 all_goals (refine NoPanic.normal ?_)
 all_goals (go_wp2_with fail)
 all_goals (refine ee_end (w := w) (er := er) (at_ := at_) (W := _) (by repeat (first | exact ⟨HB.out, HL.out, HA.out, HE.out⟩ | apply EE.drew | apply EE.drewN | apply EE.s0 | apply EE.s1 | apply EE.s2)) ?_)
 all_goals (intro q0 q1 q2; simp [results, Try.results25, go_sem, q0, q1, q2])
def parV (s : ByteArray) : Except (Int × Int) (List S41) :=
 if (Lx.cutP s).2.2 ≠ 0 then .error ((Lx.cutP s).2.2, (Lx.cutP s).2.1) else (parT (Lx.cutP s).1).getD (.ok [])
theorem parV_cases (s : ByteArray) : (∃ a e, Lx.cutP s = ([], a, e) ∧ e ≠ 0 ∧ 0 ≤ a ∧ a ≤ s.size ∧ parV s = .error (e, a)) ∨ (∃ T r, Lx.cutP s = (T, 0, 0) ∧ TokT T s.size ∧ parT T = some r ∧ parV s = r ∧ match r with
 | .ok l => l.all (fitSt (fitB 12)) = true ∧ cntB l ≤ 600
 | .error e => (0 ≤ e.2 ∧ e.2 ≤ s.size) ∧ (e.1 = 40 ∨ e.1 = 41 ∨ e.1 = 42)) := by
 rcases cut_cases s with ⟨T, h, H⟩ | ⟨a, e, h, h1, h2, h3⟩
 ·obtain ⟨r, e1, e2⟩ := parT_tot H
  refine .inr ⟨T, r, h, H, e1, ?_, by cases r <;> exact e2⟩
  unfold parV; rw [h, if_neg (by simp), e1]; rfl
 ·refine .inl ⟨a, e, h, h1, h2, h3, ?_⟩
  unfold parV; rw [h, if_pos h1]
theorem parse_V (s : ByteArray) (w : World) : Calls Try.prog 25 #[.string s] w (PPar w (parV s)) := by
 rcases parV_cases s with ⟨a, e, h, h1, h2, h3, h4⟩ | ⟨T, r, h, H, h1, h2, h3⟩
 ·rw [h4]; exact parse_E s e a h1 (cut_E s e a h) w
 ·rw [h2]; exact parse_L s T (cut_C s T h) (st0 T) (st0_ok T) _ r h1 w
theorem cut_form {s : ByteArray} {T : List S58} (h : Lx.cutP s = (T, 0, 0)) : s.size ≤ 8192 ∧ ∃ ts, Lx.cutL (s.size + 1) (Lx.lst s) = (ts, none) ∧ T = ts.map (Lx.s33 s.size) ++ [Lx.endTok s.size] ∧ ∀ x ∈ ts, x.1.kd ≠ 0 := by
 unfold Lx.cutP at h; by_cases hb : 8192 < s.size
 ·rw [if_pos hb] at h
  simp at h
 rw [if_neg hb] at h; refine ⟨by omega, ?_⟩; obtain ⟨h1, h2⟩ := cut_toks (s.size + 1) (Lx.lst s); generalize Lx.cutL (s.size + 1) (Lx.lst s) = r at h h1 h2; rcases r with ⟨ts, _ | ⟨e, p⟩⟩
 ·refine ⟨ts, rfl, ?_, fun x hx => (h1 x hx).2.2⟩
  injection h with h _; exact h.symm
 ·injection h with _ h
  injection h with _ h; exact absurd h (h2 e p rfl).1
open Go.RowKit Go.Proofs.YtobkdmmnbnpemaaW.PrintWords
def valL (ds : List UInt8) (u : Int) : Int := ds.foldl (fun a d => a * 10 + (Lx.c8 d - 48)) u
theorem c8_dg (u : Nat) : Lx.c8 (dgB u) = 48 + ((u % 10 : Nat) : Int) := by
 have h := c8_dig (u : Int) (by omega); rw [Int.toNat_natCast] at h; show c8 (dgB u) = _; rw [h]
 omega
theorem dec_val : ∀ (k u : Nat) (ds : List UInt8), u < 10 ^ k → valL (decR k u ds) 0 = valL ds (u : Int)
 | 0, u, ds, h => by
  have : u = 0 := by simpa using h
  subst this
  rfl
 | k + 1, u, ds, h => by
  unfold decR; by_cases c : u / 10 = 0
  ·rw [if_pos c]
   show valL ds (0 * 10 + (Lx.c8 (dgB u) - 48)) = _; rw [c8_dg]
   congr 1
   omega
  ·rw [if_neg c, dec_val k (u / 10) _ (by rw [Nat.pow_succ] at h; omega)]
   show valL ds (((u / 10 : Nat) : Int) * 10 + (Lx.c8 (dgB u) - 48)) = _; rw [c8_dg]
   congr 1
   omega
theorem dec_dig : ∀ (k u : Nat) (ds : List UInt8), (∀ x ∈ ds, Lx.digB x = true) → ∀ x ∈ decR k u ds, Lx.digB x = true
 | 0, u, ds, h, x, hx => h x hx
 | k + 1, u, ds, h, x, hx => by
  have hd : Lx.digB (dgB u) = true := by
   unfold Lx.digB Lx.isDig; rw [c8_dg, Bool.and_eq_true, decide_eq_true_eq, decide_eq_true_eq]
   omega
  have h' : ∀ x ∈ dgB u :: ds, Lx.digB x = true := by
   intro y hy; rcases List.mem_cons.1 hy with e | e
   ·rw [e]; exact hd
   ·exact h y e
  unfold decR at hx; by_cases c : u / 10 = 0
  ·rw [if_pos c] at hx; exact h' x hx
  ·rw [if_neg c] at hx; exact dec_dig k (u / 10) _ h' x hx
theorem dec_head : ∀ (k u : Nat) (ds : List UInt8), 0 < u → u < 10 ^ k → ∃ d m, decR k u ds = d :: m ∧ 49 ≤ Lx.c8 d
  | 0, u, ds, h0, h => by have : u = 0 := by simpa using h
                          omega
  | k + 1, u, ds, h0, h => by
    unfold decR; by_cases c : u / 10 = 0
    · rw [if_pos c]
      refine ⟨_, _, rfl, ?_⟩
      rw [c8_dg]
      omega
    · rw [if_neg c]
      exact dec_head k (u / 10) _ (by omega) (by rw [Nat.pow_succ] at h; omega)
theorem dv_list (l : List UInt8) : ∀ n, n ≤ l.length → Lx.dv (Lx.bs l) n = valL (l.take n) 0
 | 0, _ => rfl
 | n + 1, h => by
  have hl : n < (Lx.lst (Lx.bs l)).length := by rw [Lx.lst_bs]; omega
  have e : Lx.dv (Lx.bs l) (n + 1) = Lx.dv (Lx.bs l) n * 10 + (bt (Lx.bs l) (n : Int) - 48) := rfl; rw [e, dv_list l n (by omega), Lx.bt_get _ _ hl, List.take_succ_eq_append_getElem (by omega : n < l.length)]; unfold valL; rw [List.foldl_append]; simp only [Lx.lst_bs, List.foldl_cons, List.foldl_nil]
def bigI : Int := 9223372036854775807
theorem text_parse (b : Int) (h0 : 0 ≤ b) (h1 : b ≤ bigI) : Lx.parseP (Lx.bs (textB b)) = (b, 0) ∧ (∀ x ∈ textB b, Lx.digB x = true) ∧ ∃ d m, textB b = d :: m := by
 have hs : sizeB b = b.toNat := by
  unfold sizeB; rw [if_neg (by omega)]
  congr 1
  unfold bigI at h1
  omega
 have ht : textB b = decR 20 b.toNat [] := by
  unfold textB; rw [if_neg (by omega), hs]
 have hb : b.toNat < 10 ^ 20 := by unfold bigI at h1; omega
 have hv := dec_val 20 b.toNat [] hb
 have hv' : valL (textB b) 0 = b := by
  rw [ht, hv]; show ((b.toNat : Nat) : Int) = b
  omega
 have hd := dec_dig 20 b.toNat [] (fun x hx => by simp at hx)
 rw [← ht] at hd
 have hne : ∃ d m, textB b = d :: m ∧ (49 ≤ Lx.c8 d ∨ m = []) := by
  rcases Nat.eq_zero_or_pos b.toNat with z | z
  ·refine ⟨48, [], ?_, .inr rfl⟩
   rw [ht, z]
   rfl
  ·obtain ⟨d, m, e, h⟩ := dec_head 20 b.toNat [] z hb
   exact ⟨d, m, by rw [ht, e], .inl h⟩
 obtain ⟨d, m, e, hdm⟩ := hne; refine ⟨?_, hd, d, m, e⟩; have hsz : (Lx.bs (textB b)).size = (textB b).length := Lx.bs_size _
 have hdv : Lx.dv (Lx.bs (textB b)) (Lx.bs (textB b)).size = b := by
  rw [hsz, dv_list _ _ (xlr _), List.take_length, hv']
 have hbt : bt (Lx.bs (textB b)) 0 = Lx.c8 d := by
  have := Lx.bt_get (Lx.bs (textB b)) 0 (by rw [Lx.lst_bs, e]; simp); rw [show ((0 : Nat) : Int) = 0 from rfl] at this; rw [this]; simp only [Lx.lst_bs, e]
  rfl
 unfold Lx.parseP; rw [hdv, hbt, hsz]; rw [if_neg, if_neg (by unfold bigI at h1; omega)]; rintro ⟨c1, c2⟩; rcases hdm with h | h
 ·omega
 ·rw [e, h] at c2; simp at c2
def toks (l : List UInt8) : Option (List Lx.Tok) := match Lx.cutL (l.length + 1) l with
 | (ts, none) => some (ts.map (·.1))
 | _ => none
theorem toks_nil : toks [] = some [] := rfl
theorem toks_skip {l m : List UInt8} (h : Lx.skipL false l = Lx.skipL false m) : toks l = toks m := by
 unfold toks
 have e1 : Lx.cutL (l.length + 1) l = Lx.cutL (m.length + 1 + l.length) m := by
  have : Lx.cutL (l.length + 1) l = Lx.cutL (l.length + m.length + 1) l := Lx.cutL_fuel _ _ _ (by omega) (by omega); rw [this, show m.length + 1 + l.length = l.length + m.length + 1 by omega, Lx.cutL_succ, Lx.cutL_succ, h]
 rw [e1, Lx.cutL_fuel (m.length + 1 + l.length) (m.length + 1) m (by omega) (by omega)]
theorem toks_tok {c : UInt8} {l : List UInt8} {t : Lx.Tok} {r : List UInt8} (hb : Lx.skipL false (c :: l) = c :: l) (ht : Lx.tokL c l = .ok t) (hr : (c :: l).drop t.tx.length = r) : toks (c :: l) = (toks r).map (t :: ·) := by
 have hp := (Lx.tok_ok c l t ht).1
 have hlen : r.length < (c :: l).length := by
  rw [← hr, List.length_drop]; simp only [List.length_cons] at *
  omega
 unfold toks; rw [Lx.cutL_succ, hb]; dsimp only; rw [ht]; dsimp only; rw [hr, Lx.cutL_fuel (c :: l).length (r.length + 1) r hlen (by omega)]; rcases Lx.cutL (r.length + 1) r with ⟨ts, _ | ep⟩
 ·rfl
 ·rfl
def LX (x : List UInt8) (ts : List Lx.Tok) (P : List UInt8 → Prop) : Prop := ∀ r, P r → toks (x ++ r) = (toks r).map (ts ++ ·)
theorem map_map_ {x y : List Lx.Tok} (o : Option (List Lx.Tok)) : (o.map (y ++ ·)).map (x ++ ·) = o.map ((x ++ y) ++ ·) := by
 cases o with
 | none => rfl
 | some a => simp
theorem LX.app {x y : List UInt8} {ts us : List Lx.Tok} {P Q : List UInt8 → Prop} (h : LX x ts P) (h' : LX y us Q) (hp : ∀ r, Q r → P (y ++ r)) : LX (x ++ y) (ts ++ us) Q := by
 intro r hr; rw [List.append_assoc, h _ (hp r hr), h' r hr, map_map_]
theorem LX.imp {x : List UInt8} {ts : List Lx.Tok} {P Q : List UInt8 → Prop} (h : LX x ts P) (hp : ∀ r, Q r → P r) : LX x ts Q := fun r hr => h r (hp r hr)
def AnyR (_ : List UInt8) : Prop := True
def sepC (c : UInt8) : Bool := c == 32 || (c == 10 || (c == 41 || (c == 93 || (c == 44 || (c == 59 || (c == 91 || c == 40))))))
def SepR (r : List UInt8) : Prop := r = [] ∨ ∃ c m, r = c :: m ∧ sepC c = true
theorem sep_an : ∀ c : UInt8, sepC c = true → Lx.anB c = false ∧ Lx.digB c = false ∧ Lx.letB c = false := by
 intro c h; unfold sepC at h; simp only [Bool.or_eq_true, beq_iff_eq] at h; rcases h with e | e | e | e | e | e | e | e <;> (subst e; decide)
theorem SepR.mk (c : UInt8) (m : List UInt8) (h : sepC c = true) : SepR (c :: m) := .inr ⟨c, m, rfl, h⟩
theorem take_sep {p : UInt8 → Bool} (hp : ∀ c, sepC c = true → p c = false) {x r : List UInt8} (hx : ∀ c ∈ x, p c = true) (hr : SepR r) : (x ++ r).takeWhile p = x ∧ (x ++ r).dropWhile p = r := by
 have h0 : r.takeWhile p = [] ∧ r.dropWhile p = r := by
  rcases hr with e | ⟨c, m, e, h⟩
  ·subst e; exact ⟨rfl, rfl⟩
  ·subst e
   rw [List.takeWhile_cons, List.dropWhile_cons, hp c h]; exact ⟨rfl, rfl⟩
 induction x with
 | nil => exact h0
 | cons a x ih =>
  obtain ⟨i1, i2⟩ := ih (fun c hc => hx c (List.mem_cons_of_mem _ hc)); rw [List.cons_append, List.takeWhile_cons, List.dropWhile_cons, hx a (List.mem_cons_self ..), i1, i2]; exact ⟨rfl, rfl⟩
theorem nb_skip {c : UInt8} {l : List UInt8} (h : Lx.blankB c = false) (h2 : Lx.c8 c ≠ 35) : Lx.skipL false (c :: l) = c :: l := by
 unfold Lx.skipL; rw [if_neg (by rw [h]; decide), if_neg h2]
theorem lx_num (b : Int) (h0 : 0 ≤ b) (h1 : b ≤ bigI) : LX (textB b) [⟨1, textB b, b⟩] SepR := by
 intro r hr; obtain ⟨hp, hd, d, m, e⟩ := text_parse b h0 h1; obtain ⟨t1, t2⟩ := take_sep (p := Lx.digB) (fun c hc => (sep_an c hc).2.1) hd hr; have hd0 : Lx.digB d = true := hd d (by rw [e]; exact List.mem_cons_self ..)
 have hr0 : 48 ≤ Lx.c8 d ∧ Lx.c8 d ≤ 57 := by
  unfold Lx.digB Lx.isDig at hd0
  simpa using hd0
 rw [e] at t1 t2 hp ⊢; rw [List.cons_append] at t1 t2 ⊢; refine toks_tok (t := ⟨1, d :: m, b⟩) (nb_skip ?_ (by omega)) ?_ (by rw [← List.cons_append, List.drop_left])
 ·unfold Lx.blankB
  simp only [Bool.or_eq_false_iff, beq_eq_false_iff_ne]
  omega
 ·unfold Lx.tokL
  rw [if_pos hd0, t1, t2, hp]; rw [if_neg (by simp)]; rcases hr with e | ⟨c, m', e, h⟩
  ·subst e; rfl
  ·subst e
   dsimp only; rw [if_neg (by rw [(sep_an c h).2.2]; decide)]
theorem lx_word_ {c : UInt8} {l : List UInt8} (hc : Lx.letB c = true) (hl : ∀ x ∈ l, Lx.anB x = true) {t : Lx.Tok} (ht : t.tx = c :: l) (h : (if Lx.wordsB (c :: l) = true then (Except.ok ⟨3, c :: l, 0⟩ : Except (Int × Nat) Lx.Tok) else if 12 < (c :: l).length then .error (32, 0) else .ok ⟨2, c :: l, 0⟩) = .ok t) : LX (c :: l) [t] SepR := by
 intro r hr
 have hr0 : (97 ≤ Lx.c8 c ∧ Lx.c8 c ≤ 122) ∨ (65 ≤ Lx.c8 c ∧ Lx.c8 c ≤ 90) ∨ Lx.c8 c = 95 := by
  unfold Lx.letB Lx.isLet at hc; simp only [Bool.or_eq_true, Bool.and_eq_true, decide_eq_true_eq, beq_iff_eq] at hc
  omega
 have hnd : Lx.digB c = false := by
  unfold Lx.digB Lx.isDig; simp only [Bool.and_eq_false_iff, decide_eq_false_iff_not]
  omega
 have hx : ∀ x ∈ c :: l, Lx.anB x = true := by
  intro x hx; rcases List.mem_cons.1 hx with e | e
  ·subst e; unfold Lx.anB Lx.isAn; unfold Lx.letB at hc; rw [hc]; rfl
  ·exact hl x e
 obtain ⟨t1, t2⟩ := take_sep (p := Lx.anB) (fun c hc => (sep_an c hc).1) hx hr; rw [List.cons_append] at t1 ⊢; refine toks_tok (t := t) (nb_skip ?_ (by omega)) ?_ (by rw [ht, ← List.cons_append, List.drop_left])
 ·unfold Lx.blankB
  simp only [Bool.or_eq_false_iff, beq_eq_false_iff_ne]
  omega
 ·unfold Lx.tokL
  rw [if_neg (by rw [hnd]; decide), if_pos hc, t1]; exact h
theorem lx_name {x : List UInt8} (h : nameB x = true) : LX x [⟨2, x, 0⟩] SepR ∧ ∃ c l, x = c :: l ∧ Lx.letB c = true := by
 unfold nameB at h; cases x with
 | nil => cases h
 | cons c l =>
  simp only [Bool.and_eq_true, decide_eq_true_eq, Bool.not_eq_true'] at h; obtain ⟨h1, h2, h3, h4⟩ := h; rw [List.all_eq_true] at h4; refine ⟨lx_word_ (t := ⟨2, c :: l, 0⟩) h2 h4 rfl ?_, c, l, rfl, h2⟩; have h3' : Lx.wordsB (c :: l) = false := h3; rw [if_neg (by rw [h3']; decide), if_neg (by omega)]
def wdT (x : List UInt8) : Lx.Tok := ⟨3, x, 0⟩
def sgT (x : List UInt8) : Lx.Tok := ⟨4, x, 0⟩
theorem lx_word (c : UInt8) (l : List UInt8) (h : (Lx.letB c && (l.all Lx.anB && Lx.wordsB (c :: l))) = true) : LX (c :: l) [wdT (c :: l)] SepR := by
 simp only [Bool.and_eq_true] at h; obtain ⟨h1, h2, h3⟩ := h; rw [List.all_eq_true] at h2; exact lx_word_ (t := wdT (c :: l)) h1 h2 rfl (by rw [if_pos h3]; rfl)
theorem lx_sign {x : List UInt8} {P : List UInt8 → Prop} (c : UInt8) (l : List UInt8) (hx : x = c :: l) (h0 : (!Lx.blankB c && (Lx.c8 c != 35 && (!Lx.digB c && !Lx.letB c))) = true) (h : ∀ r, P r → Lx.findSign Lx.signsL (x ++ r) = some x) : LX x [sgT x] P := by
 intro r hr; have hf := h r hr; subst hx; simp only [Bool.and_eq_true, Bool.not_eq_true', bne_iff_ne] at h0; obtain ⟨a1, a2, a3, a4⟩ := h0; rw [List.cons_append] at hf ⊢; refine toks_tok (t := sgT (c :: l)) (nb_skip a1 a2) ?_ (by rw [← List.cons_append]; exact List.drop_left); unfold Lx.tokL; rw [if_neg (by rw [a3]; decide), if_neg (by rw [a4]; decide), hf]
 rfl
theorem lx_s1 (c : UInt8) (h0 : (!Lx.blankB c && (Lx.c8 c != 35 && (!Lx.digB c && !Lx.letB c))) = true) (h : ∀ r, Lx.findSign Lx.signsL (c :: r) = some [c]) : LX [c] [sgT [c]] AnyR := lx_sign c [] rfl h0 (fun r _ => h r)
theorem lx_lp : LX [40] [sgT [40]] AnyR := lx_s1 40 (by decide) (fun r => rfl)
theorem lx_rp : LX [41] [sgT [41]] AnyR := lx_s1 41 (by decide) (fun r => rfl)
theorem lx_lb : LX [91] [sgT [91]] AnyR := lx_s1 91 (by decide) (fun r => rfl)
theorem lx_rb : LX [93] [sgT [93]] AnyR := lx_s1 93 (by decide) (fun r => rfl)
theorem lx_lc : LX [123] [sgT [123]] AnyR := lx_s1 123 (by decide) (fun r => rfl)
theorem lx_rc : LX [125] [sgT [125]] AnyR := lx_s1 125 (by decide) (fun r => rfl)
theorem lx_cm : LX [44] [sgT [44]] AnyR := lx_s1 44 (by decide) (fun r => rfl)
theorem lx_sc : LX [59] [sgT [59]] AnyR := lx_s1 59 (by decide) (fun r => rfl)
theorem lx_mi : LX [45] [sgT [45]] AnyR := lx_s1 45 (by decide) (fun r => rfl)
theorem lx_ti : LX [126] [sgT [126]] AnyR := lx_s1 126 (by decide) (fun r => rfl)
def NeR (r : List UInt8) : Prop := r = [] ∨ ∃ c m, r = c :: m ∧ c ≠ 61
theorem lx_no : LX [33] [sgT [33]] NeR := lx_sign 33 [] rfl (by decide) (fun r hr => by
 rcases hr with e | ⟨c, m, e, h⟩
 ·subst e; rfl
 ·subst e
  have h1 : ((61 : UInt8) == c) = false := beq_eq_false_iff_ne.2 (fun e => h e.symm)
  have e1 : ([33, 61] : List UInt8).isPrefixOf (33 :: c :: m) = false := by
   simp [List.isPrefixOf, h1]
  have e2 : ([61, 61] : List UInt8).isPrefixOf (33 :: c :: m) = false := rfl; show Lx.findSign Lx.signsL (33 :: c :: m) = some [33]; unfold Lx.signsL; rw [Lx.findSign, if_neg (by rw [e2]; decide), Lx.findSign, if_neg (by rw [e1]; decide)]
  rfl)
theorem lx_blank (n : Nat) : LX (List.replicate n 32) [] AnyR := by
 intro r _
 induction n with
 | zero => simp
 | succ n ih =>
  rw [List.replicate_succ, List.cons_append, ← ih]; exact toks_skip rfl
theorem lx_nl : LX [10] [] AnyR := by
 intro r _; rw [show ([] : List Lx.Tok) = [] from rfl]; have : toks ([10] ++ r) = toks r := toks_skip rfl; rw [this]; simp
end Go.Proofs.Ytobkdmmnbnpemaa.K
