/- Cut, walked by hand. -/
import Derived.Test.YtobkdmmnbnpemaaXJX5
namespace Go.Proofs.Ytobkdmmnbnpemaa.Lx
open Go.RowKit Go.Proofs.YtobkdmmnbnpemaaW.PrintWords Go.Proofs.YtobkdmmnbnpemaaW.PrintLast Go.Proofs.YtobkdmmnbnpemaaW.PrintMore
attribute [local go_sem] max2_int min2_int max_two min_two max_three min_three max_four min_four
set_option linter.unusedVariables false
set_option linter.unusedSimpArgs false
def SkipR (s : ByteArray) (i j : Int) : Prop := ∃ k, lex_cutter_skip.f k s i = some (s, j)
def NextR (s : ByteArray) (i : Int) (r : Int × ByteArray × Int × Int × Int × Int) : Prop := ∃ k, lex_cutter_next.f k s i = some (r.1, r.2.1, r.2.2.1, r.2.2.2.1, r.2.2.2.2.1, s, r.2.2.2.2.2)
inductive CutRun (s : ByteArray) : Nat → Int → List S33 → (List S33 × Int × Int) → Prop
  | err (n : Nat) (i j : Int) (acc : List S33) (kd : Int) (tx : ByteArray) (nm at_ er p : Int) : SkipR s i j → NextR s j (kd, tx, nm, at_, er, p) → er ≠ 0 → CutRun s (n + 1) i acc ([], at_, er)
  | fin (n : Nat) (i j : Int) (acc : List S33) (kd : Int) (tx : ByteArray) (nm at_ p : Int) : SkipR s i j → NextR s j (kd, tx, nm, at_, 0, p) → acc.length < 100000 → kd = 0 → CutRun s (n + 1) i acc (acc ++ [⟨kd, tx, nm, at_⟩], 0, 0)
  | step (n : Nat) (i j : Int) (acc : List S33) (kd : Int) (tx : ByteArray) (nm at_ p : Int) (r : List S33 × Int × Int) : SkipR s i j → NextR s j (kd, tx, nm, at_, 0, p) → acc.length < 100000 → kd ≠ 0 → CutRun s n p (acc ++ [⟨kd, tx, nm, at_⟩]) r → CutRun s (n + 1) i acc r
open Classical in
noncomputable def lex_Cut.f (s : ByteArray) : Option (List S33 × Int × Int) :=
  if 8192 < s.size then some ([], 0, 30) else if h : ∃ r, ∃ n, CutRun s n 0 [] r then some h.choose else none
theorem cut_run {s : ByteArray} {r : List S33 × Int × Int} (h : lex_Cut.f s = some r) : (8192 < s.size ∧ r = ([], 0, 30)) ∨ (¬ 8192 < s.size ∧ ∃ n, CutRun s n 0 [] r) := by
  unfold lex_Cut.f at h; by_cases c : 8192 < s.size
  · rw [if_pos c] at h
    exact .inl ⟨c, (Option.some.inj h).symm⟩
  · rw [if_neg c] at h
    by_cases q : ∃ r, ∃ n, CutRun s n 0 [] r
    · rw [dif_pos q] at h
      have e := Option.some.inj h; have := q.choose_spec; rw [e] at this; exact .inr ⟨c, this⟩
    · rw [dif_neg q] at h
      simp at h
theorem skip_of (s : ByteArray) (i j : Int) (h : SkipR s i j) (g : Nat) (w0 w : World) (hI : IsS41 w0 w g s i) (hB : Below w0.heap.size w0 w) :
    Calls Try.prog 57 #[.pointer (some ⟨g, 0, none⟩)] w fun e w' => e = .returned (.tuple #[]) ∧ IsS41 w0 w' g s j ∧ Below w0.heap.size w0 w' ∧ KeepBut w w' g none := by
  obtain ⟨k, hk⟩ := h; exact lex_cutter_skip.calls k g s i s j w0 w hI hB hk
theorem next_of (s : ByteArray) (i kd : Int) (tx : ByteArray) (nm at_ er p : Int) (h : NextR s i (kd, tx, nm, at_, er, p)) (g : Nat) (w0 w : World) (hI : IsS41 w0 w g s i) (hB : Below w0.heap.size w0 w) :
    Calls Try.prog 58 #[.pointer (some ⟨g, 0, none⟩)] w fun e w' => e = .returned (.tuple #[.agg #[.int .i64 kd, .string tx, .int .i64 nm, .int .i64 at_], .int .i64 er]) ∧ IsS41 w0 w' g s p ∧ Below w0.heap.size w0 w' ∧ KeepBut w w' g none := by
  obtain ⟨k, hk⟩ := h; exact lex_cutter_next.calls k g s i kd tx nm at_ er s p w0 w hI hB hk
def CPost (r : List S33 × Int × Int) (w : World) (e : Ending) (w' : World) : Prop :=
  ∃ v : Value, e = .returned (.tuple #[v, .int .i64 r.2.1, .int .i64 r.2.2]) ∧ Kd.R k33 58 w' w.heap.size (fun _ => True) v r.1 ∧ Below w.heap.size w w'
def CRel (s : ByteArray) (g : Nat) (r : List S33 × Int × Int) (w : World) (kq : Nat) (v6 : Value) (w' : World) : Prop :=
  ∃ (i : Int) (acc : List S33) (n : Nat), n < kq ∧ Aside0 (CutRun s n i acc r) ∧ Aside0 (IsS41 w w' g s i) ∧ Aside0 (Kd.R k33 58 w' w.heap.size (· ≠ g) v6 acc) ∧ Aside0 (Below w.heap.size w w')
set_option maxHeartbeats 1000000 in
theorem cut_big (s : ByteArray) (w : World) (h : 8192 < s.size) : Calls Try.prog 36 #[.string s] w (CPost ([], 0, 30) w) := by
  have h' : (8192 : Int) < (s.size : Int) := by omega
  go_enter Try.func36, Try.ntmps36
  go_wp2
  refine bodyPost_ret (v := .tuple #[.slice none 0 0, .int .i64 0, .int .i64 30]) (by simp [results, Try.results36, go_sem]) rfl ?_
  exact ⟨_, rfl, Kd.R_nil _ _ _ _ _, Below.refl _ _⟩
set_option maxHeartbeats 4000000 in
set_option maxRecDepth 100000 in
theorem cut_walk (s : ByteArray) (r : List S33 × Int × Int) (w : World) (h : ¬ 8192 < s.size) (n0 : Nat) (hr : CutRun s n0 0 [] r) : Calls Try.prog 36 #[.string s] w (CPost r w) := by
  have h' : ¬ (8192 : Int) < (s.size : Int) := by omega
  have HR := A_0 hr; have HB := A_0 (Below.refl w.heap.size w); clear hr
  go_enter Try.func36, Try.ntmps36
  go_wp2_with (first | ((with_reducible refine gate_dst (N := 14) rfl ?_); refine box_event ?hg (N := 14) ?hd (cs := #[.string s, .int .i64 0]) (t := 99) ?hr ?_; (case hd => rfl); (case hg => rfl); (case hr => first | (go_simp; done) | (go_simp; rfl)); intro g hg w3 hbox hb; have m1_ := A_0 (below_step HB.out hb); have m2_ := A_0 (show IsS41 w w3 g s 0 from ⟨hbox, (by rw [hg]; exact below_size HB.out)⟩); clear HB hb hbox hg; have HB := m1_; have HI := m2_; clear m1_ m2_))
  go_loopg [6] (n0 + 1) (fun kq v6 w' => CRel s g r w kq v6 w')
  case atStart => exact ⟨0, [], n0, by omega, HR, HI, ⟨Kd.R_nil _ _ _ _ _⟩, HB⟩
  case round =>
    clear HI HB HR; unfold CRel at hrel; obtain ⟨i, acc, n, hn, HR, HI, HO, HB⟩ := hrel; cases gk with
    | zero => omega
    | succ k1 =>
    have hcase := HR.out; cases hcase with
    | err n i j acc kd tx nm at_ er p h1 h2 h3 =>
      have H1 := A_0 h1; have H2 := A_0 h2; have H3 := Lib.hid h3; clear h1 h2 h3 HR
      go_wp2_with fail
      refine (skip_of s i j H1.out g w _ HI.out HB.out).mono ?_
      rintro e w5 ⟨rfl, hi5, hb5, hk5⟩; have m1_ := A_0 hi5; have m2_ := A_0 hb5; clear HI HB hi5 hb5 hk5; have HI := m1_; have HB := m2_; clear m1_ m2_
      go_wp2_with fail
      refine (next_of s j kd tx nm at_ er p H2.out g w _ HI.out HB.out).mono ?_
      rintro e w6 ⟨rfl, hi6, hb6, hk6⟩; have HB6 := A_0 hb6; clear HI HB hi6 hb6 hk6 HO; have e1 : (er != 0) = true := by rw [bne_iff_ne]; exact H3.out
      go_wp2
      go_quiet (fail)
      go_wp2
      refine bodyPost_ret (v := .tuple #[.slice none 0 0, .int .i64 at_, .int .i64 er]) (by simp [results, Try.results36, go_sem]) rfl ?_
      exact ⟨_, rfl, Kd.R_nil _ _ _ _ _, pw_below_drewN (below_alloc HB6.out _) _⟩
    | fin n i j acc kd tx nm at_ p h1 h2 h3 h4 =>
      have H1 := A_0 h1; have H2 := A_0 h2; have H3 := Lib.hid h3; have H4 := Lib.hid h4; clear h1 h2 h3 h4 HR
      go_wp2_with fail
      refine (skip_of s i j H1.out g w _ HI.out HB.out).mono ?_
      rintro e w5 ⟨rfl, hi5, hb5, hk5⟩; have m1_ := A_0 hi5; have m2_ := A_0 hb5; have m3_ := A_0 (Kd.R_keep HO.out hk5 (fun k hk => hk)); clear HI HB HO hi5 hb5 hk5; have HI := m1_; have HB := m2_; have HO := m3_; clear m1_ m2_ m3_
      go_wp2_with fail
      refine (next_of s j kd tx nm at_ 0 p H2.out g w _ HI.out HB.out).mono ?_
      rintro e w6 ⟨rfl, hi6, hb6, hk6⟩; have m1_ := A_0 hi6; have m2_ := A_0 hb6; have m3_ := A_0 (Kd.R_keep HO.out hk6 (fun k hk => hk)); clear HI HB HO hi6 hb6 hk6; have HI := m1_; have HB := m2_; have HO := m3_; clear m1_ m2_ m3_; have e1 : (kd == 0) = true := by rw [beq_iff_eq]; exact H4.out
      have hfr : ∀ k, w6.heap.size + 1 ≤ k → k ≠ g := fun k hk => by have := IsS41.lt HI.out; omega
      have hal := below_size HB.out
      go_wp2_with (first | ((with_reducible refine gate_builtin (b := .append) (xs := #[.tmp 27, .tmp 29]) rfl ?_); at_builtin; refine Kd.R_append k33 (w0 := w) w.heap.size rfl (.tmp 27) (.tmp 29) 53 58 (.agg #[(.int .i64 0), (.string ⟨#[]⟩), (.int .i64 0), (.int .i64 0)]) 40 rfl Try.underlying53 info33 rfl (by decide) (by omega) u6 acc (⟨kd, tx, nm, at_⟩ : S33) [.int .i64 kd, .string tx, .int .i64 nm, .int .i64 at_] (· ≠ g) (fun _ => False) rfl ?aX ?aP (fun _ hk => hk.elim) ?aF ?aO ?aB ?aS ?aL ?_; (case aX => show Value.slice _ _ _ = _; simp); (case aP => exact k33_mkM _ _ _ _); (case aF => exact (fun k hk => hfr k (by simpa using hk))); (case aO => exact Kd.R_alloc HO.out _); (case aB => exact below_alloc HB.out _); (case aS => exact below_size (below_alloc HB.out _)); (case aL => have := H3.out; omega); intro v9 w9 ho9 hb9 hg9 hat9; have m1_ := A_0 ho9; have m2_ := A_0 hb9; have m3_ := A_0 (IsS41.grown (IsS41.alloc HI.out _) hg9 (IsS41.own_ne HI.out HO.out (by decide))); have m4_ := A_0 (hg9.block w6.heap.size (by simp) (fun e => Kd.R_ne_new HO.out 0 (by simpa using e))); clear HI HB HO ho9 hb9 hg9 hat9; have HO := m1_; have HB := m2_; have HI := m3_; clear m1_ m2_ m3_; have hT : w9.heap[w6.heap.size]? = some (.cells #[.int .i64 kd, .string tx, .int .i64 nm, .int .i64 at_] 58 (0, 0)) := m4_.out.trans (blk_new w6 _); have t0 : w9.cell? ⟨w6.heap.size, 0, none⟩ = some (.int .i64 kd) := (blk_cell hT 0).trans rfl; clear hT m4_))
      refine bodyPost_ret (v := .tuple #[v9, .int .i64 0, .int .i64 0]) (by simp [results, Try.results36, go_sem]) rfl ?_
      exact ⟨_, rfl, Kd.R_mono HO.out (fun _ _ => trivial), HB.out⟩
    | step n i j acc kd tx nm at_ p r h1 h2 h3 h4 h5 =>
      have H5 := A_0 h5; clear h5; have H1 := A_0 h1; have H2 := A_0 h2; have H3 := Lib.hid h3; have H4 := Lib.hid h4; clear h1 h2 h3 h4 HR
      go_wp2_with fail
      refine (skip_of s i j H1.out g w _ HI.out HB.out).mono ?_
      rintro e w5 ⟨rfl, hi5, hb5, hk5⟩; have m1_ := A_0 hi5; have m2_ := A_0 hb5; have m3_ := A_0 (Kd.R_keep HO.out hk5 (fun k hk => hk)); clear HI HB HO hi5 hb5 hk5; have HI := m1_; have HB := m2_; have HO := m3_; clear m1_ m2_ m3_
      go_wp2_with fail
      refine (next_of s j kd tx nm at_ 0 p H2.out g w _ HI.out HB.out).mono ?_
      rintro e w6 ⟨rfl, hi6, hb6, hk6⟩; have m1_ := A_0 hi6; have m2_ := A_0 hb6; have m3_ := A_0 (Kd.R_keep HO.out hk6 (fun k hk => hk)); clear HI HB HO hi6 hb6 hk6; have HI := m1_; have HB := m2_; have HO := m3_; clear m1_ m2_ m3_; have e1 : (kd == 0) = false := by rw [beq_eq_false_iff_ne]; exact H4.out
      have hfr : ∀ k, w6.heap.size + 1 ≤ k → k ≠ g := fun k hk => by have := IsS41.lt HI.out; omega
      have hal := below_size HB.out
      go_wp2_with (first | ((with_reducible refine gate_builtin (b := .append) (xs := #[.tmp 27, .tmp 29]) rfl ?_); at_builtin; refine Kd.R_append k33 (w0 := w) w.heap.size rfl (.tmp 27) (.tmp 29) 53 58 (.agg #[(.int .i64 0), (.string ⟨#[]⟩), (.int .i64 0), (.int .i64 0)]) 40 rfl Try.underlying53 info33 rfl (by decide) (by omega) u6 acc (⟨kd, tx, nm, at_⟩ : S33) [.int .i64 kd, .string tx, .int .i64 nm, .int .i64 at_] (· ≠ g) (fun _ => False) rfl ?aX ?aP (fun _ hk => hk.elim) ?aF ?aO ?aB ?aS ?aL ?_; (case aX => show Value.slice _ _ _ = _; simp); (case aP => exact k33_mkM _ _ _ _); (case aF => exact (fun k hk => hfr k (by simpa using hk))); (case aO => exact Kd.R_alloc HO.out _); (case aB => exact below_alloc HB.out _); (case aS => exact below_size (below_alloc HB.out _)); (case aL => have := H3.out; omega); intro v9 w9 ho9 hb9 hg9 hat9; have m1_ := A_0 ho9; have m2_ := A_0 hb9; have m3_ := A_0 (IsS41.grown (IsS41.alloc HI.out _) hg9 (IsS41.own_ne HI.out HO.out (by decide))); have m4_ := A_0 (hg9.block w6.heap.size (by simp) (fun e => Kd.R_ne_new HO.out 0 (by simpa using e))); clear HI HB HO ho9 hb9 hg9 hat9; have HO := m1_; have HB := m2_; have HI := m3_; clear m1_ m2_ m3_; have hT : w9.heap[w6.heap.size]? = some (.cells #[.int .i64 kd, .string tx, .int .i64 nm, .int .i64 at_] 58 (0, 0)) := m4_.out.trans (blk_new w6 _); have t0 : w9.cell? ⟨w6.heap.size, 0, none⟩ = some (.int .i64 kd) := (blk_cell hT 0).trans rfl; clear hT m4_))
      go_roundg k1
      case measure => omega
      case rel => exact ⟨p, _, n, by omega, H5, HI, HO, HB⟩
theorem lex_Cut.calls (a0 : ByteArray) (r1 : List S33) (r2 r3 : Int) (w : World) (h : lex_Cut.f a0 = some (r1, r2, r3)) :
    Calls Try.prog 36 #[.string a0] w fun e w' => ∃ v1_ : Value, e = .returned (.tuple #[v1_, .int .i64 r2, .int .i64 r3]) ∧ Kd.R k33 58 w' w.heap.size (fun _ => True) v1_ r1 ∧ Below w.heap.size w w' := by
  rcases cut_run h with ⟨hs, hr⟩ | ⟨hs, n, hr⟩
  · have := cut_big a0 w hs
    rw [← hr] at this; exact this
  · exact cut_walk a0 (r1, r2, r3) w hs n hr
end Go.Proofs.Ytobkdmmnbnpemaa.Lx
