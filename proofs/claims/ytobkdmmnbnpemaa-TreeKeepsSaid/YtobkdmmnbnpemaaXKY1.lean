/- The counter: an expression, walked by hand. -/
import Derived.Test.YtobkdmmnbnpemaaXKY0
import Derived.Lib.Hide
namespace Go.Proofs.Ytobkdmmnbnpemaa.K
open Go.RowKit Go.Proofs.YtobkdmmnbnpemaaW.PrintWords Go.Proofs.YtobkdmmnbnpemaaW.PrintLast Go.Proofs.YtobkdmmnbnpemaaW.PrintMore
attribute [local go_sem] max2_int min2_int max_two min_two max_three min_three max_four min_four
set_option linter.unusedVariables false
set_option linter.unusedSimpArgs false
def CPost (b : Bool) (m : Int) (g : Nat) (w0 w : World) (e : Ending) (w' : World) : Prop := e = .returned (.bool b) ∧ IsS95 w0 w' g m ∧ Below w0.heap.size w0 w' ∧ KeepBut w w' g none
theorem one_t (n : Int) (h0 : 0 ≤ n) (h1 : n + 1 ≤ 600) : tree_counter_one.f n = some (true, n + 1) := by
  have e : wrap64 (n + 1) = n + 1 := by unfold wrap64; omega
  unfold tree_counter_one.f; rw [e, decide_eq_true h1]
theorem one_f (n : Int) (h0 : 0 ≤ n) (h1 : n ≤ 600) (h2 : ¬ n + 1 ≤ 600) : tree_counter_one.f n = some (false, n + 1) := by
  have e : wrap64 (n + 1) = n + 1 := by unfold wrap64; omega
  unfold tree_counter_one.f; rw [e, decide_eq_false h2]
set_option maxHeartbeats 4000000 in
set_option maxRecDepth 100000 in
theorem expr_deep (a0 a1 : Int) (a2 : ByteArray) (a3 : Int) (l : List S38) (A : Option Addr) (c : Nat) (n : Int) (g : Nat) (w0 w : World) (hI : IsS95 w0 w g n) (hB : Below w0.heap.size w0 w) :
    Calls Try.prog 120 #[.pointer (some ⟨g, 0, none⟩), .agg #[.int .i64 a0, .int .i64 a1, .string a2, .int .i64 a3, .slice A l.length c], .int .i64 49] w (CPost false n g w0 w) := by
  have hu38 := Try.underlying38; have HI := A_0 hI; have HB := A_0 hB; have HK := A_0 (KeepBut.refl w g none); clear hI hB
  go_enter Try.func120, Try.ntmps120
  go_wp2
  go_ret
  exact z_193
theorem eta38 (x : S38) : (⟨x.f0, x.f1, x.f2, x.f3, x.f4⟩ : S38) = x := by cases x; rfl
def ERel (d : Nat) (l : List S38) (r : Bool × Int) (g : Nat) (w0 w : World) (v40 : Value) (w' : World) : Prop :=
  ∃ (i m : Int), v40 = .int .i64 i ∧ 0 ≤ i ∧ i ≤ (l.length : Int) ∧ 0 ≤ m ∧ m ≤ 600 ∧ Aside0 (goE (cE d) m (l.drop i.toNat) = r) ∧ Aside0 (IsS95 w0 w' g m) ∧ Aside0 (Below w0.heap.size w0 w') ∧ Aside0 (KeepBut w w' g none)
theorem fields_L (a0 a1 : Int) (a2 : ByteArray) (a3 : Int) (l : List S38) (L : Nat) (A : Option Addr) (c : Nat) (w : World) (hL : l.length = L) (hC : Kd.C k38 w A l.length l) (hc : L ≤ c) (r : Bool) (h : fieldsB a0 a1 a2 a3 = r) :
    Calls Try.prog 136 #[.agg #[.int .i64 a0, .int .i64 a1, .string a2, .int .i64 a3, .slice A L c]] w fun e w' => e = .returned (.bool r) ∧ Below w.heap.size w w' := by
  subst hL h; obtain ⟨k, hk⟩ := fields_ok a0 a1 a2 a3 l; exact tree_fields.calls k a0 a1 a2 a3 A c l _ w hC hc hk
def ExprC (d : Nat) : Prop := ∀ (a0 a1 : Int) (a2 : ByteArray) (a3 : Int) (l : List S38) (A : Option Addr) (c : Nat) (n : Int) (b : Bool) (m : Int) (g : Nat) (w0 w : World), Kd.C k38 w0 A l.length l → l.length ≤ c → 0 ≤ n → n ≤ 600 → IsS95 w0 w g n → Below w0.heap.size w0 w → cE d n ⟨a0, a1, a2, a3, l⟩ = (b, m) →
      ∀ deep : Int, deep = 49 - (d : Int) → Calls Try.prog 120 #[.pointer (some ⟨g, 0, none⟩), .agg #[.int .i64 a0, .int .i64 a1, .string a2, .int .i64 a3, .slice A l.length c], .int .i64 deep] w (CPost b m g w0 w)
theorem ExprC.use {d : Nat} (h : ExprC d) :  ∀ (a0 a1 : Int) (a2 : ByteArray) (a3 : Int) (l : List S38) (A : Option Addr) (c : Nat) (n : Int) (b : Bool) (m : Int) (g : Nat) (w0 w : World), Kd.C k38 w0 A l.length l → l.length ≤ c → 0 ≤ n → n ≤ 600 → IsS95 w0 w g n → Below w0.heap.size w0 w → cE d n ⟨a0, a1, a2, a3, l⟩ = (b, m) →
      ∀ deep : Int, deep = 49 - (d : Int) → Calls Try.prog 120 #[.pointer (some ⟨g, 0, none⟩), .agg #[.int .i64 a0, .int .i64 a1, .string a2, .int .i64 a3, .slice A l.length c], .int .i64 deep] w (CPost b m g w0 w) := h
set_option maxHeartbeats 8000000 in
set_option maxRecDepth 100000 in
theorem expr_many (d : Nat) (hd : d ≤ 48) (a0 a1 : Int) (a2 : ByteArray) (a3 : Int) (l : List S38) (L : Nat) (A : Option Addr) (c : Nat) (n : Int) (g : Nat) (w0 w : World) (h0 : 0 ≤ n) (h1 : n ≤ 600) (hI : IsS95 w0 w g n) (hB : Below w0.heap.size w0 w) (deep : Int) (hdeep : deep + 1 = 49 - (d : Int)) (q : ¬ n + 1 ≤ 600) : Calls Try.prog 120 #[.pointer (some ⟨g, 0, none⟩), .agg #[.int .i64 a0, .int .i64 a1, .string a2, .int .i64 a3, .slice A L c], .int .i64 deep] w (CPost false (n + 1) g w0 w) := by
  have hu38 := Try.underlying38; have HI := A_0 hI; have HB := A_0 hB; have HK := A_0 (KeepBut.refl w g none); have hdp : decide (48 < deep) = false := decide_eq_false (by omega); have hdlo : 0 ≤ deep := by omega
  have hdhi : deep ≤ 48 := by omega
  have HD := A_0 hdeep; clear hI hB hdeep; have H1 := A_0 (one_f n h0 h1 q)
  go_enter Try.func120, Try.ntmps120
  go_wp2_with (first | ((with_reducible refine gate_dst (N := 4) rfl ?_); refine box_event ?hg (N := 4) ?hd (cs := #[.int .i64 a0, .int .i64 a1, .string a2, .int .i64 a3, .slice A L c]) (t := 38) ?hr ?_; (case hd => rfl); (case hg => rfl); (case hr => first | (go_simp; done) | (go_simp; rfl)); intro gb hg w2 hbox hb; have n0_ := A_0 (below_step HB.out hb); have n1_ := A_0 (IsS95.below HI.out hb); have n2_ := A_0 ((HK.out).trans (KeepBut.of_below hb g none) (.inl rfl)); have n3_ := A_0 hbox; have n4_ := A_0 (show gb ≠ g by have := IsS95.fresh HI.out gb (Nat.le_of_eq hg.symm); exact this); have n5_ := A_0 (show w.heap.size ≤ gb by rw [hg]; exact Nat.le_refl _); clear HB HI HK hb hbox hg; have HB := n0_; have HI := n1_; have HK := n2_; have BK := n3_; have GN := n4_; have GE := n5_; clear n0_ n1_ n2_ n3_ n4_ n5_))
  (with_reducible refine (tree_counter_one.calls g n _ _ w0 _ HI.out HB.out H1.out).mono ?_)
  rintro e w3 ⟨rfl, hi3, hb3, hk3⟩; have n0_ := A_0 hi3; have n1_ := A_0 hb3; have n2_ := A_0 (HK.out.trans hk3 (.inl rfl)); have n3_ := A_0 (KeepBut.blk hk3 BK.out GN.out (by simp)); clear HI HB HK BK hi3 hb3 hk3; have HI := n0_; have HB := n1_; have HK := n2_; have BK := n3_; clear n0_ n1_ n2_ n3_; obtain ⟨hcz0, hcz1, hcz2, hcz3, hcz4⟩ := blkc5 BK.out; obtain ⟨hfz0, hfz1, hfz2, hfz3, hfz4⟩ := blkf5 BK.out
  go_wp2
  go_ret
  exact z_193
set_option maxHeartbeats 8000000 in
set_option maxRecDepth 100000 in
theorem expr_kind (d : Nat) (hd : d ≤ 48) (a0 a1 : Int) (a2 : ByteArray) (a3 : Int) (l : List S38) (L : Nat) (A : Option Addr) (c : Nat) (n : Int) (g : Nat) (w0 w : World) (h0 : 0 ≤ n) (h1 : n ≤ 600) (hI : IsS95 w0 w g n) (hB : Below w0.heap.size w0 w) (deep : Int) (hdeep : deep + 1 = 49 - (d : Int)) (q : n + 1 ≤ 600) (k1 : a0 ≠ 1) (k2 : a0 ≠ 2) (k3 : a0 ≠ 3) (k4 : a0 ≠ 4) (k5 : a0 ≠ 5) : Calls Try.prog 120 #[.pointer (some ⟨g, 0, none⟩), .agg #[.int .i64 a0, .int .i64 a1, .string a2, .int .i64 a3, .slice A L c], .int .i64 deep] w (CPost false (n + 1) g w0 w) := by
  have hu38 := Try.underlying38; have HI := A_0 hI; have HB := A_0 hB; have HK := A_0 (KeepBut.refl w g none); have hdp : decide (48 < deep) = false := decide_eq_false (by omega); have hdlo : 0 ≤ deep := by omega
  have hdhi : deep ≤ 48 := by omega
  have HD := A_0 hdeep; clear hI hB hdeep; have H1 := A_0 (one_t n h0 q); have e1 : (a0 == 1) = false := beq_eq_false_iff_ne.2 k1; have e2 : (a0 == 2) = false := beq_eq_false_iff_ne.2 k2; have e3 : (a0 == 3) = false := beq_eq_false_iff_ne.2 k3; have e4 : (a0 == 4) = false := beq_eq_false_iff_ne.2 k4; have e5 : (a0 == 5) = false := beq_eq_false_iff_ne.2 k5
  go_enter Try.func120, Try.ntmps120
  go_wp2_with (first | ((with_reducible refine gate_dst (N := 4) rfl ?_); refine box_event ?hg (N := 4) ?hd (cs := #[.int .i64 a0, .int .i64 a1, .string a2, .int .i64 a3, .slice A L c]) (t := 38) ?hr ?_; (case hd => rfl); (case hg => rfl); (case hr => first | (go_simp; done) | (go_simp; rfl)); intro gb hg w2 hbox hb; have n0_ := A_0 (below_step HB.out hb); have n1_ := A_0 (IsS95.below HI.out hb); have n2_ := A_0 ((HK.out).trans (KeepBut.of_below hb g none) (.inl rfl)); have n3_ := A_0 hbox; have n4_ := A_0 (show gb ≠ g by have := IsS95.fresh HI.out gb (Nat.le_of_eq hg.symm); exact this); have n5_ := A_0 (show w.heap.size ≤ gb by rw [hg]; exact Nat.le_refl _); clear HB HI HK hb hbox hg; have HB := n0_; have HI := n1_; have HK := n2_; have BK := n3_; have GN := n4_; have GE := n5_; clear n0_ n1_ n2_ n3_ n4_ n5_))
  (with_reducible refine (tree_counter_one.calls g n _ _ w0 _ HI.out HB.out H1.out).mono ?_)
  rintro e w3 ⟨rfl, hi3, hb3, hk3⟩; have n0_ := A_0 hi3; have n1_ := A_0 hb3; have n2_ := A_0 (HK.out.trans hk3 (.inl rfl)); have n3_ := A_0 (KeepBut.blk hk3 BK.out GN.out (by simp)); clear HI HB HK BK hi3 hb3 hk3; have HI := n0_; have HB := n1_; have HK := n2_; have BK := n3_; clear n0_ n1_ n2_ n3_; obtain ⟨hcz0, hcz1, hcz2, hcz3, hcz4⟩ := blkc5 BK.out; obtain ⟨hfz0, hfz1, hfz2, hfz3, hfz4⟩ := blkf5 BK.out
  go_wp2
  go_ret
  exact z_193
set_option maxHeartbeats 8000000 in
set_option maxRecDepth 100000 in
theorem expr_len1 (d : Nat) (hd : d ≤ 48) (a1 : Int) (a2 : ByteArray) (a3 : Int) (l : List S38) (L : Nat) (A : Option Addr) (c : Nat) (n : Int) (g : Nat) (w0 w : World) (h0 : 0 ≤ n) (h1 : n ≤ 600) (hI : IsS95 w0 w g n) (hB : Below w0.heap.size w0 w) (deep : Int) (hdeep : deep + 1 = 49 - (d : Int)) (q : n + 1 ≤ 600) (hL : L ≠ 0) : Calls Try.prog 120 #[.pointer (some ⟨g, 0, none⟩), .agg #[.int .i64 1, .int .i64 a1, .string a2, .int .i64 a3, .slice A L c], .int .i64 deep] w (CPost false (n + 1) g w0 w) := by
  have hu38 := Try.underlying38; have HI := A_0 hI; have HB := A_0 hB; have HK := A_0 (KeepBut.refl w g none); have hdp : decide (48 < deep) = false := decide_eq_false (by omega); have hdlo : 0 ≤ deep := by omega
  have hdhi : deep ≤ 48 := by omega
  have HD := A_0 hdeep; clear hI hB hdeep; have H1 := A_0 (one_t n h0 q); have e1 : ((L : Int) == 0) = false := beq_eq_false_iff_ne.2 (by omega); have e2 : ((L : Int) != 0) = true := bne_iff_ne.2 (by omega)
  go_enter Try.func120, Try.ntmps120
  go_wp2_with (first | ((with_reducible refine gate_dst (N := 4) rfl ?_); refine box_event ?hg (N := 4) ?hd (cs := #[.int .i64 1, .int .i64 a1, .string a2, .int .i64 a3, .slice A L c]) (t := 38) ?hr ?_; (case hd => rfl); (case hg => rfl); (case hr => first | (go_simp; done) | (go_simp; rfl)); intro gb hg w2 hbox hb; have n0_ := A_0 (below_step HB.out hb); have n1_ := A_0 (IsS95.below HI.out hb); have n2_ := A_0 ((HK.out).trans (KeepBut.of_below hb g none) (.inl rfl)); have n3_ := A_0 hbox; have n4_ := A_0 (show gb ≠ g by have := IsS95.fresh HI.out gb (Nat.le_of_eq hg.symm); exact this); have n5_ := A_0 (show w.heap.size ≤ gb by rw [hg]; exact Nat.le_refl _); clear HB HI HK hb hbox hg; have HB := n0_; have HI := n1_; have HK := n2_; have BK := n3_; have GN := n4_; have GE := n5_; clear n0_ n1_ n2_ n3_ n4_ n5_))
  (with_reducible refine (tree_counter_one.calls g n _ _ w0 _ HI.out HB.out H1.out).mono ?_)
  rintro e w3 ⟨rfl, hi3, hb3, hk3⟩; have n0_ := A_0 hi3; have n1_ := A_0 hb3; have n2_ := A_0 (HK.out.trans hk3 (.inl rfl)); have n3_ := A_0 (KeepBut.blk hk3 BK.out GN.out (by simp)); clear HI HB HK BK hi3 hb3 hk3; have HI := n0_; have HB := n1_; have HK := n2_; have BK := n3_; clear n0_ n1_ n2_ n3_; obtain ⟨hcz0, hcz1, hcz2, hcz3, hcz4⟩ := blkc5 BK.out; obtain ⟨hfz0, hfz1, hfz2, hfz3, hfz4⟩ := blkf5 BK.out
  go_wp2
  go_ret
  exact z_193
set_option maxHeartbeats 8000000 in
set_option maxRecDepth 100000 in
theorem expr_fld1 (d : Nat) (hd : d ≤ 48) (a1 : Int) (a2 : ByteArray) (a3 : Int) (l : List S38) (L : Nat) (A : Option Addr) (c : Nat) (n : Int) (g : Nat) (w0 w : World) (hL : l.length = L) (hC : Kd.C k38 w0 A l.length l) (hc : L ≤ c) (h0 : 0 ≤ n) (h1 : n ≤ 600) (hI : IsS95 w0 w g n) (hB : Below w0.heap.size w0 w) (deep : Int) (hdeep : deep + 1 = 49 - (d : Int)) (q : n + 1 ≤ 600) (hW : L = 0) (hf : fieldsB 1 a1 a2 a3 = false) : Calls Try.prog 120 #[.pointer (some ⟨g, 0, none⟩), .agg #[.int .i64 1, .int .i64 a1, .string a2, .int .i64 a3, .slice A L c], .int .i64 deep] w (CPost false (n + 1) g w0 w) := by
  have hu38 := Try.underlying38; have HI := A_0 hI; have HB := A_0 hB; have HK := A_0 (KeepBut.refl w g none); have hdp : decide (48 < deep) = false := decide_eq_false (by omega); have hdlo : 0 ≤ deep := by omega
  have hdhi : deep ≤ 48 := by omega
  have HD := A_0 hdeep; clear hI hB hdeep; have H1 := A_0 (one_t n h0 q); have hLs : (L : Int) ≤ 2 := by omega
  have e1 : ((L : Int) == 0) = true := beq_iff_eq.2 (by omega); have e2 : ((L : Int) != 0) = false := bne_eq_false_iff_eq.2 (by omega); have HL := A_0 hL; have HC := A_0 hC; have HCC := A_0 hc; have HF := A_0 hf; clear hW hL hC hc hf
  go_enter Try.func120, Try.ntmps120
  go_wp2_with (first | ((with_reducible refine gate_dst (N := 4) rfl ?_); refine box_event ?hg (N := 4) ?hd (cs := #[.int .i64 1, .int .i64 a1, .string a2, .int .i64 a3, .slice A L c]) (t := 38) ?hr ?_; (case hd => rfl); (case hg => rfl); (case hr => first | (go_simp; done) | (go_simp; rfl)); intro gb hg w2 hbox hb; have n0_ := A_0 (below_step HB.out hb); have n1_ := A_0 (IsS95.below HI.out hb); have n2_ := A_0 ((HK.out).trans (KeepBut.of_below hb g none) (.inl rfl)); have n3_ := A_0 hbox; have n4_ := A_0 (show gb ≠ g by have := IsS95.fresh HI.out gb (Nat.le_of_eq hg.symm); exact this); have n5_ := A_0 (show w.heap.size ≤ gb by rw [hg]; exact Nat.le_refl _); clear HB HI HK hb hbox hg; have HB := n0_; have HI := n1_; have HK := n2_; have BK := n3_; have GN := n4_; have GE := n5_; clear n0_ n1_ n2_ n3_ n4_ n5_))
  (with_reducible refine (tree_counter_one.calls g n _ _ w0 _ HI.out HB.out H1.out).mono ?_)
  rintro e w3 ⟨rfl, hi3, hb3, hk3⟩; have n0_ := A_0 hi3; have n1_ := A_0 hb3; have n2_ := A_0 (HK.out.trans hk3 (.inl rfl)); have n3_ := A_0 (KeepBut.blk hk3 BK.out GN.out (by simp)); clear HI HB HK BK hi3 hb3 hk3; have HI := n0_; have HB := n1_; have HK := n2_; have BK := n3_; clear n0_ n1_ n2_ n3_; obtain ⟨hcz0, hcz1, hcz2, hcz3, hcz4⟩ := blkc5 BK.out; obtain ⟨hfz0, hfz1, hfz2, hfz3, hfz4⟩ := blkf5 BK.out
  go_wp2_with fail
  (with_reducible refine (fields_L 1 a1 a2 a3 l L A c _ HL.out (z_194) HCC.out false HF.out).mono ?_)
  rintro e w4 ⟨rfl, hb4⟩; have n0_ := A_0 (IsS95.below (z_195) hb4); have n1_ := A_0 (below_step (z_16) hb4); have n2_ := A_0 (HK.out.trans (KeepBut.of_below hb4 g none) (.inl rfl)); have n3_ := A_0 (blk_below BK.out hb4); clear HI HB HK BK hb4 hcz0 hcz1 hcz2 hcz3 hcz4 hfz0 hfz1 hfz2 hfz3 hfz4; have HI := n0_; have HB := n1_; have HK := n2_; have BK := n3_; clear n0_ n1_ n2_ n3_; have hcz4 : w4.cell? ⟨gb, 4, none⟩ = some (.slice A L c) := (blk_cell BK.out 4).trans rfl; have hfz4 := blk_frozen BK.out 4
  go_wp2
  go_ret
  exact z_193
set_option maxHeartbeats 8000000 in
set_option maxRecDepth 100000 in
theorem expr_go1 (d : Nat) (hd : d ≤ 48) (a1 : Int) (a2 : ByteArray) (a3 : Int) (l : List S38) (L : Nat) (A : Option Addr) (c : Nat) (n : Int) (g : Nat) (w0 w : World) (hL : l.length = L) (hC : Kd.C k38 w0 A l.length l) (hc : L ≤ c) (h0 : 0 ≤ n) (h1 : n ≤ 600) (hI : IsS95 w0 w g n) (hB : Below w0.heap.size w0 w) (deep : Int) (hdeep : deep + 1 = 49 - (d : Int)) (IH0 : ExprC d) (b : Bool) (m : Int) (q : n + 1 ≤ 600) (hW : L = 0) (hf : fieldsB 1 a1 a2 a3 = true) (hr : goE (cE d) (n + 1) l = (b, m)) : Calls Try.prog 120 #[.pointer (some ⟨g, 0, none⟩), .agg #[.int .i64 1, .int .i64 a1, .string a2, .int .i64 a3, .slice A L c], .int .i64 deep] w (CPost b m g w0 w) := by
  have hu38 := Try.underlying38; have HI := A_0 hI; have HB := A_0 hB; have HK := A_0 (KeepBut.refl w g none); have hdp : decide (48 < deep) = false := decide_eq_false (by omega); have hdlo : 0 ≤ deep := by omega
  have hdhi : deep ≤ 48 := by omega
  have HD := A_0 hdeep; clear hI hB hdeep; have H1 := A_0 (one_t n h0 q); have hLs : (L : Int) ≤ 2 := by omega
  have e1 : ((L : Int) == 0) = true := beq_iff_eq.2 (by omega); have e2 : ((L : Int) != 0) = false := bne_eq_false_iff_eq.2 (by omega); have HL := A_0 hL; have HC := A_0 hC; have HCC := A_0 hc; have HF := A_0 hf; clear hW hL hC hc hf; have HR := A_0 hr; have IH := A_0 IH0; clear hr IH0
  go_enter Try.func120, Try.ntmps120
  go_wp2_with (first | ((with_reducible refine gate_dst (N := 4) rfl ?_); refine box_event ?hg (N := 4) ?hd (cs := #[.int .i64 1, .int .i64 a1, .string a2, .int .i64 a3, .slice A L c]) (t := 38) ?hr ?_; (case hd => rfl); (case hg => rfl); (case hr => first | (go_simp; done) | (go_simp; rfl)); intro gb hg w2 hbox hb; have n0_ := A_0 (below_step HB.out hb); have n1_ := A_0 (IsS95.below HI.out hb); have n2_ := A_0 ((HK.out).trans (KeepBut.of_below hb g none) (.inl rfl)); have n3_ := A_0 hbox; have n4_ := A_0 (show gb ≠ g by have := IsS95.fresh HI.out gb (Nat.le_of_eq hg.symm); exact this); have n5_ := A_0 (show w.heap.size ≤ gb by rw [hg]; exact Nat.le_refl _); clear HB HI HK hb hbox hg; have HB := n0_; have HI := n1_; have HK := n2_; have BK := n3_; have GN := n4_; have GE := n5_; clear n0_ n1_ n2_ n3_ n4_ n5_))
  (with_reducible refine (tree_counter_one.calls g n _ _ w0 _ HI.out HB.out H1.out).mono ?_)
  rintro e w3 ⟨rfl, hi3, hb3, hk3⟩; have n0_ := A_0 hi3; have n1_ := A_0 hb3; have n2_ := A_0 (HK.out.trans hk3 (.inl rfl)); have n3_ := A_0 (KeepBut.blk hk3 BK.out GN.out (by simp)); clear HI HB HK BK hi3 hb3 hk3; have HI := n0_; have HB := n1_; have HK := n2_; have BK := n3_; clear n0_ n1_ n2_ n3_; obtain ⟨hcz0, hcz1, hcz2, hcz3, hcz4⟩ := blkc5 BK.out; obtain ⟨hfz0, hfz1, hfz2, hfz3, hfz4⟩ := blkf5 BK.out
  go_wp2_with fail
  (with_reducible refine (fields_L 1 a1 a2 a3 l L A c _ HL.out (z_194) HCC.out true HF.out).mono ?_)
  rintro e w4 ⟨rfl, hb4⟩; have n0_ := A_0 (IsS95.below (z_195) hb4); have n1_ := A_0 (below_step (z_16) hb4); have n2_ := A_0 (HK.out.trans (KeepBut.of_below hb4 g none) (.inl rfl)); have n3_ := A_0 (blk_below BK.out hb4); clear HI HB HK BK hb4 hcz0 hcz1 hcz2 hcz3 hcz4 hfz0 hfz1 hfz2 hfz3 hfz4; have HI := n0_; have HB := n1_; have HK := n2_; have BK := n3_; clear n0_ n1_ n2_ n3_; have hcz4 : w4.cell? ⟨gb, 4, none⟩ = some (.slice A L c) := (blk_cell BK.out 4).trans rfl; have hfz4 := blk_frozen BK.out 4
  go_wp2
  go_loopw [40] (fun v40 wr => ERel d l (b, m) g w0 w v40 wr) (fun v40 _ => l.length - (intOf v40).toNat)
  case atStart => exact ⟨0, n + 1, rfl, Int.le_refl _, by omega, by omega, q, HR, HI, HB, HK⟩
  case round =>
    unfold ERel at hrel; clear HR HI HB HK; obtain ⟨i, j, rfl, hi0, hi1, hj0, hj1, HR, HI, HB, HK⟩ := hrel; by_cases hlt : i < (L : Int)
    · have hlt' : i < (l.length : Int) := by rw [HL.out]; exact hlt
      have hb0 : decide (i < (L : Int)) = true := decide_eq_true hlt; have hdr := drop_rd38 l i hi0 hlt'; have HR0 := HR.out; rw [hdr] at HR0; unfold goE at HR0; obtain ⟨ad, A4, c4, eA, hx0, hx1, hx2, hx3, hx4, hl4, hi4⟩ := at_T38 HC.out i hi0 hlt'; subst eA; replace hx0 := (HB.out.cell (World.block_lt_of_cell? w0 _ hx0)).trans hx0; replace hx1 := (HB.out.cell (World.block_lt_of_cell? w0 _ hx1)).trans hx1; replace hx2 := (HB.out.cell (World.block_lt_of_cell? w0 _ hx2)).trans hx2; replace hx3 := (HB.out.cell (World.block_lt_of_cell? w0 _ hx3)).trans hx3; replace hx4 := (HB.out.cell (World.block_lt_of_cell? w0 _ hx4)).trans hx4; have HC4 := A_0 hi4; have HL4 := A_0 hl4; have p1 := eq_true hi0; have p2 := eq_true hlt; obtain ⟨b1, m1, hr1⟩ : ∃ b1 m1, cE d j (rd_T38 l i) = (b1, m1) := ⟨_, _, rfl⟩; have hin := cE_in d j (rd_T38 l i) hj0 hj1; rw [hr1] at HR0 hin; have HR1 := A_0 (show cE d j ⟨(rd_T38 l i).f0, (rd_T38 l i).f1, (rd_T38 l i).f2, (rd_T38 l i).f3, (rd_T38 l i).f4⟩ = (b1, m1) from by rw [eta38]; exact hr1)
      have HIN := A_0 hin; clear hdr hr1 hi4 hl4 hin HR; cases b1 with
      | true =>
        have HR := A_0 (show goE (cE d) m1 (l.drop (i + 1).toNat) = (b, m) from HR0); clear HR0
        go_wp2_with fail
        (with_reducible refine (IH.out.use (rd_T38 l i).f0 (rd_T38 l i).f1 (rd_T38 l i).f2 (rd_T38 l i).f3 (rd_T38 l i).f4 A4 c4 j true m1 g w0 _ HC4.out HL4.out hj0 hj1 (z_195) (z_16) HR1.out _ HD.out).mono ?_)
        rintro e w5 ⟨rfl, hi5, hb5, hk5⟩; have n0_ := A_0 hi5; have n1_ := A_0 hb5; have n2_ := A_0 (KeepBut.trans (show KeepBut w _ g none from z_196) hk5 (.inl rfl)); clear HI HB HK hi5 hb5 hk5; have HI := n0_; have HB := n1_; have HK := n2_; clear n0_ n1_ n2_
        go_wp2
        go_roundw
        case rel => exact ⟨i + 1, m1, rfl, by omega, by omega, HIN.out.1, HIN.out.2.2 rfl, HR, ⟨z_195⟩, ⟨z_16⟩, ⟨z_196⟩⟩
        case measure => simp [intOf]; omega
      | false =>
        have HE := A_0 (show (false, m1) = (b, m) from HR0); clear HR0
        go_wp2_with fail
        (with_reducible refine (IH.out.use (rd_T38 l i).f0 (rd_T38 l i).f1 (rd_T38 l i).f2 (rd_T38 l i).f3 (rd_T38 l i).f4 A4 c4 j false m1 g w0 _ HC4.out HL4.out hj0 hj1 (z_195) (z_16) HR1.out _ HD.out).mono ?_)
        rintro e w5 ⟨rfl, hi5, hb5, hk5⟩; have n0_ := A_0 hi5; have n1_ := A_0 hb5; have n2_ := A_0 (KeepBut.trans (show KeepBut w _ g none from z_196) hk5 (.inl rfl)); clear HI HB HK hi5 hb5 hk5; have HI := n0_; have HB := n1_; have HK := n2_; clear n0_ n1_ n2_
        go_wp2
        go_ret
        have he := HE.out; injection he with he1 he2; subst he1 he2; exact z_193
    · have hb0 : decide (i < (L : Int)) = false := decide_eq_false hlt
      have he : goE (cE d) j (l.drop i.toNat) = (true, j) := by
        rw [List.drop_eq_nil_of_le (by have := HL.out; omega)]
        rfl
      have HE := A_0 (he.symm.trans HR.out); clear he HR
      go_wp2
      go_ret
      have he := HE.out; injection he with he1 he2; subst he1 he2; exact z_193
set_option maxHeartbeats 8000000 in
set_option maxRecDepth 100000 in
theorem expr_len2 (d : Nat) (hd : d ≤ 48) (a1 : Int) (a2 : ByteArray) (a3 : Int) (l : List S38) (L : Nat) (A : Option Addr) (c : Nat) (n : Int) (g : Nat) (w0 w : World) (h0 : 0 ≤ n) (h1 : n ≤ 600) (hI : IsS95 w0 w g n) (hB : Below w0.heap.size w0 w) (deep : Int) (hdeep : deep + 1 = 49 - (d : Int)) (q : n + 1 ≤ 600) (hL : L ≠ 0) : Calls Try.prog 120 #[.pointer (some ⟨g, 0, none⟩), .agg #[.int .i64 2, .int .i64 a1, .string a2, .int .i64 a3, .slice A L c], .int .i64 deep] w (CPost false (n + 1) g w0 w) := by
  have hu38 := Try.underlying38; have HI := A_0 hI; have HB := A_0 hB; have HK := A_0 (KeepBut.refl w g none); have hdp : decide (48 < deep) = false := decide_eq_false (by omega); have hdlo : 0 ≤ deep := by omega
  have hdhi : deep ≤ 48 := by omega
  have HD := A_0 hdeep; clear hI hB hdeep; have H1 := A_0 (one_t n h0 q); have e1 : ((L : Int) == 0) = false := beq_eq_false_iff_ne.2 (by omega); have e2 : ((L : Int) != 0) = true := bne_iff_ne.2 (by omega)
  go_enter Try.func120, Try.ntmps120
  go_wp2_with (first | ((with_reducible refine gate_dst (N := 4) rfl ?_); refine box_event ?hg (N := 4) ?hd (cs := #[.int .i64 2, .int .i64 a1, .string a2, .int .i64 a3, .slice A L c]) (t := 38) ?hr ?_; (case hd => rfl); (case hg => rfl); (case hr => first | (go_simp; done) | (go_simp; rfl)); intro gb hg w2 hbox hb; have n0_ := A_0 (below_step HB.out hb); have n1_ := A_0 (IsS95.below HI.out hb); have n2_ := A_0 ((HK.out).trans (KeepBut.of_below hb g none) (.inl rfl)); have n3_ := A_0 hbox; have n4_ := A_0 (show gb ≠ g by have := IsS95.fresh HI.out gb (Nat.le_of_eq hg.symm); exact this); have n5_ := A_0 (show w.heap.size ≤ gb by rw [hg]; exact Nat.le_refl _); clear HB HI HK hb hbox hg; have HB := n0_; have HI := n1_; have HK := n2_; have BK := n3_; have GN := n4_; have GE := n5_; clear n0_ n1_ n2_ n3_ n4_ n5_))
  (with_reducible refine (tree_counter_one.calls g n _ _ w0 _ HI.out HB.out H1.out).mono ?_)
  rintro e w3 ⟨rfl, hi3, hb3, hk3⟩; have n0_ := A_0 hi3; have n1_ := A_0 hb3; have n2_ := A_0 (HK.out.trans hk3 (.inl rfl)); have n3_ := A_0 (KeepBut.blk hk3 BK.out GN.out (by simp)); clear HI HB HK BK hi3 hb3 hk3; have HI := n0_; have HB := n1_; have HK := n2_; have BK := n3_; clear n0_ n1_ n2_ n3_; obtain ⟨hcz0, hcz1, hcz2, hcz3, hcz4⟩ := blkc5 BK.out; obtain ⟨hfz0, hfz1, hfz2, hfz3, hfz4⟩ := blkf5 BK.out
  go_wp2
  go_ret
  exact z_193
set_option maxHeartbeats 8000000 in
set_option maxRecDepth 100000 in
theorem expr_fld2 (d : Nat) (hd : d ≤ 48) (a1 : Int) (a2 : ByteArray) (a3 : Int) (l : List S38) (L : Nat) (A : Option Addr) (c : Nat) (n : Int) (g : Nat) (w0 w : World) (hL : l.length = L) (hC : Kd.C k38 w0 A l.length l) (hc : L ≤ c) (h0 : 0 ≤ n) (h1 : n ≤ 600) (hI : IsS95 w0 w g n) (hB : Below w0.heap.size w0 w) (deep : Int) (hdeep : deep + 1 = 49 - (d : Int)) (q : n + 1 ≤ 600) (hW : L = 0) (hf : fieldsB 2 a1 a2 a3 = false) : Calls Try.prog 120 #[.pointer (some ⟨g, 0, none⟩), .agg #[.int .i64 2, .int .i64 a1, .string a2, .int .i64 a3, .slice A L c], .int .i64 deep] w (CPost false (n + 1) g w0 w) := by
  have hu38 := Try.underlying38; have HI := A_0 hI; have HB := A_0 hB; have HK := A_0 (KeepBut.refl w g none); have hdp : decide (48 < deep) = false := decide_eq_false (by omega); have hdlo : 0 ≤ deep := by omega
  have hdhi : deep ≤ 48 := by omega
  have HD := A_0 hdeep; clear hI hB hdeep; have H1 := A_0 (one_t n h0 q); have hLs : (L : Int) ≤ 2 := by omega
  have e1 : ((L : Int) == 0) = true := beq_iff_eq.2 (by omega); have e2 : ((L : Int) != 0) = false := bne_eq_false_iff_eq.2 (by omega); have HL := A_0 hL; have HC := A_0 hC; have HCC := A_0 hc; have HF := A_0 hf; clear hW hL hC hc hf
  go_enter Try.func120, Try.ntmps120
  go_wp2_with (first | ((with_reducible refine gate_dst (N := 4) rfl ?_); refine box_event ?hg (N := 4) ?hd (cs := #[.int .i64 2, .int .i64 a1, .string a2, .int .i64 a3, .slice A L c]) (t := 38) ?hr ?_; (case hd => rfl); (case hg => rfl); (case hr => first | (go_simp; done) | (go_simp; rfl)); intro gb hg w2 hbox hb; have n0_ := A_0 (below_step HB.out hb); have n1_ := A_0 (IsS95.below HI.out hb); have n2_ := A_0 ((HK.out).trans (KeepBut.of_below hb g none) (.inl rfl)); have n3_ := A_0 hbox; have n4_ := A_0 (show gb ≠ g by have := IsS95.fresh HI.out gb (Nat.le_of_eq hg.symm); exact this); have n5_ := A_0 (show w.heap.size ≤ gb by rw [hg]; exact Nat.le_refl _); clear HB HI HK hb hbox hg; have HB := n0_; have HI := n1_; have HK := n2_; have BK := n3_; have GN := n4_; have GE := n5_; clear n0_ n1_ n2_ n3_ n4_ n5_))
  (with_reducible refine (tree_counter_one.calls g n _ _ w0 _ HI.out HB.out H1.out).mono ?_)
  rintro e w3 ⟨rfl, hi3, hb3, hk3⟩; have n0_ := A_0 hi3; have n1_ := A_0 hb3; have n2_ := A_0 (HK.out.trans hk3 (.inl rfl)); have n3_ := A_0 (KeepBut.blk hk3 BK.out GN.out (by simp)); clear HI HB HK BK hi3 hb3 hk3; have HI := n0_; have HB := n1_; have HK := n2_; have BK := n3_; clear n0_ n1_ n2_ n3_; obtain ⟨hcz0, hcz1, hcz2, hcz3, hcz4⟩ := blkc5 BK.out; obtain ⟨hfz0, hfz1, hfz2, hfz3, hfz4⟩ := blkf5 BK.out
  go_wp2_with fail
  (with_reducible refine (fields_L 2 a1 a2 a3 l L A c _ HL.out (z_194) HCC.out false HF.out).mono ?_)
  rintro e w4 ⟨rfl, hb4⟩; have n0_ := A_0 (IsS95.below (z_195) hb4); have n1_ := A_0 (below_step (z_16) hb4); have n2_ := A_0 (HK.out.trans (KeepBut.of_below hb4 g none) (.inl rfl)); have n3_ := A_0 (blk_below BK.out hb4); clear HI HB HK BK hb4 hcz0 hcz1 hcz2 hcz3 hcz4 hfz0 hfz1 hfz2 hfz3 hfz4; have HI := n0_; have HB := n1_; have HK := n2_; have BK := n3_; clear n0_ n1_ n2_ n3_; have hcz4 : w4.cell? ⟨gb, 4, none⟩ = some (.slice A L c) := (blk_cell BK.out 4).trans rfl; have hfz4 := blk_frozen BK.out 4
  go_wp2
  go_ret
  exact z_193
set_option maxHeartbeats 8000000 in
set_option maxRecDepth 100000 in
theorem expr_go2 (d : Nat) (hd : d ≤ 48) (a1 : Int) (a2 : ByteArray) (a3 : Int) (l : List S38) (L : Nat) (A : Option Addr) (c : Nat) (n : Int) (g : Nat) (w0 w : World) (hL : l.length = L) (hC : Kd.C k38 w0 A l.length l) (hc : L ≤ c) (h0 : 0 ≤ n) (h1 : n ≤ 600) (hI : IsS95 w0 w g n) (hB : Below w0.heap.size w0 w) (deep : Int) (hdeep : deep + 1 = 49 - (d : Int)) (IH0 : ExprC d) (b : Bool) (m : Int) (q : n + 1 ≤ 600) (hW : L = 0) (hf : fieldsB 2 a1 a2 a3 = true) (hr : goE (cE d) (n + 1) l = (b, m)) : Calls Try.prog 120 #[.pointer (some ⟨g, 0, none⟩), .agg #[.int .i64 2, .int .i64 a1, .string a2, .int .i64 a3, .slice A L c], .int .i64 deep] w (CPost b m g w0 w) := by
  have hu38 := Try.underlying38; have HI := A_0 hI; have HB := A_0 hB; have HK := A_0 (KeepBut.refl w g none); have hdp : decide (48 < deep) = false := decide_eq_false (by omega); have hdlo : 0 ≤ deep := by omega
  have hdhi : deep ≤ 48 := by omega
  have HD := A_0 hdeep; clear hI hB hdeep; have H1 := A_0 (one_t n h0 q); have hLs : (L : Int) ≤ 2 := by omega
  have e1 : ((L : Int) == 0) = true := beq_iff_eq.2 (by omega); have e2 : ((L : Int) != 0) = false := bne_eq_false_iff_eq.2 (by omega); have HL := A_0 hL; have HC := A_0 hC; have HCC := A_0 hc; have HF := A_0 hf; clear hW hL hC hc hf; have HR := A_0 hr; have IH := A_0 IH0; clear hr IH0
  go_enter Try.func120, Try.ntmps120
  go_wp2_with (first | ((with_reducible refine gate_dst (N := 4) rfl ?_); refine box_event ?hg (N := 4) ?hd (cs := #[.int .i64 2, .int .i64 a1, .string a2, .int .i64 a3, .slice A L c]) (t := 38) ?hr ?_; (case hd => rfl); (case hg => rfl); (case hr => first | (go_simp; done) | (go_simp; rfl)); intro gb hg w2 hbox hb; have n0_ := A_0 (below_step HB.out hb); have n1_ := A_0 (IsS95.below HI.out hb); have n2_ := A_0 ((HK.out).trans (KeepBut.of_below hb g none) (.inl rfl)); have n3_ := A_0 hbox; have n4_ := A_0 (show gb ≠ g by have := IsS95.fresh HI.out gb (Nat.le_of_eq hg.symm); exact this); have n5_ := A_0 (show w.heap.size ≤ gb by rw [hg]; exact Nat.le_refl _); clear HB HI HK hb hbox hg; have HB := n0_; have HI := n1_; have HK := n2_; have BK := n3_; have GN := n4_; have GE := n5_; clear n0_ n1_ n2_ n3_ n4_ n5_))
  (with_reducible refine (tree_counter_one.calls g n _ _ w0 _ HI.out HB.out H1.out).mono ?_)
  rintro e w3 ⟨rfl, hi3, hb3, hk3⟩; have n0_ := A_0 hi3; have n1_ := A_0 hb3; have n2_ := A_0 (HK.out.trans hk3 (.inl rfl)); have n3_ := A_0 (KeepBut.blk hk3 BK.out GN.out (by simp)); clear HI HB HK BK hi3 hb3 hk3; have HI := n0_; have HB := n1_; have HK := n2_; have BK := n3_; clear n0_ n1_ n2_ n3_; obtain ⟨hcz0, hcz1, hcz2, hcz3, hcz4⟩ := blkc5 BK.out; obtain ⟨hfz0, hfz1, hfz2, hfz3, hfz4⟩ := blkf5 BK.out
  go_wp2_with fail
  (with_reducible refine (fields_L 2 a1 a2 a3 l L A c _ HL.out (z_194) HCC.out true HF.out).mono ?_)
  rintro e w4 ⟨rfl, hb4⟩; have n0_ := A_0 (IsS95.below (z_195) hb4); have n1_ := A_0 (below_step (z_16) hb4); have n2_ := A_0 (HK.out.trans (KeepBut.of_below hb4 g none) (.inl rfl)); have n3_ := A_0 (blk_below BK.out hb4); clear HI HB HK BK hb4 hcz0 hcz1 hcz2 hcz3 hcz4 hfz0 hfz1 hfz2 hfz3 hfz4; have HI := n0_; have HB := n1_; have HK := n2_; have BK := n3_; clear n0_ n1_ n2_ n3_; have hcz4 : w4.cell? ⟨gb, 4, none⟩ = some (.slice A L c) := (blk_cell BK.out 4).trans rfl; have hfz4 := blk_frozen BK.out 4
  go_wp2
  go_loopw [40] (fun v40 wr => ERel d l (b, m) g w0 w v40 wr) (fun v40 _ => l.length - (intOf v40).toNat)
  case atStart => exact ⟨0, n + 1, rfl, Int.le_refl _, by omega, by omega, q, HR, HI, HB, HK⟩
  case round =>
    unfold ERel at hrel; clear HR HI HB HK; obtain ⟨i, j, rfl, hi0, hi1, hj0, hj1, HR, HI, HB, HK⟩ := hrel; by_cases hlt : i < (L : Int)
    · have hlt' : i < (l.length : Int) := by rw [HL.out]; exact hlt
      have hb0 : decide (i < (L : Int)) = true := decide_eq_true hlt; have hdr := drop_rd38 l i hi0 hlt'; have HR0 := HR.out; rw [hdr] at HR0; unfold goE at HR0; obtain ⟨ad, A4, c4, eA, hx0, hx1, hx2, hx3, hx4, hl4, hi4⟩ := at_T38 HC.out i hi0 hlt'; subst eA; replace hx0 := (HB.out.cell (World.block_lt_of_cell? w0 _ hx0)).trans hx0; replace hx1 := (HB.out.cell (World.block_lt_of_cell? w0 _ hx1)).trans hx1; replace hx2 := (HB.out.cell (World.block_lt_of_cell? w0 _ hx2)).trans hx2; replace hx3 := (HB.out.cell (World.block_lt_of_cell? w0 _ hx3)).trans hx3; replace hx4 := (HB.out.cell (World.block_lt_of_cell? w0 _ hx4)).trans hx4; have HC4 := A_0 hi4; have HL4 := A_0 hl4; have p1 := eq_true hi0; have p2 := eq_true hlt; obtain ⟨b1, m1, hr1⟩ : ∃ b1 m1, cE d j (rd_T38 l i) = (b1, m1) := ⟨_, _, rfl⟩; have hin := cE_in d j (rd_T38 l i) hj0 hj1; rw [hr1] at HR0 hin; have HR1 := A_0 (show cE d j ⟨(rd_T38 l i).f0, (rd_T38 l i).f1, (rd_T38 l i).f2, (rd_T38 l i).f3, (rd_T38 l i).f4⟩ = (b1, m1) from by rw [eta38]; exact hr1)
      have HIN := A_0 hin; clear hdr hr1 hi4 hl4 hin HR; cases b1 with
      | true =>
        have HR := A_0 (show goE (cE d) m1 (l.drop (i + 1).toNat) = (b, m) from HR0); clear HR0
        go_wp2_with fail
        (with_reducible refine (IH.out.use (rd_T38 l i).f0 (rd_T38 l i).f1 (rd_T38 l i).f2 (rd_T38 l i).f3 (rd_T38 l i).f4 A4 c4 j true m1 g w0 _ HC4.out HL4.out hj0 hj1 (z_195) (z_16) HR1.out _ HD.out).mono ?_)
        rintro e w5 ⟨rfl, hi5, hb5, hk5⟩; have n0_ := A_0 hi5; have n1_ := A_0 hb5; have n2_ := A_0 (KeepBut.trans (show KeepBut w _ g none from z_196) hk5 (.inl rfl)); clear HI HB HK hi5 hb5 hk5; have HI := n0_; have HB := n1_; have HK := n2_; clear n0_ n1_ n2_
        go_wp2
        go_roundw
        case rel => exact ⟨i + 1, m1, rfl, by omega, by omega, HIN.out.1, HIN.out.2.2 rfl, HR, ⟨z_195⟩, ⟨z_16⟩, ⟨z_196⟩⟩
        case measure => simp [intOf]; omega
      | false =>
        have HE := A_0 (show (false, m1) = (b, m) from HR0); clear HR0
        go_wp2_with fail
        (with_reducible refine (IH.out.use (rd_T38 l i).f0 (rd_T38 l i).f1 (rd_T38 l i).f2 (rd_T38 l i).f3 (rd_T38 l i).f4 A4 c4 j false m1 g w0 _ HC4.out HL4.out hj0 hj1 (z_195) (z_16) HR1.out _ HD.out).mono ?_)
        rintro e w5 ⟨rfl, hi5, hb5, hk5⟩; have n0_ := A_0 hi5; have n1_ := A_0 hb5; have n2_ := A_0 (KeepBut.trans (show KeepBut w _ g none from z_196) hk5 (.inl rfl)); clear HI HB HK hi5 hb5 hk5; have HI := n0_; have HB := n1_; have HK := n2_; clear n0_ n1_ n2_
        go_wp2
        go_ret
        have he := HE.out; injection he with he1 he2; subst he1 he2; exact z_193
    · have hb0 : decide (i < (L : Int)) = false := decide_eq_false hlt
      have he : goE (cE d) j (l.drop i.toNat) = (true, j) := by
        rw [List.drop_eq_nil_of_le (by have := HL.out; omega)]
        rfl
      have HE := A_0 (he.symm.trans HR.out); clear he HR
      go_wp2
      go_ret
      have he := HE.out; injection he with he1 he2; subst he1 he2; exact z_193
set_option maxHeartbeats 8000000 in
set_option maxRecDepth 100000 in
theorem expr_len3 (d : Nat) (hd : d ≤ 48) (a1 : Int) (a2 : ByteArray) (a3 : Int) (l : List S38) (L : Nat) (A : Option Addr) (c : Nat) (n : Int) (g : Nat) (w0 w : World) (h0 : 0 ≤ n) (h1 : n ≤ 600) (hI : IsS95 w0 w g n) (hB : Below w0.heap.size w0 w) (deep : Int) (hdeep : deep + 1 = 49 - (d : Int)) (q : n + 1 ≤ 600) (hL : L ≠ 1) : Calls Try.prog 120 #[.pointer (some ⟨g, 0, none⟩), .agg #[.int .i64 3, .int .i64 a1, .string a2, .int .i64 a3, .slice A L c], .int .i64 deep] w (CPost false (n + 1) g w0 w) := by
  have hu38 := Try.underlying38; have HI := A_0 hI; have HB := A_0 hB; have HK := A_0 (KeepBut.refl w g none); have hdp : decide (48 < deep) = false := decide_eq_false (by omega); have hdlo : 0 ≤ deep := by omega
  have hdhi : deep ≤ 48 := by omega
  have HD := A_0 hdeep; clear hI hB hdeep; have H1 := A_0 (one_t n h0 q); have e1 : ((L : Int) == 1) = false := beq_eq_false_iff_ne.2 (by omega); have e2 : ((L : Int) != 1) = true := bne_iff_ne.2 (by omega)
  go_enter Try.func120, Try.ntmps120
  go_wp2_with (first | ((with_reducible refine gate_dst (N := 4) rfl ?_); refine box_event ?hg (N := 4) ?hd (cs := #[.int .i64 3, .int .i64 a1, .string a2, .int .i64 a3, .slice A L c]) (t := 38) ?hr ?_; (case hd => rfl); (case hg => rfl); (case hr => first | (go_simp; done) | (go_simp; rfl)); intro gb hg w2 hbox hb; have n0_ := A_0 (below_step HB.out hb); have n1_ := A_0 (IsS95.below HI.out hb); have n2_ := A_0 ((HK.out).trans (KeepBut.of_below hb g none) (.inl rfl)); have n3_ := A_0 hbox; have n4_ := A_0 (show gb ≠ g by have := IsS95.fresh HI.out gb (Nat.le_of_eq hg.symm); exact this); have n5_ := A_0 (show w.heap.size ≤ gb by rw [hg]; exact Nat.le_refl _); clear HB HI HK hb hbox hg; have HB := n0_; have HI := n1_; have HK := n2_; have BK := n3_; have GN := n4_; have GE := n5_; clear n0_ n1_ n2_ n3_ n4_ n5_))
  (with_reducible refine (tree_counter_one.calls g n _ _ w0 _ HI.out HB.out H1.out).mono ?_)
  rintro e w3 ⟨rfl, hi3, hb3, hk3⟩; have n0_ := A_0 hi3; have n1_ := A_0 hb3; have n2_ := A_0 (HK.out.trans hk3 (.inl rfl)); have n3_ := A_0 (KeepBut.blk hk3 BK.out GN.out (by simp)); clear HI HB HK BK hi3 hb3 hk3; have HI := n0_; have HB := n1_; have HK := n2_; have BK := n3_; clear n0_ n1_ n2_ n3_; obtain ⟨hcz0, hcz1, hcz2, hcz3, hcz4⟩ := blkc5 BK.out; obtain ⟨hfz0, hfz1, hfz2, hfz3, hfz4⟩ := blkf5 BK.out
  go_wp2
  go_ret
  exact z_193
set_option maxHeartbeats 8000000 in
set_option maxRecDepth 100000 in
theorem expr_fld3 (d : Nat) (hd : d ≤ 48) (a1 : Int) (a2 : ByteArray) (a3 : Int) (l : List S38) (L : Nat) (A : Option Addr) (c : Nat) (n : Int) (g : Nat) (w0 w : World) (hL : l.length = L) (hC : Kd.C k38 w0 A l.length l) (hc : L ≤ c) (h0 : 0 ≤ n) (h1 : n ≤ 600) (hI : IsS95 w0 w g n) (hB : Below w0.heap.size w0 w) (deep : Int) (hdeep : deep + 1 = 49 - (d : Int)) (q : n + 1 ≤ 600) (hW : L = 1) (hf : fieldsB 3 a1 a2 a3 = false) : Calls Try.prog 120 #[.pointer (some ⟨g, 0, none⟩), .agg #[.int .i64 3, .int .i64 a1, .string a2, .int .i64 a3, .slice A L c], .int .i64 deep] w (CPost false (n + 1) g w0 w) := by
  have hu38 := Try.underlying38; have HI := A_0 hI; have HB := A_0 hB; have HK := A_0 (KeepBut.refl w g none); have hdp : decide (48 < deep) = false := decide_eq_false (by omega); have hdlo : 0 ≤ deep := by omega
  have hdhi : deep ≤ 48 := by omega
  have HD := A_0 hdeep; clear hI hB hdeep; have H1 := A_0 (one_t n h0 q); have hLs : (L : Int) ≤ 2 := by omega
  have e1 : ((L : Int) == 1) = true := beq_iff_eq.2 (by omega); have e2 : ((L : Int) != 1) = false := bne_eq_false_iff_eq.2 (by omega); have HL := A_0 hL; have HC := A_0 hC; have HCC := A_0 hc; have HF := A_0 hf; clear hW hL hC hc hf
  go_enter Try.func120, Try.ntmps120
  go_wp2_with (first | ((with_reducible refine gate_dst (N := 4) rfl ?_); refine box_event ?hg (N := 4) ?hd (cs := #[.int .i64 3, .int .i64 a1, .string a2, .int .i64 a3, .slice A L c]) (t := 38) ?hr ?_; (case hd => rfl); (case hg => rfl); (case hr => first | (go_simp; done) | (go_simp; rfl)); intro gb hg w2 hbox hb; have n0_ := A_0 (below_step HB.out hb); have n1_ := A_0 (IsS95.below HI.out hb); have n2_ := A_0 ((HK.out).trans (KeepBut.of_below hb g none) (.inl rfl)); have n3_ := A_0 hbox; have n4_ := A_0 (show gb ≠ g by have := IsS95.fresh HI.out gb (Nat.le_of_eq hg.symm); exact this); have n5_ := A_0 (show w.heap.size ≤ gb by rw [hg]; exact Nat.le_refl _); clear HB HI HK hb hbox hg; have HB := n0_; have HI := n1_; have HK := n2_; have BK := n3_; have GN := n4_; have GE := n5_; clear n0_ n1_ n2_ n3_ n4_ n5_))
  (with_reducible refine (tree_counter_one.calls g n _ _ w0 _ HI.out HB.out H1.out).mono ?_)
  rintro e w3 ⟨rfl, hi3, hb3, hk3⟩; have n0_ := A_0 hi3; have n1_ := A_0 hb3; have n2_ := A_0 (HK.out.trans hk3 (.inl rfl)); have n3_ := A_0 (KeepBut.blk hk3 BK.out GN.out (by simp)); clear HI HB HK BK hi3 hb3 hk3; have HI := n0_; have HB := n1_; have HK := n2_; have BK := n3_; clear n0_ n1_ n2_ n3_; obtain ⟨hcz0, hcz1, hcz2, hcz3, hcz4⟩ := blkc5 BK.out; obtain ⟨hfz0, hfz1, hfz2, hfz3, hfz4⟩ := blkf5 BK.out
  go_wp2_with fail
  (with_reducible refine (fields_L 3 a1 a2 a3 l L A c _ HL.out (z_194) HCC.out false HF.out).mono ?_)
  rintro e w4 ⟨rfl, hb4⟩; have n0_ := A_0 (IsS95.below (z_195) hb4); have n1_ := A_0 (below_step (z_16) hb4); have n2_ := A_0 (HK.out.trans (KeepBut.of_below hb4 g none) (.inl rfl)); have n3_ := A_0 (blk_below BK.out hb4); clear HI HB HK BK hb4 hcz0 hcz1 hcz2 hcz3 hcz4 hfz0 hfz1 hfz2 hfz3 hfz4; have HI := n0_; have HB := n1_; have HK := n2_; have BK := n3_; clear n0_ n1_ n2_ n3_; have hcz4 : w4.cell? ⟨gb, 4, none⟩ = some (.slice A L c) := (blk_cell BK.out 4).trans rfl; have hfz4 := blk_frozen BK.out 4
  go_wp2
  go_ret
  exact z_193
set_option maxHeartbeats 8000000 in
set_option maxRecDepth 100000 in
theorem expr_go3 (d : Nat) (hd : d ≤ 48) (a1 : Int) (a2 : ByteArray) (a3 : Int) (l : List S38) (L : Nat) (A : Option Addr) (c : Nat) (n : Int) (g : Nat) (w0 w : World) (hL : l.length = L) (hC : Kd.C k38 w0 A l.length l) (hc : L ≤ c) (h0 : 0 ≤ n) (h1 : n ≤ 600) (hI : IsS95 w0 w g n) (hB : Below w0.heap.size w0 w) (deep : Int) (hdeep : deep + 1 = 49 - (d : Int)) (IH0 : ExprC d) (b : Bool) (m : Int) (q : n + 1 ≤ 600) (hW : L = 1) (hf : fieldsB 3 a1 a2 a3 = true) (hr : goE (cE d) (n + 1) l = (b, m)) : Calls Try.prog 120 #[.pointer (some ⟨g, 0, none⟩), .agg #[.int .i64 3, .int .i64 a1, .string a2, .int .i64 a3, .slice A L c], .int .i64 deep] w (CPost b m g w0 w) := by
  have hu38 := Try.underlying38; have HI := A_0 hI; have HB := A_0 hB; have HK := A_0 (KeepBut.refl w g none); have hdp : decide (48 < deep) = false := decide_eq_false (by omega); have hdlo : 0 ≤ deep := by omega
  have hdhi : deep ≤ 48 := by omega
  have HD := A_0 hdeep; clear hI hB hdeep; have H1 := A_0 (one_t n h0 q); have hLs : (L : Int) ≤ 2 := by omega
  have e1 : ((L : Int) == 1) = true := beq_iff_eq.2 (by omega); have e2 : ((L : Int) != 1) = false := bne_eq_false_iff_eq.2 (by omega); have HL := A_0 hL; have HC := A_0 hC; have HCC := A_0 hc; have HF := A_0 hf; clear hW hL hC hc hf; have HR := A_0 hr; have IH := A_0 IH0; clear hr IH0
  go_enter Try.func120, Try.ntmps120
  go_wp2_with (first | ((with_reducible refine gate_dst (N := 4) rfl ?_); refine box_event ?hg (N := 4) ?hd (cs := #[.int .i64 3, .int .i64 a1, .string a2, .int .i64 a3, .slice A L c]) (t := 38) ?hr ?_; (case hd => rfl); (case hg => rfl); (case hr => first | (go_simp; done) | (go_simp; rfl)); intro gb hg w2 hbox hb; have n0_ := A_0 (below_step HB.out hb); have n1_ := A_0 (IsS95.below HI.out hb); have n2_ := A_0 ((HK.out).trans (KeepBut.of_below hb g none) (.inl rfl)); have n3_ := A_0 hbox; have n4_ := A_0 (show gb ≠ g by have := IsS95.fresh HI.out gb (Nat.le_of_eq hg.symm); exact this); have n5_ := A_0 (show w.heap.size ≤ gb by rw [hg]; exact Nat.le_refl _); clear HB HI HK hb hbox hg; have HB := n0_; have HI := n1_; have HK := n2_; have BK := n3_; have GN := n4_; have GE := n5_; clear n0_ n1_ n2_ n3_ n4_ n5_))
  (with_reducible refine (tree_counter_one.calls g n _ _ w0 _ HI.out HB.out H1.out).mono ?_)
  rintro e w3 ⟨rfl, hi3, hb3, hk3⟩; have n0_ := A_0 hi3; have n1_ := A_0 hb3; have n2_ := A_0 (HK.out.trans hk3 (.inl rfl)); have n3_ := A_0 (KeepBut.blk hk3 BK.out GN.out (by simp)); clear HI HB HK BK hi3 hb3 hk3; have HI := n0_; have HB := n1_; have HK := n2_; have BK := n3_; clear n0_ n1_ n2_ n3_; obtain ⟨hcz0, hcz1, hcz2, hcz3, hcz4⟩ := blkc5 BK.out; obtain ⟨hfz0, hfz1, hfz2, hfz3, hfz4⟩ := blkf5 BK.out
  go_wp2_with fail
  (with_reducible refine (fields_L 3 a1 a2 a3 l L A c _ HL.out (z_194) HCC.out true HF.out).mono ?_)
  rintro e w4 ⟨rfl, hb4⟩; have n0_ := A_0 (IsS95.below (z_195) hb4); have n1_ := A_0 (below_step (z_16) hb4); have n2_ := A_0 (HK.out.trans (KeepBut.of_below hb4 g none) (.inl rfl)); have n3_ := A_0 (blk_below BK.out hb4); clear HI HB HK BK hb4 hcz0 hcz1 hcz2 hcz3 hcz4 hfz0 hfz1 hfz2 hfz3 hfz4; have HI := n0_; have HB := n1_; have HK := n2_; have BK := n3_; clear n0_ n1_ n2_ n3_; have hcz4 : w4.cell? ⟨gb, 4, none⟩ = some (.slice A L c) := (blk_cell BK.out 4).trans rfl; have hfz4 := blk_frozen BK.out 4
  go_wp2
  go_loopw [40] (fun v40 wr => ERel d l (b, m) g w0 w v40 wr) (fun v40 _ => l.length - (intOf v40).toNat)
  case atStart => exact ⟨0, n + 1, rfl, Int.le_refl _, by omega, by omega, q, HR, HI, HB, HK⟩
  case round =>
    unfold ERel at hrel; clear HR HI HB HK; obtain ⟨i, j, rfl, hi0, hi1, hj0, hj1, HR, HI, HB, HK⟩ := hrel; by_cases hlt : i < (L : Int)
    · have hlt' : i < (l.length : Int) := by rw [HL.out]; exact hlt
      have hb0 : decide (i < (L : Int)) = true := decide_eq_true hlt; have hdr := drop_rd38 l i hi0 hlt'; have HR0 := HR.out; rw [hdr] at HR0; unfold goE at HR0; obtain ⟨ad, A4, c4, eA, hx0, hx1, hx2, hx3, hx4, hl4, hi4⟩ := at_T38 HC.out i hi0 hlt'; subst eA; replace hx0 := (HB.out.cell (World.block_lt_of_cell? w0 _ hx0)).trans hx0; replace hx1 := (HB.out.cell (World.block_lt_of_cell? w0 _ hx1)).trans hx1; replace hx2 := (HB.out.cell (World.block_lt_of_cell? w0 _ hx2)).trans hx2; replace hx3 := (HB.out.cell (World.block_lt_of_cell? w0 _ hx3)).trans hx3; replace hx4 := (HB.out.cell (World.block_lt_of_cell? w0 _ hx4)).trans hx4; have HC4 := A_0 hi4; have HL4 := A_0 hl4; have p1 := eq_true hi0; have p2 := eq_true hlt; obtain ⟨b1, m1, hr1⟩ : ∃ b1 m1, cE d j (rd_T38 l i) = (b1, m1) := ⟨_, _, rfl⟩; have hin := cE_in d j (rd_T38 l i) hj0 hj1; rw [hr1] at HR0 hin; have HR1 := A_0 (show cE d j ⟨(rd_T38 l i).f0, (rd_T38 l i).f1, (rd_T38 l i).f2, (rd_T38 l i).f3, (rd_T38 l i).f4⟩ = (b1, m1) from by rw [eta38]; exact hr1)
      have HIN := A_0 hin; clear hdr hr1 hi4 hl4 hin HR; cases b1 with
      | true =>
        have HR := A_0 (show goE (cE d) m1 (l.drop (i + 1).toNat) = (b, m) from HR0); clear HR0
        go_wp2_with fail
        (with_reducible refine (IH.out.use (rd_T38 l i).f0 (rd_T38 l i).f1 (rd_T38 l i).f2 (rd_T38 l i).f3 (rd_T38 l i).f4 A4 c4 j true m1 g w0 _ HC4.out HL4.out hj0 hj1 (z_195) (z_16) HR1.out _ HD.out).mono ?_)
        rintro e w5 ⟨rfl, hi5, hb5, hk5⟩; have n0_ := A_0 hi5; have n1_ := A_0 hb5; have n2_ := A_0 (KeepBut.trans (show KeepBut w _ g none from z_196) hk5 (.inl rfl)); clear HI HB HK hi5 hb5 hk5; have HI := n0_; have HB := n1_; have HK := n2_; clear n0_ n1_ n2_
        go_wp2
        go_roundw
        case rel => exact ⟨i + 1, m1, rfl, by omega, by omega, HIN.out.1, HIN.out.2.2 rfl, HR, ⟨z_195⟩, ⟨z_16⟩, ⟨z_196⟩⟩
        case measure => simp [intOf]; omega
      | false =>
        have HE := A_0 (show (false, m1) = (b, m) from HR0); clear HR0
        go_wp2_with fail
        (with_reducible refine (IH.out.use (rd_T38 l i).f0 (rd_T38 l i).f1 (rd_T38 l i).f2 (rd_T38 l i).f3 (rd_T38 l i).f4 A4 c4 j false m1 g w0 _ HC4.out HL4.out hj0 hj1 (z_195) (z_16) HR1.out _ HD.out).mono ?_)
        rintro e w5 ⟨rfl, hi5, hb5, hk5⟩; have n0_ := A_0 hi5; have n1_ := A_0 hb5; have n2_ := A_0 (KeepBut.trans (show KeepBut w _ g none from z_196) hk5 (.inl rfl)); clear HI HB HK hi5 hb5 hk5; have HI := n0_; have HB := n1_; have HK := n2_; clear n0_ n1_ n2_
        go_wp2
        go_ret
        have he := HE.out; injection he with he1 he2; subst he1 he2; exact z_193
    · have hb0 : decide (i < (L : Int)) = false := decide_eq_false hlt
      have he : goE (cE d) j (l.drop i.toNat) = (true, j) := by
        rw [List.drop_eq_nil_of_le (by have := HL.out; omega)]
        rfl
      have HE := A_0 (he.symm.trans HR.out); clear he HR
      go_wp2
      go_ret
      have he := HE.out; injection he with he1 he2; subst he1 he2; exact z_193
set_option maxHeartbeats 8000000 in
set_option maxRecDepth 100000 in
theorem expr_len4 (d : Nat) (hd : d ≤ 48) (a1 : Int) (a2 : ByteArray) (a3 : Int) (l : List S38) (L : Nat) (A : Option Addr) (c : Nat) (n : Int) (g : Nat) (w0 w : World) (h0 : 0 ≤ n) (h1 : n ≤ 600) (hI : IsS95 w0 w g n) (hB : Below w0.heap.size w0 w) (deep : Int) (hdeep : deep + 1 = 49 - (d : Int)) (q : n + 1 ≤ 600) (hL : L ≠ 1) : Calls Try.prog 120 #[.pointer (some ⟨g, 0, none⟩), .agg #[.int .i64 4, .int .i64 a1, .string a2, .int .i64 a3, .slice A L c], .int .i64 deep] w (CPost false (n + 1) g w0 w) := by
  have hu38 := Try.underlying38; have HI := A_0 hI; have HB := A_0 hB; have HK := A_0 (KeepBut.refl w g none); have hdp : decide (48 < deep) = false := decide_eq_false (by omega); have hdlo : 0 ≤ deep := by omega
  have hdhi : deep ≤ 48 := by omega
  have HD := A_0 hdeep; clear hI hB hdeep; have H1 := A_0 (one_t n h0 q); have e1 : ((L : Int) == 1) = false := beq_eq_false_iff_ne.2 (by omega); have e2 : ((L : Int) != 1) = true := bne_iff_ne.2 (by omega)
  go_enter Try.func120, Try.ntmps120
  go_wp2_with (first | ((with_reducible refine gate_dst (N := 4) rfl ?_); refine box_event ?hg (N := 4) ?hd (cs := #[.int .i64 4, .int .i64 a1, .string a2, .int .i64 a3, .slice A L c]) (t := 38) ?hr ?_; (case hd => rfl); (case hg => rfl); (case hr => first | (go_simp; done) | (go_simp; rfl)); intro gb hg w2 hbox hb; have n0_ := A_0 (below_step HB.out hb); have n1_ := A_0 (IsS95.below HI.out hb); have n2_ := A_0 ((HK.out).trans (KeepBut.of_below hb g none) (.inl rfl)); have n3_ := A_0 hbox; have n4_ := A_0 (show gb ≠ g by have := IsS95.fresh HI.out gb (Nat.le_of_eq hg.symm); exact this); have n5_ := A_0 (show w.heap.size ≤ gb by rw [hg]; exact Nat.le_refl _); clear HB HI HK hb hbox hg; have HB := n0_; have HI := n1_; have HK := n2_; have BK := n3_; have GN := n4_; have GE := n5_; clear n0_ n1_ n2_ n3_ n4_ n5_))
  (with_reducible refine (tree_counter_one.calls g n _ _ w0 _ HI.out HB.out H1.out).mono ?_)
  rintro e w3 ⟨rfl, hi3, hb3, hk3⟩; have n0_ := A_0 hi3; have n1_ := A_0 hb3; have n2_ := A_0 (HK.out.trans hk3 (.inl rfl)); have n3_ := A_0 (KeepBut.blk hk3 BK.out GN.out (by simp)); clear HI HB HK BK hi3 hb3 hk3; have HI := n0_; have HB := n1_; have HK := n2_; have BK := n3_; clear n0_ n1_ n2_ n3_; obtain ⟨hcz0, hcz1, hcz2, hcz3, hcz4⟩ := blkc5 BK.out; obtain ⟨hfz0, hfz1, hfz2, hfz3, hfz4⟩ := blkf5 BK.out
  go_wp2
  go_ret
  exact z_193
set_option maxHeartbeats 8000000 in
set_option maxRecDepth 100000 in
theorem expr_fld4 (d : Nat) (hd : d ≤ 48) (a1 : Int) (a2 : ByteArray) (a3 : Int) (l : List S38) (L : Nat) (A : Option Addr) (c : Nat) (n : Int) (g : Nat) (w0 w : World) (hL : l.length = L) (hC : Kd.C k38 w0 A l.length l) (hc : L ≤ c) (h0 : 0 ≤ n) (h1 : n ≤ 600) (hI : IsS95 w0 w g n) (hB : Below w0.heap.size w0 w) (deep : Int) (hdeep : deep + 1 = 49 - (d : Int)) (q : n + 1 ≤ 600) (hW : L = 1) (hf : fieldsB 4 a1 a2 a3 = false) : Calls Try.prog 120 #[.pointer (some ⟨g, 0, none⟩), .agg #[.int .i64 4, .int .i64 a1, .string a2, .int .i64 a3, .slice A L c], .int .i64 deep] w (CPost false (n + 1) g w0 w) := by
  have hu38 := Try.underlying38; have HI := A_0 hI; have HB := A_0 hB; have HK := A_0 (KeepBut.refl w g none); have hdp : decide (48 < deep) = false := decide_eq_false (by omega); have hdlo : 0 ≤ deep := by omega
  have hdhi : deep ≤ 48 := by omega
  have HD := A_0 hdeep; clear hI hB hdeep; have H1 := A_0 (one_t n h0 q); have hLs : (L : Int) ≤ 2 := by omega
  have e1 : ((L : Int) == 1) = true := beq_iff_eq.2 (by omega); have e2 : ((L : Int) != 1) = false := bne_eq_false_iff_eq.2 (by omega); have HL := A_0 hL; have HC := A_0 hC; have HCC := A_0 hc; have HF := A_0 hf; clear hW hL hC hc hf
  go_enter Try.func120, Try.ntmps120
  go_wp2_with (first | ((with_reducible refine gate_dst (N := 4) rfl ?_); refine box_event ?hg (N := 4) ?hd (cs := #[.int .i64 4, .int .i64 a1, .string a2, .int .i64 a3, .slice A L c]) (t := 38) ?hr ?_; (case hd => rfl); (case hg => rfl); (case hr => first | (go_simp; done) | (go_simp; rfl)); intro gb hg w2 hbox hb; have n0_ := A_0 (below_step HB.out hb); have n1_ := A_0 (IsS95.below HI.out hb); have n2_ := A_0 ((HK.out).trans (KeepBut.of_below hb g none) (.inl rfl)); have n3_ := A_0 hbox; have n4_ := A_0 (show gb ≠ g by have := IsS95.fresh HI.out gb (Nat.le_of_eq hg.symm); exact this); have n5_ := A_0 (show w.heap.size ≤ gb by rw [hg]; exact Nat.le_refl _); clear HB HI HK hb hbox hg; have HB := n0_; have HI := n1_; have HK := n2_; have BK := n3_; have GN := n4_; have GE := n5_; clear n0_ n1_ n2_ n3_ n4_ n5_))
  (with_reducible refine (tree_counter_one.calls g n _ _ w0 _ HI.out HB.out H1.out).mono ?_)
  rintro e w3 ⟨rfl, hi3, hb3, hk3⟩; have n0_ := A_0 hi3; have n1_ := A_0 hb3; have n2_ := A_0 (HK.out.trans hk3 (.inl rfl)); have n3_ := A_0 (KeepBut.blk hk3 BK.out GN.out (by simp)); clear HI HB HK BK hi3 hb3 hk3; have HI := n0_; have HB := n1_; have HK := n2_; have BK := n3_; clear n0_ n1_ n2_ n3_; obtain ⟨hcz0, hcz1, hcz2, hcz3, hcz4⟩ := blkc5 BK.out; obtain ⟨hfz0, hfz1, hfz2, hfz3, hfz4⟩ := blkf5 BK.out
  go_wp2_with fail
  (with_reducible refine (fields_L 4 a1 a2 a3 l L A c _ HL.out (z_194) HCC.out false HF.out).mono ?_)
  rintro e w4 ⟨rfl, hb4⟩; have n0_ := A_0 (IsS95.below (z_195) hb4); have n1_ := A_0 (below_step (z_16) hb4); have n2_ := A_0 (HK.out.trans (KeepBut.of_below hb4 g none) (.inl rfl)); have n3_ := A_0 (blk_below BK.out hb4); clear HI HB HK BK hb4 hcz0 hcz1 hcz2 hcz3 hcz4 hfz0 hfz1 hfz2 hfz3 hfz4; have HI := n0_; have HB := n1_; have HK := n2_; have BK := n3_; clear n0_ n1_ n2_ n3_; have hcz4 : w4.cell? ⟨gb, 4, none⟩ = some (.slice A L c) := (blk_cell BK.out 4).trans rfl; have hfz4 := blk_frozen BK.out 4
  go_wp2
  go_ret
  exact z_193
set_option maxHeartbeats 8000000 in
set_option maxRecDepth 100000 in
theorem expr_go4 (d : Nat) (hd : d ≤ 48) (a1 : Int) (a2 : ByteArray) (a3 : Int) (l : List S38) (L : Nat) (A : Option Addr) (c : Nat) (n : Int) (g : Nat) (w0 w : World) (hL : l.length = L) (hC : Kd.C k38 w0 A l.length l) (hc : L ≤ c) (h0 : 0 ≤ n) (h1 : n ≤ 600) (hI : IsS95 w0 w g n) (hB : Below w0.heap.size w0 w) (deep : Int) (hdeep : deep + 1 = 49 - (d : Int)) (IH0 : ExprC d) (b : Bool) (m : Int) (q : n + 1 ≤ 600) (hW : L = 1) (hf : fieldsB 4 a1 a2 a3 = true) (hr : goE (cE d) (n + 1) l = (b, m)) : Calls Try.prog 120 #[.pointer (some ⟨g, 0, none⟩), .agg #[.int .i64 4, .int .i64 a1, .string a2, .int .i64 a3, .slice A L c], .int .i64 deep] w (CPost b m g w0 w) := by
  have hu38 := Try.underlying38; have HI := A_0 hI; have HB := A_0 hB; have HK := A_0 (KeepBut.refl w g none); have hdp : decide (48 < deep) = false := decide_eq_false (by omega); have hdlo : 0 ≤ deep := by omega
  have hdhi : deep ≤ 48 := by omega
  have HD := A_0 hdeep; clear hI hB hdeep; have H1 := A_0 (one_t n h0 q); have hLs : (L : Int) ≤ 2 := by omega
  have e1 : ((L : Int) == 1) = true := beq_iff_eq.2 (by omega); have e2 : ((L : Int) != 1) = false := bne_eq_false_iff_eq.2 (by omega); have HL := A_0 hL; have HC := A_0 hC; have HCC := A_0 hc; have HF := A_0 hf; clear hW hL hC hc hf; have HR := A_0 hr; have IH := A_0 IH0; clear hr IH0
  go_enter Try.func120, Try.ntmps120
  go_wp2_with (first | ((with_reducible refine gate_dst (N := 4) rfl ?_); refine box_event ?hg (N := 4) ?hd (cs := #[.int .i64 4, .int .i64 a1, .string a2, .int .i64 a3, .slice A L c]) (t := 38) ?hr ?_; (case hd => rfl); (case hg => rfl); (case hr => first | (go_simp; done) | (go_simp; rfl)); intro gb hg w2 hbox hb; have n0_ := A_0 (below_step HB.out hb); have n1_ := A_0 (IsS95.below HI.out hb); have n2_ := A_0 ((HK.out).trans (KeepBut.of_below hb g none) (.inl rfl)); have n3_ := A_0 hbox; have n4_ := A_0 (show gb ≠ g by have := IsS95.fresh HI.out gb (Nat.le_of_eq hg.symm); exact this); have n5_ := A_0 (show w.heap.size ≤ gb by rw [hg]; exact Nat.le_refl _); clear HB HI HK hb hbox hg; have HB := n0_; have HI := n1_; have HK := n2_; have BK := n3_; have GN := n4_; have GE := n5_; clear n0_ n1_ n2_ n3_ n4_ n5_))
  (with_reducible refine (tree_counter_one.calls g n _ _ w0 _ HI.out HB.out H1.out).mono ?_)
  rintro e w3 ⟨rfl, hi3, hb3, hk3⟩; have n0_ := A_0 hi3; have n1_ := A_0 hb3; have n2_ := A_0 (HK.out.trans hk3 (.inl rfl)); have n3_ := A_0 (KeepBut.blk hk3 BK.out GN.out (by simp)); clear HI HB HK BK hi3 hb3 hk3; have HI := n0_; have HB := n1_; have HK := n2_; have BK := n3_; clear n0_ n1_ n2_ n3_; obtain ⟨hcz0, hcz1, hcz2, hcz3, hcz4⟩ := blkc5 BK.out; obtain ⟨hfz0, hfz1, hfz2, hfz3, hfz4⟩ := blkf5 BK.out
  go_wp2_with fail
  (with_reducible refine (fields_L 4 a1 a2 a3 l L A c _ HL.out (z_194) HCC.out true HF.out).mono ?_)
  rintro e w4 ⟨rfl, hb4⟩; have n0_ := A_0 (IsS95.below (z_195) hb4); have n1_ := A_0 (below_step (z_16) hb4); have n2_ := A_0 (HK.out.trans (KeepBut.of_below hb4 g none) (.inl rfl)); have n3_ := A_0 (blk_below BK.out hb4); clear HI HB HK BK hb4 hcz0 hcz1 hcz2 hcz3 hcz4 hfz0 hfz1 hfz2 hfz3 hfz4; have HI := n0_; have HB := n1_; have HK := n2_; have BK := n3_; clear n0_ n1_ n2_ n3_; have hcz4 : w4.cell? ⟨gb, 4, none⟩ = some (.slice A L c) := (blk_cell BK.out 4).trans rfl; have hfz4 := blk_frozen BK.out 4
  go_wp2
  go_loopw [40] (fun v40 wr => ERel d l (b, m) g w0 w v40 wr) (fun v40 _ => l.length - (intOf v40).toNat)
  case atStart => exact ⟨0, n + 1, rfl, Int.le_refl _, by omega, by omega, q, HR, HI, HB, HK⟩
  case round =>
    unfold ERel at hrel; clear HR HI HB HK; obtain ⟨i, j, rfl, hi0, hi1, hj0, hj1, HR, HI, HB, HK⟩ := hrel; by_cases hlt : i < (L : Int)
    · have hlt' : i < (l.length : Int) := by rw [HL.out]; exact hlt
      have hb0 : decide (i < (L : Int)) = true := decide_eq_true hlt; have hdr := drop_rd38 l i hi0 hlt'; have HR0 := HR.out; rw [hdr] at HR0; unfold goE at HR0; obtain ⟨ad, A4, c4, eA, hx0, hx1, hx2, hx3, hx4, hl4, hi4⟩ := at_T38 HC.out i hi0 hlt'; subst eA; replace hx0 := (HB.out.cell (World.block_lt_of_cell? w0 _ hx0)).trans hx0; replace hx1 := (HB.out.cell (World.block_lt_of_cell? w0 _ hx1)).trans hx1; replace hx2 := (HB.out.cell (World.block_lt_of_cell? w0 _ hx2)).trans hx2; replace hx3 := (HB.out.cell (World.block_lt_of_cell? w0 _ hx3)).trans hx3; replace hx4 := (HB.out.cell (World.block_lt_of_cell? w0 _ hx4)).trans hx4; have HC4 := A_0 hi4; have HL4 := A_0 hl4; have p1 := eq_true hi0; have p2 := eq_true hlt; obtain ⟨b1, m1, hr1⟩ : ∃ b1 m1, cE d j (rd_T38 l i) = (b1, m1) := ⟨_, _, rfl⟩; have hin := cE_in d j (rd_T38 l i) hj0 hj1; rw [hr1] at HR0 hin; have HR1 := A_0 (show cE d j ⟨(rd_T38 l i).f0, (rd_T38 l i).f1, (rd_T38 l i).f2, (rd_T38 l i).f3, (rd_T38 l i).f4⟩ = (b1, m1) from by rw [eta38]; exact hr1)
      have HIN := A_0 hin; clear hdr hr1 hi4 hl4 hin HR; cases b1 with
      | true =>
        have HR := A_0 (show goE (cE d) m1 (l.drop (i + 1).toNat) = (b, m) from HR0); clear HR0
        go_wp2_with fail
        (with_reducible refine (IH.out.use (rd_T38 l i).f0 (rd_T38 l i).f1 (rd_T38 l i).f2 (rd_T38 l i).f3 (rd_T38 l i).f4 A4 c4 j true m1 g w0 _ HC4.out HL4.out hj0 hj1 (z_195) (z_16) HR1.out _ HD.out).mono ?_)
        rintro e w5 ⟨rfl, hi5, hb5, hk5⟩; have n0_ := A_0 hi5; have n1_ := A_0 hb5; have n2_ := A_0 (KeepBut.trans (show KeepBut w _ g none from z_196) hk5 (.inl rfl)); clear HI HB HK hi5 hb5 hk5; have HI := n0_; have HB := n1_; have HK := n2_; clear n0_ n1_ n2_
        go_wp2
        go_roundw
        case rel => exact ⟨i + 1, m1, rfl, by omega, by omega, HIN.out.1, HIN.out.2.2 rfl, HR, ⟨z_195⟩, ⟨z_16⟩, ⟨z_196⟩⟩
        case measure => simp [intOf]; omega
      | false =>
        have HE := A_0 (show (false, m1) = (b, m) from HR0); clear HR0
        go_wp2_with fail
        (with_reducible refine (IH.out.use (rd_T38 l i).f0 (rd_T38 l i).f1 (rd_T38 l i).f2 (rd_T38 l i).f3 (rd_T38 l i).f4 A4 c4 j false m1 g w0 _ HC4.out HL4.out hj0 hj1 (z_195) (z_16) HR1.out _ HD.out).mono ?_)
        rintro e w5 ⟨rfl, hi5, hb5, hk5⟩; have n0_ := A_0 hi5; have n1_ := A_0 hb5; have n2_ := A_0 (KeepBut.trans (show KeepBut w _ g none from z_196) hk5 (.inl rfl)); clear HI HB HK hi5 hb5 hk5; have HI := n0_; have HB := n1_; have HK := n2_; clear n0_ n1_ n2_
        go_wp2
        go_ret
        have he := HE.out; injection he with he1 he2; subst he1 he2; exact z_193
    · have hb0 : decide (i < (L : Int)) = false := decide_eq_false hlt
      have he : goE (cE d) j (l.drop i.toNat) = (true, j) := by
        rw [List.drop_eq_nil_of_le (by have := HL.out; omega)]
        rfl
      have HE := A_0 (he.symm.trans HR.out); clear he HR
      go_wp2
      go_ret
      have he := HE.out; injection he with he1 he2; subst he1 he2; exact z_193
set_option maxHeartbeats 8000000 in
set_option maxRecDepth 100000 in
theorem expr_len5 (d : Nat) (hd : d ≤ 48) (a1 : Int) (a2 : ByteArray) (a3 : Int) (l : List S38) (L : Nat) (A : Option Addr) (c : Nat) (n : Int) (g : Nat) (w0 w : World) (h0 : 0 ≤ n) (h1 : n ≤ 600) (hI : IsS95 w0 w g n) (hB : Below w0.heap.size w0 w) (deep : Int) (hdeep : deep + 1 = 49 - (d : Int)) (q : n + 1 ≤ 600) (hL : L ≠ 2) : Calls Try.prog 120 #[.pointer (some ⟨g, 0, none⟩), .agg #[.int .i64 5, .int .i64 a1, .string a2, .int .i64 a3, .slice A L c], .int .i64 deep] w (CPost false (n + 1) g w0 w) := by
  have hu38 := Try.underlying38; have HI := A_0 hI; have HB := A_0 hB; have HK := A_0 (KeepBut.refl w g none); have hdp : decide (48 < deep) = false := decide_eq_false (by omega); have hdlo : 0 ≤ deep := by omega
  have hdhi : deep ≤ 48 := by omega
  have HD := A_0 hdeep; clear hI hB hdeep; have H1 := A_0 (one_t n h0 q); have e1 : ((L : Int) == 2) = false := beq_eq_false_iff_ne.2 (by omega); have e2 : ((L : Int) != 2) = true := bne_iff_ne.2 (by omega)
  go_enter Try.func120, Try.ntmps120
  go_wp2_with (first | ((with_reducible refine gate_dst (N := 4) rfl ?_); refine box_event ?hg (N := 4) ?hd (cs := #[.int .i64 5, .int .i64 a1, .string a2, .int .i64 a3, .slice A L c]) (t := 38) ?hr ?_; (case hd => rfl); (case hg => rfl); (case hr => first | (go_simp; done) | (go_simp; rfl)); intro gb hg w2 hbox hb; have n0_ := A_0 (below_step HB.out hb); have n1_ := A_0 (IsS95.below HI.out hb); have n2_ := A_0 ((HK.out).trans (KeepBut.of_below hb g none) (.inl rfl)); have n3_ := A_0 hbox; have n4_ := A_0 (show gb ≠ g by have := IsS95.fresh HI.out gb (Nat.le_of_eq hg.symm); exact this); have n5_ := A_0 (show w.heap.size ≤ gb by rw [hg]; exact Nat.le_refl _); clear HB HI HK hb hbox hg; have HB := n0_; have HI := n1_; have HK := n2_; have BK := n3_; have GN := n4_; have GE := n5_; clear n0_ n1_ n2_ n3_ n4_ n5_))
  (with_reducible refine (tree_counter_one.calls g n _ _ w0 _ HI.out HB.out H1.out).mono ?_)
  rintro e w3 ⟨rfl, hi3, hb3, hk3⟩; have n0_ := A_0 hi3; have n1_ := A_0 hb3; have n2_ := A_0 (HK.out.trans hk3 (.inl rfl)); have n3_ := A_0 (KeepBut.blk hk3 BK.out GN.out (by simp)); clear HI HB HK BK hi3 hb3 hk3; have HI := n0_; have HB := n1_; have HK := n2_; have BK := n3_; clear n0_ n1_ n2_ n3_; obtain ⟨hcz0, hcz1, hcz2, hcz3, hcz4⟩ := blkc5 BK.out; obtain ⟨hfz0, hfz1, hfz2, hfz3, hfz4⟩ := blkf5 BK.out
  go_wp2
  go_ret
  exact z_193
set_option maxHeartbeats 8000000 in
set_option maxRecDepth 100000 in
theorem expr_fld5 (d : Nat) (hd : d ≤ 48) (a1 : Int) (a2 : ByteArray) (a3 : Int) (l : List S38) (L : Nat) (A : Option Addr) (c : Nat) (n : Int) (g : Nat) (w0 w : World) (hL : l.length = L) (hC : Kd.C k38 w0 A l.length l) (hc : L ≤ c) (h0 : 0 ≤ n) (h1 : n ≤ 600) (hI : IsS95 w0 w g n) (hB : Below w0.heap.size w0 w) (deep : Int) (hdeep : deep + 1 = 49 - (d : Int)) (q : n + 1 ≤ 600) (hW : L = 2) (hf : fieldsB 5 a1 a2 a3 = false) : Calls Try.prog 120 #[.pointer (some ⟨g, 0, none⟩), .agg #[.int .i64 5, .int .i64 a1, .string a2, .int .i64 a3, .slice A L c], .int .i64 deep] w (CPost false (n + 1) g w0 w) := by
  have hu38 := Try.underlying38; have HI := A_0 hI; have HB := A_0 hB; have HK := A_0 (KeepBut.refl w g none); have hdp : decide (48 < deep) = false := decide_eq_false (by omega); have hdlo : 0 ≤ deep := by omega
  have hdhi : deep ≤ 48 := by omega
  have HD := A_0 hdeep; clear hI hB hdeep; have H1 := A_0 (one_t n h0 q); have hLs : (L : Int) ≤ 2 := by omega
  have e1 : ((L : Int) == 2) = true := beq_iff_eq.2 (by omega); have e2 : ((L : Int) != 2) = false := bne_eq_false_iff_eq.2 (by omega); have HL := A_0 hL; have HC := A_0 hC; have HCC := A_0 hc; have HF := A_0 hf; clear hW hL hC hc hf
  go_enter Try.func120, Try.ntmps120
  go_wp2_with (first | ((with_reducible refine gate_dst (N := 4) rfl ?_); refine box_event ?hg (N := 4) ?hd (cs := #[.int .i64 5, .int .i64 a1, .string a2, .int .i64 a3, .slice A L c]) (t := 38) ?hr ?_; (case hd => rfl); (case hg => rfl); (case hr => first | (go_simp; done) | (go_simp; rfl)); intro gb hg w2 hbox hb; have n0_ := A_0 (below_step HB.out hb); have n1_ := A_0 (IsS95.below HI.out hb); have n2_ := A_0 ((HK.out).trans (KeepBut.of_below hb g none) (.inl rfl)); have n3_ := A_0 hbox; have n4_ := A_0 (show gb ≠ g by have := IsS95.fresh HI.out gb (Nat.le_of_eq hg.symm); exact this); have n5_ := A_0 (show w.heap.size ≤ gb by rw [hg]; exact Nat.le_refl _); clear HB HI HK hb hbox hg; have HB := n0_; have HI := n1_; have HK := n2_; have BK := n3_; have GN := n4_; have GE := n5_; clear n0_ n1_ n2_ n3_ n4_ n5_))
  (with_reducible refine (tree_counter_one.calls g n _ _ w0 _ HI.out HB.out H1.out).mono ?_)
  rintro e w3 ⟨rfl, hi3, hb3, hk3⟩; have n0_ := A_0 hi3; have n1_ := A_0 hb3; have n2_ := A_0 (HK.out.trans hk3 (.inl rfl)); have n3_ := A_0 (KeepBut.blk hk3 BK.out GN.out (by simp)); clear HI HB HK BK hi3 hb3 hk3; have HI := n0_; have HB := n1_; have HK := n2_; have BK := n3_; clear n0_ n1_ n2_ n3_; obtain ⟨hcz0, hcz1, hcz2, hcz3, hcz4⟩ := blkc5 BK.out; obtain ⟨hfz0, hfz1, hfz2, hfz3, hfz4⟩ := blkf5 BK.out
  go_wp2_with fail
  (with_reducible refine (fields_L 5 a1 a2 a3 l L A c _ HL.out (z_194) HCC.out false HF.out).mono ?_)
  rintro e w4 ⟨rfl, hb4⟩; have n0_ := A_0 (IsS95.below (z_195) hb4); have n1_ := A_0 (below_step (z_16) hb4); have n2_ := A_0 (HK.out.trans (KeepBut.of_below hb4 g none) (.inl rfl)); have n3_ := A_0 (blk_below BK.out hb4); clear HI HB HK BK hb4 hcz0 hcz1 hcz2 hcz3 hcz4 hfz0 hfz1 hfz2 hfz3 hfz4; have HI := n0_; have HB := n1_; have HK := n2_; have BK := n3_; clear n0_ n1_ n2_ n3_; have hcz4 : w4.cell? ⟨gb, 4, none⟩ = some (.slice A L c) := (blk_cell BK.out 4).trans rfl; have hfz4 := blk_frozen BK.out 4
  go_wp2
  go_ret
  exact z_193
set_option maxHeartbeats 8000000 in
set_option maxRecDepth 100000 in
theorem expr_go5 (d : Nat) (hd : d ≤ 48) (a1 : Int) (a2 : ByteArray) (a3 : Int) (l : List S38) (L : Nat) (A : Option Addr) (c : Nat) (n : Int) (g : Nat) (w0 w : World) (hL : l.length = L) (hC : Kd.C k38 w0 A l.length l) (hc : L ≤ c) (h0 : 0 ≤ n) (h1 : n ≤ 600) (hI : IsS95 w0 w g n) (hB : Below w0.heap.size w0 w) (deep : Int) (hdeep : deep + 1 = 49 - (d : Int)) (IH0 : ExprC d) (b : Bool) (m : Int) (q : n + 1 ≤ 600) (hW : L = 2) (hf : fieldsB 5 a1 a2 a3 = true) (hr : goE (cE d) (n + 1) l = (b, m)) : Calls Try.prog 120 #[.pointer (some ⟨g, 0, none⟩), .agg #[.int .i64 5, .int .i64 a1, .string a2, .int .i64 a3, .slice A L c], .int .i64 deep] w (CPost b m g w0 w) := by
  have hu38 := Try.underlying38; have HI := A_0 hI; have HB := A_0 hB; have HK := A_0 (KeepBut.refl w g none); have hdp : decide (48 < deep) = false := decide_eq_false (by omega); have hdlo : 0 ≤ deep := by omega
  have hdhi : deep ≤ 48 := by omega
  have HD := A_0 hdeep; clear hI hB hdeep; have H1 := A_0 (one_t n h0 q); have hLs : (L : Int) ≤ 2 := by omega
  have e1 : ((L : Int) == 2) = true := beq_iff_eq.2 (by omega); have e2 : ((L : Int) != 2) = false := bne_eq_false_iff_eq.2 (by omega); have HL := A_0 hL; have HC := A_0 hC; have HCC := A_0 hc; have HF := A_0 hf; clear hW hL hC hc hf; have HR := A_0 hr; have IH := A_0 IH0; clear hr IH0
  go_enter Try.func120, Try.ntmps120
  go_wp2_with (first | ((with_reducible refine gate_dst (N := 4) rfl ?_); refine box_event ?hg (N := 4) ?hd (cs := #[.int .i64 5, .int .i64 a1, .string a2, .int .i64 a3, .slice A L c]) (t := 38) ?hr ?_; (case hd => rfl); (case hg => rfl); (case hr => first | (go_simp; done) | (go_simp; rfl)); intro gb hg w2 hbox hb; have n0_ := A_0 (below_step HB.out hb); have n1_ := A_0 (IsS95.below HI.out hb); have n2_ := A_0 ((HK.out).trans (KeepBut.of_below hb g none) (.inl rfl)); have n3_ := A_0 hbox; have n4_ := A_0 (show gb ≠ g by have := IsS95.fresh HI.out gb (Nat.le_of_eq hg.symm); exact this); have n5_ := A_0 (show w.heap.size ≤ gb by rw [hg]; exact Nat.le_refl _); clear HB HI HK hb hbox hg; have HB := n0_; have HI := n1_; have HK := n2_; have BK := n3_; have GN := n4_; have GE := n5_; clear n0_ n1_ n2_ n3_ n4_ n5_))
  (with_reducible refine (tree_counter_one.calls g n _ _ w0 _ HI.out HB.out H1.out).mono ?_)
  rintro e w3 ⟨rfl, hi3, hb3, hk3⟩; have n0_ := A_0 hi3; have n1_ := A_0 hb3; have n2_ := A_0 (HK.out.trans hk3 (.inl rfl)); have n3_ := A_0 (KeepBut.blk hk3 BK.out GN.out (by simp)); clear HI HB HK BK hi3 hb3 hk3; have HI := n0_; have HB := n1_; have HK := n2_; have BK := n3_; clear n0_ n1_ n2_ n3_; obtain ⟨hcz0, hcz1, hcz2, hcz3, hcz4⟩ := blkc5 BK.out; obtain ⟨hfz0, hfz1, hfz2, hfz3, hfz4⟩ := blkf5 BK.out
  go_wp2_with fail
  (with_reducible refine (fields_L 5 a1 a2 a3 l L A c _ HL.out (z_194) HCC.out true HF.out).mono ?_)
  rintro e w4 ⟨rfl, hb4⟩; have n0_ := A_0 (IsS95.below (z_195) hb4); have n1_ := A_0 (below_step (z_16) hb4); have n2_ := A_0 (HK.out.trans (KeepBut.of_below hb4 g none) (.inl rfl)); have n3_ := A_0 (blk_below BK.out hb4); clear HI HB HK BK hb4 hcz0 hcz1 hcz2 hcz3 hcz4 hfz0 hfz1 hfz2 hfz3 hfz4; have HI := n0_; have HB := n1_; have HK := n2_; have BK := n3_; clear n0_ n1_ n2_ n3_; have hcz4 : w4.cell? ⟨gb, 4, none⟩ = some (.slice A L c) := (blk_cell BK.out 4).trans rfl; have hfz4 := blk_frozen BK.out 4
  go_wp2
  go_loopw [40] (fun v40 wr => ERel d l (b, m) g w0 w v40 wr) (fun v40 _ => l.length - (intOf v40).toNat)
  case atStart => exact ⟨0, n + 1, rfl, Int.le_refl _, by omega, by omega, q, HR, HI, HB, HK⟩
  case round =>
    unfold ERel at hrel; clear HR HI HB HK; obtain ⟨i, j, rfl, hi0, hi1, hj0, hj1, HR, HI, HB, HK⟩ := hrel; by_cases hlt : i < (L : Int)
    · have hlt' : i < (l.length : Int) := by rw [HL.out]; exact hlt
      have hb0 : decide (i < (L : Int)) = true := decide_eq_true hlt; have hdr := drop_rd38 l i hi0 hlt'; have HR0 := HR.out; rw [hdr] at HR0; unfold goE at HR0; obtain ⟨ad, A4, c4, eA, hx0, hx1, hx2, hx3, hx4, hl4, hi4⟩ := at_T38 HC.out i hi0 hlt'; subst eA; replace hx0 := (HB.out.cell (World.block_lt_of_cell? w0 _ hx0)).trans hx0; replace hx1 := (HB.out.cell (World.block_lt_of_cell? w0 _ hx1)).trans hx1; replace hx2 := (HB.out.cell (World.block_lt_of_cell? w0 _ hx2)).trans hx2; replace hx3 := (HB.out.cell (World.block_lt_of_cell? w0 _ hx3)).trans hx3; replace hx4 := (HB.out.cell (World.block_lt_of_cell? w0 _ hx4)).trans hx4; have HC4 := A_0 hi4; have HL4 := A_0 hl4; have p1 := eq_true hi0; have p2 := eq_true hlt; obtain ⟨b1, m1, hr1⟩ : ∃ b1 m1, cE d j (rd_T38 l i) = (b1, m1) := ⟨_, _, rfl⟩; have hin := cE_in d j (rd_T38 l i) hj0 hj1; rw [hr1] at HR0 hin; have HR1 := A_0 (show cE d j ⟨(rd_T38 l i).f0, (rd_T38 l i).f1, (rd_T38 l i).f2, (rd_T38 l i).f3, (rd_T38 l i).f4⟩ = (b1, m1) from by rw [eta38]; exact hr1)
      have HIN := A_0 hin; clear hdr hr1 hi4 hl4 hin HR; cases b1 with
      | true =>
        have HR := A_0 (show goE (cE d) m1 (l.drop (i + 1).toNat) = (b, m) from HR0); clear HR0
        go_wp2_with fail
        (with_reducible refine (IH.out.use (rd_T38 l i).f0 (rd_T38 l i).f1 (rd_T38 l i).f2 (rd_T38 l i).f3 (rd_T38 l i).f4 A4 c4 j true m1 g w0 _ HC4.out HL4.out hj0 hj1 (z_195) (z_16) HR1.out _ HD.out).mono ?_)
        rintro e w5 ⟨rfl, hi5, hb5, hk5⟩; have n0_ := A_0 hi5; have n1_ := A_0 hb5; have n2_ := A_0 (KeepBut.trans (show KeepBut w _ g none from z_196) hk5 (.inl rfl)); clear HI HB HK hi5 hb5 hk5; have HI := n0_; have HB := n1_; have HK := n2_; clear n0_ n1_ n2_
        go_wp2
        go_roundw
        case rel => exact ⟨i + 1, m1, rfl, by omega, by omega, HIN.out.1, HIN.out.2.2 rfl, HR, ⟨z_195⟩, ⟨z_16⟩, ⟨z_196⟩⟩
        case measure => simp [intOf]; omega
      | false =>
        have HE := A_0 (show (false, m1) = (b, m) from HR0); clear HR0
        go_wp2_with fail
        (with_reducible refine (IH.out.use (rd_T38 l i).f0 (rd_T38 l i).f1 (rd_T38 l i).f2 (rd_T38 l i).f3 (rd_T38 l i).f4 A4 c4 j false m1 g w0 _ HC4.out HL4.out hj0 hj1 (z_195) (z_16) HR1.out _ HD.out).mono ?_)
        rintro e w5 ⟨rfl, hi5, hb5, hk5⟩; have n0_ := A_0 hi5; have n1_ := A_0 hb5; have n2_ := A_0 (KeepBut.trans (show KeepBut w _ g none from z_196) hk5 (.inl rfl)); clear HI HB HK hi5 hb5 hk5; have HI := n0_; have HB := n1_; have HK := n2_; clear n0_ n1_ n2_
        go_wp2
        go_ret
        have he := HE.out; injection he with he1 he2; subst he1 he2; exact z_193
    · have hb0 : decide (i < (L : Int)) = false := decide_eq_false hlt
      have he : goE (cE d) j (l.drop i.toNat) = (true, j) := by
        rw [List.drop_eq_nil_of_le (by have := HL.out; omega)]
        rfl
      have HE := A_0 (he.symm.trans HR.out); clear he HR
      go_wp2
      go_ret
      have he := HE.out; injection he with he1 he2; subst he1 he2; exact z_193
theorem expr_all : ∀ d : Nat, d ≤ 49 → ExprC d
  | 0, _ => by
    intro a0 a1 a2 a3 l A c n b m g w0 w hC hc h0 h1 hI hB hr deep hdeep; have e : deep = 49 := by omega
    subst e; injection hr with e1 e2; subst e1 e2; exact expr_deep a0 a1 a2 a3 l A c n g w0 w hI hB
  | d + 1, hd => by
    have ih := expr_all d (by omega); intro a0 a1 a2 a3 l A c n b m g w0 w hC hc h0 h1 hI hB hr deep hdeep; have hdeep' : deep + 1 = 49 - (d : Int) := by omega
    have hd' : d ≤ 48 := by omega
    unfold cE at hr; by_cases q : n + 1 > 600
    · rw [if_pos q] at hr
      injection hr with e1 e2; subst e1 e2; exact expr_many d hd' a0 a1 a2 a3 l l.length A c n g w0 w h0 h1 hI hB deep hdeep' (by omega)
    · rw [if_neg q] at hr
      have q' : n + 1 ≤ 600 := by omega
      simp only at hr; by_cases k1 : a0 = 1
      · subst k1
        have hw : wantE 1 = some 0 := rfl; rw [hw] at hr; simp only at hr; by_cases hl : l.length = 0
        · rw [if_pos hl] at hr
          cases hf : fieldsB 1 a1 a2 a3 with
          | true =>
            rw [if_pos hf] at hr; exact expr_go1 d hd' a1 a2 a3 l l.length A c n g w0 w rfl hC hc h0 h1 hI hB deep hdeep' ih b m q' hl hf hr
          | false =>
            rw [if_neg (by rw [hf]; simp)] at hr; injection hr with e1 e2; subst e1 e2; exact expr_fld1 d hd' a1 a2 a3 l l.length A c n g w0 w rfl hC hc h0 h1 hI hB deep hdeep' q' hl hf
        · rw [if_neg hl] at hr
          injection hr with e1 e2; subst e1 e2; exact expr_len1 d hd' a1 a2 a3 l l.length A c n g w0 w h0 h1 hI hB deep hdeep' q' hl
      by_cases k2 : a0 = 2
      · subst k2
        have hw : wantE 2 = some 0 := rfl; rw [hw] at hr; simp only at hr; by_cases hl : l.length = 0
        · rw [if_pos hl] at hr
          cases hf : fieldsB 2 a1 a2 a3 with
          | true =>
            rw [if_pos hf] at hr; exact expr_go2 d hd' a1 a2 a3 l l.length A c n g w0 w rfl hC hc h0 h1 hI hB deep hdeep' ih b m q' hl hf hr
          | false =>
            rw [if_neg (by rw [hf]; simp)] at hr; injection hr with e1 e2; subst e1 e2; exact expr_fld2 d hd' a1 a2 a3 l l.length A c n g w0 w rfl hC hc h0 h1 hI hB deep hdeep' q' hl hf
        · rw [if_neg hl] at hr
          injection hr with e1 e2; subst e1 e2; exact expr_len2 d hd' a1 a2 a3 l l.length A c n g w0 w h0 h1 hI hB deep hdeep' q' hl
      by_cases k3 : a0 = 3
      · subst k3
        have hw : wantE 3 = some 1 := rfl; rw [hw] at hr; simp only at hr; by_cases hl : l.length = 1
        · rw [if_pos hl] at hr
          cases hf : fieldsB 3 a1 a2 a3 with
          | true =>
            rw [if_pos hf] at hr; exact expr_go3 d hd' a1 a2 a3 l l.length A c n g w0 w rfl hC hc h0 h1 hI hB deep hdeep' ih b m q' hl hf hr
          | false =>
            rw [if_neg (by rw [hf]; simp)] at hr; injection hr with e1 e2; subst e1 e2; exact expr_fld3 d hd' a1 a2 a3 l l.length A c n g w0 w rfl hC hc h0 h1 hI hB deep hdeep' q' hl hf
        · rw [if_neg hl] at hr
          injection hr with e1 e2; subst e1 e2; exact expr_len3 d hd' a1 a2 a3 l l.length A c n g w0 w h0 h1 hI hB deep hdeep' q' hl
      by_cases k4 : a0 = 4
      · subst k4
        have hw : wantE 4 = some 1 := rfl; rw [hw] at hr; simp only at hr; by_cases hl : l.length = 1
        · rw [if_pos hl] at hr
          cases hf : fieldsB 4 a1 a2 a3 with
          | true =>
            rw [if_pos hf] at hr; exact expr_go4 d hd' a1 a2 a3 l l.length A c n g w0 w rfl hC hc h0 h1 hI hB deep hdeep' ih b m q' hl hf hr
          | false =>
            rw [if_neg (by rw [hf]; simp)] at hr; injection hr with e1 e2; subst e1 e2; exact expr_fld4 d hd' a1 a2 a3 l l.length A c n g w0 w rfl hC hc h0 h1 hI hB deep hdeep' q' hl hf
        · rw [if_neg hl] at hr
          injection hr with e1 e2; subst e1 e2; exact expr_len4 d hd' a1 a2 a3 l l.length A c n g w0 w h0 h1 hI hB deep hdeep' q' hl
      by_cases k5 : a0 = 5
      · subst k5
        have hw : wantE 5 = some 2 := rfl; rw [hw] at hr; simp only at hr; by_cases hl : l.length = 2
        · rw [if_pos hl] at hr
          cases hf : fieldsB 5 a1 a2 a3 with
          | true =>
            rw [if_pos hf] at hr; exact expr_go5 d hd' a1 a2 a3 l l.length A c n g w0 w rfl hC hc h0 h1 hI hB deep hdeep' ih b m q' hl hf hr
          | false =>
            rw [if_neg (by rw [hf]; simp)] at hr; injection hr with e1 e2; subst e1 e2; exact expr_fld5 d hd' a1 a2 a3 l l.length A c n g w0 w rfl hC hc h0 h1 hI hB deep hdeep' q' hl hf
        · rw [if_neg hl] at hr
          injection hr with e1 e2; subst e1 e2; exact expr_len5 d hd' a1 a2 a3 l l.length A c n g w0 w h0 h1 hI hB deep hdeep' q' hl
      have hw : wantE a0 = none := by unfold wantE; rw [if_neg k1, if_neg k2, if_neg k3, if_neg k4, if_neg k5]
      rw [hw] at hr; injection hr with e1 e2; subst e1 e2; exact expr_kind d hd' a0 a1 a2 a3 l l.length A c n g w0 w h0 h1 hI hB deep hdeep' q' k1 k2 k3 k4 k5
end Go.Proofs.Ytobkdmmnbnpemaa.K
