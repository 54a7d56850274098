/- Cut's tokens are rows of tokens as the parser wants them. -/
import Derived.Test.YtobkdmmnbnpemaaXJPA
import Derived.Test.YtobkdmmnbnpemaaXJP10
import Derived.Test.YtobkdmmnbnpemaaXJN1
namespace Go.Proofs.Ytobkdmmnbnpemaa.K
open Go.RowKit Go.Proofs.YtobkdmmnbnpemaaW.PrintWords Go.Proofs.YtobkdmmnbnpemaaW.PrintLast Go.Proofs.YtobkdmmnbnpemaaW.PrintMore
set_option linter.unusedVariables false
set_option linter.unusedSimpArgs false
theorem mem_takeWhile_ {p : UInt8 → Bool} : ∀ {l : List UInt8} {x : UInt8}, x ∈ l.takeWhile p → p x = true
  | [], x, h => by simp at h
  | c :: l, x, h => by
    rw [List.takeWhile_cons] at h; by_cases q : p c = true
    · rw [if_pos q] at h
      rcases List.mem_cons.1 h with e | e
      · rw [e]; exact q
      · exact mem_takeWhile_ e
    · rw [if_neg q] at h; simp at h
theorem digs_take (l : List UInt8) : Lx.digs (Lx.bs (l.takeWhile Lx.digB)) := by
  intro i hi; have h' : i < (Lx.lst (Lx.bs (l.takeWhile Lx.digB))).length := by rw [Lx.lst_len]; exact hi
  rw [Lx.bt_get _ _ h']; have hm := List.getElem_mem h'; generalize (Lx.lst (Lx.bs (l.takeWhile Lx.digB)))[i] = b at hm ⊢; rw [Lx.lst_bs] at hm; exact mem_takeWhile_ (p := Lx.digB) hm
theorem parse_nonneg (t : ByteArray) (h : Lx.digs t) : 0 ≤ (Lx.parseP t).1 := by
  unfold Lx.parseP; by_cases a : bt t 0 = 48 ∧ 1 < t.size
  · rw [if_pos a]; exact Int.le_refl _
  rw [if_neg a]; by_cases b : Lx.dv t t.size > 9223372036854775807
  · rw [if_pos b]; exact Int.le_refl _
  rw [if_neg b]; exact Lx.dv_nonneg h _ (Nat.le_refl _)
theorem tok_num (c : UInt8) (l : List UInt8) (t : Lx.Tok) (h : Lx.tokL c l = .ok t) : 0 ≤ t.nm ∧ (t.kd = 2 → nameB t.tx = true) := by
  unfold Lx.tokL at h; by_cases hd : Lx.digB c = true
  · rw [if_pos hd] at h
    have hn := parse_nonneg _ (digs_take (c :: l)); by_cases q : (Lx.parseP (Lx.bs ((c :: l).takeWhile Lx.digB))).2 ≠ 0
    · rw [if_pos q] at h; simp at h
    · rw [if_neg q] at h
      cases hr : (c :: l).dropWhile Lx.digB with
      | nil =>
        rw [hr] at h; simp only at h; injection h with h; subst h; exact ⟨hn, fun e => by simp at e⟩
      | cons d ds =>
        rw [hr] at h; simp only at h; by_cases ql : Lx.letB d = true
        · rw [if_pos ql] at h; simp at h
        · rw [if_neg ql] at h
          injection h with h; subst h; exact ⟨hn, fun e => by simp at e⟩
  · rw [if_neg hd] at h
    by_cases hl : Lx.letB c = true
    · rw [if_pos hl] at h
      have ha : Lx.anB c = true := by unfold Lx.anB Lx.isAn; have : Lx.isLet (Lx.c8 c) = true := hl; rw [this]; rfl
      have htw : (c :: l).takeWhile Lx.anB = c :: l.takeWhile Lx.anB := by rw [List.takeWhile_cons, if_pos ha]
      by_cases q : Lx.wordsB ((c :: l).takeWhile Lx.anB) = true
      · rw [if_pos q] at h
        injection h with h; subst h; exact ⟨Int.le_refl _, fun e => by simp at e⟩
      · rw [if_neg q] at h
        by_cases q2 : 12 < ((c :: l).takeWhile Lx.anB).length
        · rw [if_pos q2] at h; simp at h
        · rw [if_neg q2] at h
          injection h with h; subst h; refine ⟨Int.le_refl _, fun _ => ?_⟩; rw [htw] at q q2 ⊢; show nameB (c :: l.takeWhile Lx.anB) = true; unfold nameB; dsimp only; rw [decide_eq_true (by omega), show letB c = true from hl, show wordsB (c :: l.takeWhile Lx.anB) = false from Bool.eq_false_iff.2 q]; simp only [Bool.true_and, Bool.not_false, List.all_eq_true]; exact fun x hx => mem_takeWhile_ (p := Lx.anB) hx
    · rw [if_neg hl] at h
      cases hf : Lx.findSign Lx.signsL (c :: l) with
      | none => rw [hf] at h; simp at h
      | some w =>
        rw [hf] at h; simp only at h; injection h with h; subst h; exact ⟨Int.le_refl _, fun e => by simp at e⟩
theorem cut_toks : ∀ (k : Nat) (l : List UInt8), (∀ x ∈ (Lx.cutL k l).1, 0 ≤ x.1.nm ∧ (x.1.kd = 2 → nameB x.1.tx = true) ∧ x.1.kd ≠ 0) ∧ (∀ e p, (Lx.cutL k l).2 = some (e, p) → e ≠ 0 ∧ p ≤ l.length)
  | 0, l => ⟨fun x hx => absurd hx (by simp [Lx.cutL]), fun e p h => absurd h (by simp [Lx.cutL])⟩
  | k + 1, l => by
    have hsl := Lx.skipL_len false l; unfold Lx.cutL; rcases hs : Lx.skipL false l with _ | ⟨c, m⟩
    · exact ⟨fun x hx => absurd hx (by simp [Lx.cutL]), fun e p h => absurd h (by simp [Lx.cutL])⟩
    rw [hs] at hsl; dsimp only; rcases ht : Lx.tokL c m with ⟨e, d⟩ | t
    · refine ⟨fun x hx => by simp at hx, fun e' p h => ?_⟩
      dsimp only at h; injection h with h; injection h with h1 h2; subst h1 h2; exact ⟨(Lx.tok_err _ _ _ _ ht).1, by omega⟩
    · dsimp only
      obtain ⟨ih1, ih2⟩ := cut_toks k ((c :: m).drop t.tx.length); obtain ⟨a1, a2⟩ := tok_num _ _ _ ht; obtain ⟨b1, b2, b3, b4⟩ := Lx.tok_ok _ _ _ ht; refine ⟨fun x hx => ?_, fun e' p h => ?_⟩
      · rcases List.mem_cons.1 hx with q | q
        · rw [q]; exact ⟨a1, a2, b4⟩
        · exact ih1 x q
      · obtain ⟨c1, c2⟩ := ih2 e' p h
        refine ⟨c1, ?_⟩
        rw [List.length_drop] at c2
        omega
theorem cut_cases (s : ByteArray) : (∃ T, Lx.cutP s = (T, 0, 0) ∧ TokT T s.size) ∨ (∃ a e, Lx.cutP s = ([], a, e) ∧ e ≠ 0 ∧ 0 ≤ a ∧ a ≤ s.size) := by
  unfold Lx.cutP; by_cases hb : 8192 < s.size
  · rw [if_pos hb]
    exact .inr ⟨0, 30, rfl, by decide, Int.le_refl _, by omega⟩
  rw [if_neg hb]; obtain ⟨h1, h2⟩ := cut_toks (s.size + 1) (Lx.lst s); generalize Lx.cutL (s.size + 1) (Lx.lst s) = r at h1 h2; rcases r with ⟨ts, _ | ⟨e, p⟩⟩
  · refine .inl ⟨_, rfl, ?_⟩
    dsimp only at h1; have hrd : ∀ i : Nat, i < ts.length → ∃ x ∈ ts, rd_T58 (ts.map (Lx.s33 s.size) ++ [Lx.endTok s.size]) (i : Int) = Lx.s33 s.size x := by
      intro i hi; refine ⟨ts[i], List.getElem_mem hi, ?_⟩; unfold rd_T58; rw [Int.toNat_natCast, List.getD_eq_getElem?_getD, List.getElem?_append_left (by simpa using hi), List.getElem?_map, List.getElem?_eq_getElem hi]
      rfl
    have hend : rd_T58 (ts.map (Lx.s33 s.size) ++ [Lx.endTok s.size]) (ts.length : Int) = Lx.endTok s.size := by
      unfold rd_T58; rw [Int.toNat_natCast, List.getD_eq_getElem?_getD, List.getElem?_append_right (by simp)]; simp
    have hlen : (ts.map (Lx.s33 s.size) ++ [Lx.endTok s.size]).length = ts.length + 1 := by simp
    have hcase : ∀ i : Int, 0 ≤ i → i < ((ts.map (Lx.s33 s.size) ++ [Lx.endTok s.size]).length : Nat) → (∃ x ∈ ts, rd_T58 (ts.map (Lx.s33 s.size) ++ [Lx.endTok s.size]) i = Lx.s33 s.size x) ∨ rd_T58 (ts.map (Lx.s33 s.size) ++ [Lx.endTok s.size]) i = Lx.endTok s.size := by
      intro i h0 hi; rw [hlen] at hi; by_cases q : i.toNat < ts.length
      · have := hrd i.toNat q
        rw [Int.toNat_of_nonneg h0] at this; exact .inl this
      · have e : i = (ts.length : Int) := by omega
        rw [e]; exact .inr hend
    refine ⟨by rw [hlen]; omega, ?_, ?_, ?_, ?_⟩
    · rw [hlen, show ((ts.length + 1 : Nat) : Int) - 1 = (ts.length : Int) by omega, hend]; rfl
    · intro i h0 hi
      rcases hcase i h0 hi with ⟨x, hx, e⟩ | e
      · rw [e]
        show 0 ≤ ((s.size - x.2 : Nat) : Int) ∧ ((s.size - x.2 : Nat) : Int) ≤ s.size
        omega
      · rw [e]
        show 0 ≤ (s.size : Int) ∧ (s.size : Int) ≤ s.size
        omega
    · intro i h0 hi hk
      rcases hcase i h0 hi with ⟨x, hx, e⟩ | e
      · rw [e]; exact (h1 x hx).1
      · rw [e]; exact Int.le_refl _
    · intro i h0 hi hk
      rcases hcase i h0 hi with ⟨x, hx, e⟩ | e
      · rw [e] at hk ⊢
        have := (h1 x hx).2.1 hk; show nameB (lst (Lx.bs x.1.tx)) = true; rw [show lst (Lx.bs x.1.tx) = x.1.tx from Lx.lst_bs _]; exact this
      · rw [e] at hk; exact absurd (show (0 : Int) = 2 from hk) (by decide)
  · dsimp only at h1 h2
    have := h2 e p rfl; exact .inr ⟨_, e, rfl, this.1, by omega, by omega⟩
end Go.Proofs.Ytobkdmmnbnpemaa.K
namespace Go.Proofs.Ytobkdmmnbnpemaa.K
open Go.RowKit Go.Proofs.YtobkdmmnbnpemaaW.PrintWords Go.Proofs.YtobkdmmnbnpemaaW.PrintLast Go.Proofs.YtobkdmmnbnpemaaW.PrintMore
set_option linter.unusedVariables false
set_option linter.unusedSimpArgs false
def CutE (s : ByteArray) (er at_ : Int) : Prop := ∀ w : World, Calls Try.prog 36 #[.string s] w fun e w' => ∃ A c, e = .returned (.tuple #[.slice A 0 c, .int .i64 at_, .int .i64 er]) ∧ Below w.heap.size w w'
theorem CutE.use {s : ByteArray} {er at_ : Int} (h : CutE s er at_) (w : World) : Calls Try.prog 36 #[.string s] w fun e w' => ∃ A c, e = .returned (.tuple #[.slice A 0 c, .int .i64 at_, .int .i64 er]) ∧ Below w.heap.size w w' := h w
theorem cut_E (s : ByteArray) (er at_ : Int) (h : Lx.cutP s = ([], at_, er)) : CutE s er at_ := fun w => by
  have hf := Lx.cut_f s; rw [h] at hf; refine (Lx.lex_Cut.calls s [] at_ er w hf).mono ?_; rintro e w' ⟨v, rfl, hR, hB⟩; obtain ⟨A, c, rfl⟩ := cut_nil hR; exact ⟨A, c, rfl, hB⟩
structure EE (w W : World) (er at_ : Int) : Prop where
  b : Below w.heap.size w W
  l : W.heap[w.heap.size]? = some (.cells #[.slice none 0 0] 22 (0, 0))
  a : W.heap[w.heap.size + 1]? = some (.cells #[.int .i64 at_] 3 (0, 0))
  e : W.heap[w.heap.size + 2]? = some (.cells #[.int .i64 er] 24 (0, 0))
theorem EE.drewN {w W : World} {er at_ : Int} (h : EE w W er at_) (m : Nat) : EE w (W.drewN m) er at_ := by
  have hb := pw_below_drewN (Below.refl W.heap.size W) m; exact ⟨pw_below_drewN h.b m, blk_below h.l hb, blk_below h.a hb, blk_below h.e hb⟩
theorem EE.drew {w W : World} {er at_ : Int} (h : EE w W er at_) : EE w W.drew er at_ := by
  have hb := below_drew (Below.refl W.heap.size W); exact ⟨below_drew h.b, blk_below h.l hb, blk_below h.a hb, blk_below h.e hb⟩
theorem EE.s0 {w W : World} {er at_ : Int} (h : EE w W er at_) : EE w (W.setCell ⟨w.heap.size, 0, none⟩ (.slice none 0 0)) er at_ :=
  ⟨Below.setCell h.b (Nat.le_refl _) _, blk_put (cs := #[.slice none 0 0]) h.l 0 _ rfl, blk_far h.a (by show w.heap.size + 1 ≠ w.heap.size; omega) _, blk_far h.e (by show w.heap.size + 2 ≠ w.heap.size; omega) _⟩
theorem EE.s1 {w W : World} {er at_ : Int} (h : EE w W er at_) : EE w (W.setCell ⟨w.heap.size + 1, 0, none⟩ (.int .i64 at_)) er at_ :=
  ⟨Below.setCell h.b (Nat.le_add_right _ _) _, blk_far h.l (by show w.heap.size ≠ w.heap.size + 1; omega) _, blk_put (cs := #[.int .i64 at_]) h.a 0 _ rfl, blk_far h.e (z_151) _⟩
theorem EE.s2 {w W : World} {er at_ : Int} (h : EE w W er at_) : EE w (W.setCell ⟨w.heap.size + 2, 0, none⟩ (.int .i64 er)) er at_ :=
  ⟨Below.setCell h.b (Nat.le_add_right _ _) _, blk_far h.l (by show w.heap.size ≠ w.heap.size + 2; omega) _, blk_far h.a (by show w.heap.size + 1 ≠ w.heap.size + 2; omega) _, blk_put (cs := #[.int .i64 er]) h.e 0 _ rfl⟩
theorem ee_end {w W : World} {er at_ : Int} {tm : Array Value} (h : EE w W er at_)
    (hr : W.cell? ⟨w.heap.size, 0, none⟩ = some (.slice none 0 0) → W.cell? ⟨w.heap.size + 1, 0, none⟩ = some (.int .i64 at_) → W.cell? ⟨w.heap.size + 2, 0, none⟩ = some (.int .i64 er) → (results Try.f25 tm).run Try.prog W = .ok (.tuple #[.slice none 0 0, .int .i64 at_, .int .i64 er]) W) :
    bodyPostD Try.prog Try.f25 (PPar w (.error (er, at_))) Exit.ret ⟨tm, []⟩ W :=
  ⟨_, hr (one_ h.l).1 (one_ h.a).1 (one_ h.e).1, h.b, rfl⟩
set_option maxHeartbeats 8000000 in
set_option maxRecDepth 100000 in
theorem parse_E (s : ByteArray) (er at_ : Int) (hne : er ≠ 0) (HC0 : CutE s er at_) (w : World) : Calls Try.prog 25 #[.string s] w (PPar w (.error (er, at_))) := by
  have HC := A_0 HC0; have hmf : ∀ (fn : Fn) (first cap : Array Value) (w : World), (Instr.makeFunc fn first cap).run Try.prog w = .ok (.func fn first cap) w := fun _ _ _ _ => rfl
  clear HC0; have dn := bne_iff_ne.2 hne
  go_enter_defers Try.func25, Try.ntmps25
  go_upto_region 1 with fail
  generalize hw3 : World.alloc _ (.cells #[.int .i64 0] 24) = w3; have hB3 : Below w.heap.size w w3 := by rw [← hw3]; exact below_alloc (below_alloc (below_alloc (Below.refl _ _) _) _) _
  have hs3 : w3.heap.size = w.heap.size + 3 := by rw [← hw3]; simp
  have hl3 : w3.heap[w.heap.size]? = some (.cells #[.slice none 0 0] 22 (0, 0)) := by rw [← hw3]; exact blk_alloc (blk_alloc (blk_new _ _) _) _
  have ha3 : w3.heap[w.heap.size + 1]? = some (.cells #[.int .i64 0] 3 (0, 0)) := by rw [← hw3]; exact blk_alloc (blk_new' (by simp)) _
  have he3 : w3.heap[w.heap.size + 2]? = some (.cells #[.int .i64 0] 24 (0, 0)) := by rw [← hw3]; exact blk_new' (by simp)
  clear hw3; rw [show w.heap.size + 1 + 1 = w.heap.size + 2 from rfl]; obtain ⟨zl, fl⟩ := one_ hl3; obtain ⟨za, fa⟩ := one_ ha3; obtain ⟨ze, fe⟩ := one_ he3; have n10 : w.heap.size + 1 ≠ w.heap.size := by omega
  have HB := A_0 hB3; have HL := A_0 hl3; have HA := A_0 ha3; have HE := A_0 he3; have HS := A_0 hs3; clear hB3 hl3 ha3 he3 hs3
  go_wp2_with fail
  (with_reducible refine (CutE.use HC.out w3).mono ?_)
  rintro e w4 ⟨A, c, rfl, hb4⟩; have n0_ := A_0 (below_step HB.out hb4); have n1_ := A_0 (blk_below HL.out hb4); have n2_ := A_0 (blk_below HA.out hb4); have n3_ := A_0 (blk_below HE.out hb4); have n4_ := A_0 (show w.heap.size + 3 ≤ w4.heap.size from by have := hb4.size; have := HS.out; omega)
  clear zl fl za fa ze fe HB HL HA HE HS hb4 HC; have HB := n0_; have HL := n1_; have HA := n2_; have HE := n3_; have HS := n4_; clear n0_ n1_ n2_ n3_ n4_; obtain ⟨zl, fl⟩ := one_ HL.out; obtain ⟨za, fa⟩ := one_ HA.out; obtain ⟨ze, fe⟩ := one_ HE.out; go_upto_region 3 with fail; generalize hw5 : World.setCell _ ⟨w.heap.size + 2, 0, none⟩ _ = w5; have n0_ : Aside0 (Below w.heap.size w w5) := ⟨z_152⟩; have n1_ : Aside0 (w5.heap[w.heap.size]? = some (.cells #[.slice none 0 0] 22 (0, 0))) := ⟨z_153⟩; have n2_ : Aside0 (w5.heap[w.heap.size + 1]? = some (.cells #[.int .i64 at_] 3 (0, 0))) := ⟨z_154⟩; have n3_ : Aside0 (w5.heap[w.heap.size + 2]? = some (.cells #[.int .i64 er] 24 (0, 0))) := ⟨z_155⟩; clear zl fl za fa ze fe HB HL HA HE HS hw5; have HB := n0_; have HL := n1_; have HA := n2_; have HE := n3_; clear n0_ n1_ n2_ n3_; obtain ⟨zl, fl⟩ := one_ HL.out; obtain ⟨za, fa⟩ := one_ HA.out; obtain ⟨ze, fe⟩ := one_ HE.out; refine wp_region_noPanic ?_
  go_region_law fail
  all_goals (refine NoPanic.normal ?_)
  all_goals (go_wp2_with fail)
  all_goals (refine ee_end (w := w) (er := er) (at_ := at_) (W := _) (by repeat (first | exact ⟨HB.out, HL.out, HA.out, HE.out⟩ | apply EE.drew | apply EE.drewN | apply EE.s0 | apply EE.s1 | apply EE.s2)) ?_)
  all_goals (intro q0 q1 q2; simp [results, Try.results25, go_sem, q0, q1, q2])
def parV (s : ByteArray) : Except (Int × Int) (List S41) :=
  if (Lx.cutP s).2.2 ≠ 0 then .error ((Lx.cutP s).2.2, (Lx.cutP s).2.1) else (parT (Lx.cutP s).1).getD (.ok [])
theorem parV_cases (s : ByteArray) : (∃ a e, Lx.cutP s = ([], a, e) ∧ e ≠ 0 ∧ 0 ≤ a ∧ a ≤ s.size ∧ parV s = .error (e, a)) ∨ (∃ T r, Lx.cutP s = (T, 0, 0) ∧ TokT T s.size ∧ parT T = some r ∧ parV s = r ∧ match r with
  | .ok l => l.all (fitSt (fitB 12)) = true ∧ cntB l ≤ 600
  | .error e => (0 ≤ e.2 ∧ e.2 ≤ s.size) ∧ (e.1 = 40 ∨ e.1 = 41 ∨ e.1 = 42)) := by
  rcases cut_cases s with ⟨T, h, H⟩ | ⟨a, e, h, h1, h2, h3⟩
  · obtain ⟨r, e1, e2⟩ := parT_tot H
    refine .inr ⟨T, r, h, H, e1, ?_, by cases r <;> exact e2⟩
    unfold parV; rw [h, if_neg (by simp), e1]; rfl
  · refine .inl ⟨a, e, h, h1, h2, h3, ?_⟩
    unfold parV; rw [h, if_pos h1]
theorem parse_V (s : ByteArray) (w : World) : Calls Try.prog 25 #[.string s] w (PPar w (parV s)) := by
  rcases parV_cases s with ⟨a, e, h, h1, h2, h3, h4⟩ | ⟨T, r, h, H, h1, h2, h3⟩
  · rw [h4]; exact parse_E s e a h1 (cut_E s e a h) w
  · rw [h2]; exact parse_L s T (cut_C s T h) (st0 T) (st0_ok T) _ r h1 w
end Go.Proofs.Ytobkdmmnbnpemaa.K
namespace Go.Proofs.Ytobkdmmnbnpemaa.K
open Go.RowKit Go.Proofs.YtobkdmmnbnpemaaW.PrintWords
def txAV : ByteArray := ⟨#[101, 109, 105, 116, 32, 49, 32, 43, 32, 50, 32, 42, 32, 51, 59]⟩
def txBV : ByteArray := ⟨#[101, 109, 105, 116, 32, 49]⟩
def nAV (n : Int) : S38 := ⟨1, n, ⟨#[]⟩, 0, []⟩
def eAV : S38 := ⟨5, 0, ⟨#[]⟩, 1, [nAV 1, ⟨5, 0, ⟨#[]⟩, 3, [nAV 2, nAV 3]⟩]⟩
def sAV : S41 := ⟨4, ⟨#[]⟩, 0, [eAV], [], []⟩
theorem parAV : parV txAV = .ok [sAV] := by kernel_rfl
theorem parBV : parV txBV = .error (40, 6) := by kernel_rfl
theorem nodesAV : tree_Nodes.f 40 [sAV] = some 6 := by kernel_rfl
theorem rankAV : tree_Rank.f ⟨#[37]⟩ = some (8, 5) := by kernel_rfl
set_option linter.unusedVariables false
set_option linter.unusedSimpArgs false
theorem callAV (w : World) : Calls Try.prog 25 #[.string ⟨#[101, 109, 105, 116, 32, 49, 32, 43, 32, 50, 32, 42, 32, 51, 59]⟩] w fun e w' => ∃ A c, e = .returned (.tuple #[.slice A 1 c, .int .i64 0, .int .i64 0]) ∧ Kd.F k41 w' (newO w w') A 1 [sAV] ∧ 1 ≤ c ∧ Below w.heap.size w w' :=
  by
  have h := parse_V txAV w; rw [parAV] at h; exact h.mono fun e w' h => h.ok
theorem callBV (w : World) : Calls Try.prog 25 #[.string ⟨#[101, 109, 105, 116, 32, 49]⟩] w fun e w' => e = .returned (.tuple #[.slice none 0 0, .int .i64 6, .int .i64 40]) ∧ Below w.heap.size w w' :=
  by
  have h := parse_V txBV w; rw [parBV] at h; exact h.mono fun e w' h => h.err
theorem nodAV {w : World} {A : Option Addr} {c : Nat} {ok : Nat → Prop} (h : Kd.F k41 w ok A 1 [sAV]) (hc : 1 ≤ c) : Calls Try.prog 32 #[.slice A 1 c] w fun e w' => e = .returned (.int .i64 6) ∧ Below w.heap.size w w' := tree_Nodes.calls 40 A c [sAV] 6 w (Kd.F_now h) hc nodesAV
theorem callRV (w : World) : Calls Try.prog 21 #[.string ⟨#[37]⟩] w fun e w' => e = .returned (.tuple #[.int .i64 8, .int .i64 5]) ∧ Below w.heap.size w w' := by
  have h := rank_L ⟨#[37]⟩ w; rw [rankAV] at h; exact h
set_option maxHeartbeats 4000000 in
set_option maxRecDepth 100000 in
theorem alive_LV (w : World) : Calls Try.prog 28 #[] w fun e w' => e = .returned (.bool true) ∧ Below w.heap.size w w' := by
  have HB := A_0 (Below.refl w.heap.size w); have hu41 := Try.underlying41; have hu38 := Try.underlying38; have hu22 := Try.underlying22; have hu36 := Try.underlying36
  go_enter Try.func28, Try.ntmps28
  go_wp2_with fail
  (with_reducible refine (callAV w).mono ?_)
  rintro e w1 ⟨A, c, rfl, hF, hc, hb⟩; have n0_ := A_0 (below_step HB.out hb); have HF := A_0 hF; clear HB hb hF; have HB := n0_; clear n0_
  go_wp2_with fail
  (with_reducible refine (callBV w1).mono ?_)
  rintro e w2 ⟨rfl, hb⟩; have n0_ := A_0 (below_step HB.out hb); have n1_ := A_0 (Kd.F_below HF.out hb); clear HB HF hb; have HB := n0_; have HF := n1_; clear n0_ n1_
  go_wp2_with fail
  (with_reducible refine (callRV w2).mono ?_)
  rintro e w3 ⟨rfl, hb⟩; have n0_ := A_0 (below_step HB.out hb); have n1_ := A_0 (Kd.F_below HF.out hb); clear HB HF hb; have HB := n0_; have HF := n1_; clear n0_ n1_; obtain ⟨ad, A3, c3, A4, c4, A5, c5, rfl, x0, x1, x2, x3, x4, x5, l3, g3, l4, g4, l5, g5⟩ := at_T41 (Kd.F_now HF.out) 0 (by decide) (by decide); obtain ⟨ad', A4', c4', rfl, y0, y1, y2, y3, y4, m4, h4⟩ := at_T38 g3 0 (by decide) (by decide); have x0' : w3.cell? ad = some (.int .i64 4) := by rw [show ad.add (Int.toNat 0 * 6) = ad from Addr.add_zero' ad] at x0; exact x0
  have x3' : w3.cell? ⟨ad.block, ad.off + 3, none⟩ = some (.slice (some ad') 1 c3) := by rw [show ad.add (Int.toNat 0 * 6) = ad from Addr.add_zero' ad] at x3; exact x3
  have y3' : w3.cell? ⟨ad'.block, ad'.off + 3, none⟩ = some (.int .i64 1) := by rw [show ad'.add (Int.toNat 0 * 5) = ad' from Addr.add_zero' ad'] at y3; exact y3
  clear x0 x1 x2 x3 x4 x5 y0 y1 y2 y3 y4 l3 g3 l4 g4 l5 g5 m4 h4
  go_wp2_with fail
  (with_reducible refine (nodAV HF.out hc).mono ?_)
  rintro e w4 ⟨rfl, hb⟩; have n0_ := A_0 (below_step HB.out hb); clear HB HF hb x0' x3' y3'; have HB := n0_
  go_wp2_with fail
  refine bodyPost_ret (v := .bool true) (by simp [results, Try.results28, go_sem]) rfl ⟨rfl, HB.out⟩
end Go.Proofs.Ytobkdmmnbnpemaa.K
