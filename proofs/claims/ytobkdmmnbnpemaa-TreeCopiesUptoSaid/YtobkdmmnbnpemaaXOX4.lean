/- The cutter: a number and a word, walked by hand. -/
import Derived.Test.YtobkdmmnbnpemaaXOXA
namespace Go.Proofs.Ytobkdmmnbnpemaa.Lx
open Go.RowKit Go.Proofs.YtobkdmmnbnpemaaW.PrintWords Go.Proofs.YtobkdmmnbnpemaaW.PrintLast Go.Proofs.YtobkdmmnbnpemaaW.PrintMore
attribute [local go_sem] max2_int min2_int max_two min_two max_three min_three max_four min_four
set_option linter.unusedVariables false
set_option linter.unusedSimpArgs false
theorem upto_all (p : Int → Bool) (s : ByteArray) : ∀ r i, i + r = s.size → ∀ j, i ≤ j → j < endOf p s r i → p (bt s (j : Int)) = true
  | 0, i, h, j, h1, h2 => by simp only [endOf] at h2; omega
  | r + 1, i, h, j, h1, h2 => by
    unfold endOf at h2
    rw [if_pos (by omega)] at h2
    by_cases c : p (bt s (i : Int)) = true
    · rw [if_pos c] at h2
      by_cases e : j = i
      · rw [e]; exact c
      · exact upto_all p s r (i + 1) (by omega) j (by omega) h2
    · rw [if_neg c] at h2; omega
theorem bt_extract (s : ByteArray) (i e j : Nat) (h1 : i + j < e) (h2 : e ≤ s.size) : bt (s.extract i e) (j : Int) = bt s ((i + j : Nat) : Int) := by
  have hs : (s.extract i e).size = e - i := by rw [ByteArray.size_extract]; omega
  have hj : j < (s.extract i e).size := by omega
  have hj2 : i + j < s.size := by omega
  unfold bt
  simp only [Int.toNat_natCast]
  rw [dif_pos hj, dif_pos hj2]
  congr 2
  exact ByteArray.getElem_extract hj
theorem digs_upto (s : ByteArray) (i : Nat) (hi : i ≤ s.size) : digs (s.extract i (upto isDig s i)) := by
  intro j hj
  have hb := upto_le isDig s i hi
  rw [ByteArray.size_extract] at hj
  rw [bt_extract s i _ j (by omega) hb.2]
  exact upto_all isDig s (s.size - i) i (by omega) (i + j) (by omega) (by unfold upto at hj hb; omega)
def numF (s : ByteArray) (i : Nat) (n0 a0 : Int) : Int × ByteArray × Int × Int × Int × ByteArray × Int :=
  if (parseP (s.extract i (upto isDig s i))).2 ≠ 0 then (1, s.extract i (upto isDig s i), n0, a0, 33, s, ((upto isDig s i : Nat) : Int))
  else if upto isDig s i < s.size ∧ isLet (bt s ((upto isDig s i : Nat) : Int)) = true then (1, s.extract i (upto isDig s i), (parseP (s.extract i (upto isDig s i))).1, ((upto isDig s i : Nat) : Int), 31, s, ((upto isDig s i : Nat) : Int))
  else (1, s.extract i (upto isDig s i), (parseP (s.extract i (upto isDig s i))).1, a0, 0, s, ((upto isDig s i : Nat) : Int))
def lex_cutter_number.f (s : ByteArray) (i : Int) (k0 : Int) (t0 : ByteArray) (n0 a0 : Int) : Option (Int × ByteArray × Int × Int × Int × ByteArray × Int) :=
  if 0 ≤ i ∧ i < (s.size : Int) ∧ s.size ≤ 140737488351232 ∧ isDig (bt s i) = true then some (numF s i.toNat n0 a0) else none
def wordF (s : ByteArray) (i : Nat) (n0 a0 : Int) : Int × ByteArray × Int × Int × Int × ByteArray × Int :=
  if lex_Words.f (s.extract i (upto isAn s i)) = some true then (3, s.extract i (upto isAn s i), n0, a0, 0, s, ((upto isAn s i : Nat) : Int))
  else if 12 < (s.extract i (upto isAn s i)).size then (2, s.extract i (upto isAn s i), n0, a0, 32, s, ((upto isAn s i : Nat) : Int))
  else (2, s.extract i (upto isAn s i), n0, a0, 0, s, ((upto isAn s i : Nat) : Int))
def lex_cutter_word.f (s : ByteArray) (i : Int) (k0 : Int) (t0 : ByteArray) (n0 a0 : Int) : Option (Int × ByteArray × Int × Int × Int × ByteArray × Int) :=
  if 0 ≤ i ∧ i ≤ (s.size : Int) ∧ s.size ≤ 140737488351232 then some (wordF s i.toNat n0 a0) else none
def TokPost (w0 w : World) (g : Nat) (r : Int × ByteArray × Int × Int × Int × ByteArray × Int) (e : Ending) (w' : World) : Prop :=
  e = .returned (.tuple #[.agg #[.int .i64 r.1, .string r.2.1, .int .i64 r.2.2.1, .int .i64 r.2.2.2.1], .int .i64 r.2.2.2.2.1]) ∧ IsS41 w0 w' g r.2.2.2.2.2.1 r.2.2.2.2.2.2 ∧ Below w0.heap.size w0 w' ∧ KeepBut w w' g none
set_option maxHeartbeats 4000000 in
set_option maxRecDepth 100000 in
theorem number_calls (s : ByteArray) (i g : Nat) (k0 : Int) (t0 : ByteArray) (n0 a0 : Int) (w0 w : World) (hi : i < s.size) (hs : s.size ≤ 140737488351232) (hd : isDig (bt s (i : Int)) = true) (hI : IsS41 w0 w g s i) (hB : Below w0.heap.size w0 w) :
    Calls Try.prog 97 #[.pointer (some ⟨g, 0, none⟩), .agg #[.int .i64 k0, .string t0, .int .i64 n0, .int .i64 a0]] w (TokPost w0 w g (numF s i n0 a0)) := by
  have hw := Lib.hid (fun W (h1 : IsS41 w0 W g s i) (h2 : Below w0.heap.size w0 W) => while_26 s i g w0 W (by omega) hs h1 h2)
  have hul := upto_le isDig s i (by omega)
  have hu1 : i + 1 ≤ upto isDig s i := by
    have h1 := upto_in isDig s i hi hd
    have h2 := upto_le isDig s (i + 1) (by omega)
    omega
  have hsz : (s.extract i (upto isDig s i)).size = upto isDig s i - i := by rw [ByteArray.size_extract]; omega
  obtain ⟨kp, hkp⟩ := parse_ok (s.extract i (upto isDig s i)) (by omega) (by omega) (digs_upto s i (by omega))
  have hpc := Lib.hid (fun W => num_Parse.calls kp (s.extract i (upto isDig s i)) (parseP (s.extract i (upto isDig s i))).1 (parseP (s.extract i (upto isDig s i))).2 W hkp)
  have hnf := Lib.hid (numF.eq_1 s i n0 a0)
  generalize hE : upto isDig s i = E at *
  have hwr := Lib.hid (show ∀ e w', WPost26 isDig s i g w0 w e w' → e = .returned (.string (s.extract i E)) ∧ IsS41 w0 w' g s E ∧ Below w0.heap.size w0 w' ∧ KeepBut w w' g none from fun e w' h => by unfold WPost26 at h; rw [hE] at h; exact h)
  have hwp := Lib.hid (show ∀ (W : World) e w', WPost26 isDig s i g w0 W e w' → e = .returned (.string (s.extract i E)) ∧ IsS41 w0 w' g s E ∧ Below w0.heap.size w0 w' ∧ KeepBut W w' g none from fun W e w' h => by unfold WPost26 at h; rw [hE] at h; exact h)
  clear hE hwr hkp hd hsz
  generalize parseP (s.extract i E) = pp at *
  generalize s.extract i E = tx at *
  have HI := Aside0.mk hI
  have HB := Aside0.mk hB
  have HK := Aside0.mk (KeepBut.refl w g none)
  clear hI hB
  go_enter Try.func97, Try.ntmps97
  go_wp2_with (first | ((with_reducible refine gate_dst (N := 3) rfl ?_); refine box_event ?hg (N := 3) ?hd (cs := #[.int .i64 k0, .string t0, .int .i64 n0, .int .i64 a0]) (t := 58) ?hr ?_; (case hd => rfl); (case hg => rfl); (case hr => first | (go_simp; done) | (go_simp; rfl)); intro bx hg w3 hbox hb; have m1_ := Aside0.mk (below_step HB.out hb); have m2_ := Aside0.mk hbox; have m3_ := Aside0.mk (IsS41.below HI.out hb); have m4_ := Aside0.mk (KeepBut.trans HK.out (KeepBut.of_below hb g none) (.inl rfl)); have ge0 : w0.heap.size ≤ bx := (by rw [hg]; exact below_size HB.out); have ge1 : w.heap.size ≤ bx := Nat.le_of_eq hg.symm; clear HB HI HK hb hbox hg; have HB := m1_; have HX := m2_; have HI := m3_; have HK := m4_; clear m1_ m2_ m3_ m4_))
  refine (hw.out _ (IsS41.alloc HI.out _) (below_alloc HB.out _)).mono ?_
  intro e w5 hp
  obtain ⟨he, hi5, hb5, hk5⟩ := hwp.out _ _ _ hp
  subst he
  have nxg : bx ≠ g := fun e => (IsS41.ne_blk HI.out HX.out (by decide)) (by first | exact e.symm | exact e)
  have nrg : w3.heap.size ≠ g := fun e => by have := IsS41.lt HI.out; omega
  have m1_ := Aside0.mk (hk5.blk (blk_alloc HX.out _) nxg (by simp))
  have m2_ := Aside0.mk (hk5.blk (blk_new w3 (.cells #[.int .i64 0, .string ⟨#[]⟩, .int .i64 0, .int .i64 0] 58 (0, 0))) nrg (by simp))
  have m3_ := Aside0.mk (KeepBut.trans (keep_alloc HK.out _) hk5 (.inl rfl))
  have nxr : bx ≠ w3.heap.size := fun e => by have := blk_lt HX.out; omega
  have gr0 : w0.heap.size ≤ w3.heap.size := below_size HB.out
  have gr1 : w.heap.size ≤ w3.heap.size := HK.out.1
  generalize w3.heap.size = br at *
  clear HX HI HB HK hw hwp hp hk5
  have HX := m1_
  have HR := m2_
  have HK := m3_
  have HI := Aside0.mk hi5
  have HB := Aside0.mk hb5
  clear m1_ m2_ m3_ hi5 hb5
  have x0 : w5.cell? ⟨bx, 0, none⟩ = some (.int .i64 k0) := (blk_cell HX.out 0).trans rfl
  have x1 : w5.cell? ⟨bx, 1, none⟩ = some (.string t0) := (blk_cell HX.out 1).trans rfl
  have z0 := blk_frozen HX.out 0
  have z1 := blk_frozen HX.out 1
  go_wp2_with fail
  generalize hW : ((w5.setCell ⟨bx, 0, none⟩ (.int .i64 1)).setCell ⟨bx, 1, none⟩ (.string tx)) = W2
  have m1_ := Aside0.mk (show W2.heap[bx]? = some (.cells #[.int .i64 1, .string tx, .int .i64 n0, .int .i64 a0] 58 (0, 0)) by rw [← hW]; exact blk_put (blk_put HX.out 0 _ rfl) 1 _ rfl)
  have m2_ := Aside0.mk (show W2.heap[br]? = some (.cells #[.int .i64 0, .string ⟨#[]⟩, .int .i64 0, .int .i64 0] 58 (0, 0)) by rw [← hW]; exact blk_far (blk_far HR.out (fun e => nxr e.symm) _) (fun e => nxr e.symm) _)
  have m3_ := Aside0.mk (show IsS41 w0 W2 g s E by rw [← hW]; exact IsS41.far (IsS41.far HI.out (fun e => nxg e.symm) _) (fun e => nxg e.symm) _)
  have m4_ := Aside0.mk (show Below w0.heap.size w0 W2 by rw [← hW]; exact below_set (below_set HB.out ge0) ge0)
  have m5_ := Aside0.mk (show KeepBut w W2 g none by rw [← hW]; exact keep_far (keep_far HK.out ge1 _) ge1 _)
  clear hW HX HR HI HB HK x0 x1 z0 z1
  have HX := m1_
  have HR := m2_
  have HI := m3_
  have HB := m4_
  have HK := m5_
  clear m1_ m2_ m3_ m4_ m5_
  refine (hpc.out _).mono ?_
  rintro e w6 ⟨rfl, ⟨nd, rfl⟩⟩
  clear hpc
  obtain ⟨pv, pe⟩ := pp
  have hx : (W2.drewN nd).heap[bx]? = some (.cells #[.int .i64 1, .string tx, .int .i64 n0, .int .i64 a0] 58 (0, 0)) := HX.out
  have hr : (W2.drewN nd).heap[br]? = some (.cells #[.int .i64 0, .string ⟨#[]⟩, .int .i64 0, .int .i64 0] 58 (0, 0)) := HR.out
  generalize hW : W2.drewN nd = W3 at *
  have m3_ := Aside0.mk (show IsS41 w0 W3 g s E by rw [← hW]; exact HI.out)
  have m4_ := Aside0.mk (show Below w0.heap.size w0 W3 by rw [← hW]; exact pw_below_drewN HB.out _)
  have m5_ := Aside0.mk (show KeepBut w W3 g none by rw [← hW]; exact keep_drewN HK.out _)
  clear HX HR HI HB HK hW
  have HX := Aside0.mk hx
  have HR := Aside0.mk hr
  have HI := m3_
  have HB := m4_
  have HK := m5_
  clear hx hr m3_ m4_ m5_
  have x0 : W3.cell? ⟨bx, 0, none⟩ = some (.int .i64 1) := (blk_cell HX.out 0).trans rfl
  have x1 : W3.cell? ⟨bx, 1, none⟩ = some (.string tx) := (blk_cell HX.out 1).trans rfl
  have x2 : W3.cell? ⟨bx, 2, none⟩ = some (.int .i64 n0) := (blk_cell HX.out 2).trans rfl
  have x3 : W3.cell? ⟨bx, 3, none⟩ = some (.int .i64 a0) := (blk_cell HX.out 3).trans rfl
  have z2 := blk_frozen HX.out 2
  have z3 := blk_frozen HX.out 3
  have r0 : W3.cell? ⟨br, 0, none⟩ = some (.int .i64 0) := (blk_cell HR.out 0).trans rfl
  have r1 : W3.cell? ⟨br, 1, none⟩ = some (.string ⟨#[]⟩) := (blk_cell HR.out 1).trans rfl
  have r2 : W3.cell? ⟨br, 2, none⟩ = some (.int .i64 0) := (blk_cell HR.out 2).trans rfl
  have r3 : W3.cell? ⟨br, 3, none⟩ = some (.int .i64 0) := (blk_cell HR.out 3).trans rfl
  have q0 := blk_frozen HR.out 0
  have q1 := blk_frozen HR.out 1
  have q2 := blk_frozen HR.out 2
  have q3 := blk_frozen HR.out 3
  have nrx : br ≠ bx := fun e => nxr e.symm
  have ngr : g ≠ br := fun e => nrg e.symm
  have ngx : g ≠ bx := fun e => nxg e.symm
  cases hpe : (pe != 0) with
  | true =>
    have hnf2 := hnf.out
    simp only at hnf2
    rw [if_pos (by simpa using hpe)] at hnf2
    have HN := Lib.hid hnf2
    clear hnf hnf2
    go_wp2
    refine bodyPost_ret (v := .tuple #[.agg #[.int .i64 1, .string tx, .int .i64 n0, .int .i64 a0], .int .i64 33]) (by simp [results, Try.results97, go_sem, x0, x1, x2, x3, r0, r1, r2, r3, q0, q1, q2, q3, nrx, nxr]) rfl ?_
    rw [HN.out]
    exact ⟨rfl, IsS41.far (IsS41.far (IsS41.far (IsS41.far HI.out ngr _) ngr _) ngr _) ngr _, below_set (below_set (below_set (below_set HB.out gr0) gr0) gr0) gr0, keep_far (keep_far (keep_far (keep_far HK.out gr1 _) gr1 _) gr1 _) gr1 _⟩
  | false =>
    have hnf2 := hnf.out
    simp only at hnf2
    rw [if_neg (by simpa using hpe)] at hnf2
    have HN := Lib.hid hnf2
    clear hnf hnf2
    obtain ⟨X, hX⟩ : ∃ X : Int, X = (E : Int) := ⟨_, rfl⟩
    have HXE := Lib.hid hX
    have HI2 := Aside0.mk (show IsS41 w0 W3 g s X by rw [hX]; exact HI.out)
    clear HI hX
    have HI := HI2
    clear HI2
    go_wp2
    generalize hW : W3.setCell ⟨bx, 2, none⟩ (.int .i64 pv) = W4
    have m1_ := Aside0.mk (show W4.heap[bx]? = some (.cells #[.int .i64 1, .string tx, .int .i64 pv, .int .i64 a0] 58 (0, 0)) by rw [← hW]; exact blk_put HX.out 2 _ rfl)
    have m2_ := Aside0.mk (show W4.heap[br]? = some (.cells #[.int .i64 0, .string ⟨#[]⟩, .int .i64 0, .int .i64 0] 58 (0, 0)) by rw [← hW]; exact blk_far HR.out nrx _)
    have m3_ := Aside0.mk (show IsS41 w0 W4 g s X by rw [← hW]; exact IsS41.far HI.out ngx _)
    have m4_ := Aside0.mk (show Below w0.heap.size w0 W4 by rw [← hW]; exact below_set HB.out ge0)
    have m5_ := Aside0.mk (show KeepBut w W4 g none by rw [← hW]; exact keep_far HK.out ge1 _)
    clear hW HX HR HI HB HK x0 x1 x2 x3 z2 z3 r0 r1 r2 r3 q0 q1 q2 q3
    have HX := m1_
    have HR := m2_
    have HI := m3_
    have HB := m4_
    have HK := m5_
    clear m1_ m2_ m3_ m4_ m5_
    have x0 : W4.cell? ⟨bx, 0, none⟩ = some (.int .i64 1) := (blk_cell HX.out 0).trans rfl
    have x1 : W4.cell? ⟨bx, 1, none⟩ = some (.string tx) := (blk_cell HX.out 1).trans rfl
    have x2 : W4.cell? ⟨bx, 2, none⟩ = some (.int .i64 pv) := (blk_cell HX.out 2).trans rfl
    have x3 : W4.cell? ⟨bx, 3, none⟩ = some (.int .i64 a0) := (blk_cell HX.out 3).trans rfl
    have z3 := blk_frozen HX.out 3
    have r0 : W4.cell? ⟨br, 0, none⟩ = some (.int .i64 0) := (blk_cell HR.out 0).trans rfl
    have r1 : W4.cell? ⟨br, 1, none⟩ = some (.string ⟨#[]⟩) := (blk_cell HR.out 1).trans rfl
    have r2 : W4.cell? ⟨br, 2, none⟩ = some (.int .i64 0) := (blk_cell HR.out 2).trans rfl
    have r3 : W4.cell? ⟨br, 3, none⟩ = some (.int .i64 0) := (blk_cell HR.out 3).trans rfl
    have q0 := blk_frozen HR.out 0
    have q1 := blk_frozen HR.out 1
    have q2 := blk_frozen HR.out 2
    have q3 := blk_frozen HR.out 3
    have c0 : W4.cell? ⟨g, 0, none⟩ = some (.string s) := (blk_cell HI.out.1 0).trans rfl
    have c1 : W4.cell? ⟨g, 1, none⟩ = some (.int .i64 X) := (blk_cell HI.out.1 1).trans rfl
    by_cases hlt : X < (s.size : Int)
    · have hEs : E < s.size := by have := HXE.out; omega
      have hx0 : 0 ≤ X := by have := HXE.out; omega
      have hlet := Lib.hid (show isLet (bt s X) = isLet (bt s (E : Int)) by rw [HXE.out])
      have hc := Lib.hid (fun W => lex_letter.calls (bt s X) (isLet (bt s X)) W (letter_f _))
      have g1 : decide (X < (s.size : Int)) = true := decide_eq_true hlt
      have p4 : ((0 : Int) ≤ X) = True := eq_true hx0
      have q4 : (X < (s.size : Int)) = True := eq_true hlt
      have hx4 := bt_at s X
      clear hlt hx0
      cases hp : isLet (bt s X) with
      | true =>
        rw [hp] at hc hlet
        have HN2 := Lib.hid (HN.out.trans (if_pos ⟨hEs, hlet.out.symm⟩))
        clear hlet HN hp hEs
        have HN := HN2
        clear HN2
        go_quiet (first | (go_at_call 98; refine (hc.out _).mono ?_; rintro e w' ⟨rfl, ⟨nd, rfl⟩⟩; (try first | exact ⟨rfl, _, World.drewN_drewN _ _ _⟩ | exact ⟨rfl, _, Eq.trans (World.drewN_drewN _ _ _) (congrArg (World.drewN _) (Nat.add_assoc _ _ _))⟩)))
        go_wp2
        refine bodyPost_ret (v := .tuple #[.agg #[.int .i64 1, .string tx, .int .i64 pv, .int .i64 X], .int .i64 31]) (by simp [results, Try.results97, go_sem, x0, x1, x2, x3, r0, r1, r2, r3, q0, q1, q2, q3, nrx, nxr]) rfl ?_
        rw [HN.out]
        exact ⟨by rw [HXE.out], IsS41.far (IsS41.far (IsS41.far (IsS41.far (IsS41.far (IsS41.drewN (by rw [← HXE.out]; exact HI.out) _) ngx _) ngr _) ngr _) ngr _) ngr _, below_set (below_set (below_set (below_set (below_set (pw_below_drewN HB.out _) ge0) gr0) gr0) gr0) gr0, keep_far (keep_far (keep_far (keep_far (keep_far (keep_drewN HK.out _) ge1 _) gr1 _) gr1 _) gr1 _) gr1 _⟩
      | false =>
        rw [hp] at hc hlet
        have HN2 := Lib.hid (HN.out.trans (if_neg (fun h => by rw [← hlet.out] at h; simp at h)))
        clear hlet HN hp hEs
        have HN := HN2
        clear HN2
        go_quiet (first | (go_at_call 98; refine (hc.out _).mono ?_; rintro e w' ⟨rfl, ⟨nd, rfl⟩⟩; (try first | exact ⟨rfl, _, World.drewN_drewN _ _ _⟩ | exact ⟨rfl, _, Eq.trans (World.drewN_drewN _ _ _) (congrArg (World.drewN _) (Nat.add_assoc _ _ _))⟩)))
        go_wp2
        refine bodyPost_ret (v := .tuple #[.agg #[.int .i64 1, .string tx, .int .i64 pv, .int .i64 a0], .int .i64 0]) (by simp [results, Try.results97, go_sem, x0, x1, x2, x3, r0, r1, r2, r3, q0, q1, q2, q3, nrx, nxr]) rfl ?_
        rw [HN.out]
        exact ⟨rfl, IsS41.far (IsS41.far (IsS41.far (IsS41.far (IsS41.drewN (by rw [← HXE.out]; exact HI.out) _) ngr _) ngr _) ngr _) ngr _, below_set (below_set (below_set (below_set (pw_below_drewN HB.out _) gr0) gr0) gr0) gr0, keep_far (keep_far (keep_far (keep_far (keep_drewN HK.out _) gr1 _) gr1 _) gr1 _) gr1 _⟩
    · have hEs : ¬ E < s.size := by have := HXE.out; omega
      have HN2 := Lib.hid (HN.out.trans (if_neg (fun h => hEs h.1)))
      clear HN hEs
      have HN := HN2
      clear HN2
      have g1 : decide (X < (s.size : Int)) = false := decide_eq_false hlt
      go_quiet (fail)
      go_wp2
      refine bodyPost_ret (v := .tuple #[.agg #[.int .i64 1, .string tx, .int .i64 pv, .int .i64 a0], .int .i64 0]) (by simp [results, Try.results97, go_sem, x0, x1, x2, x3, r0, r1, r2, r3, q0, q1, q2, q3, nrx, nxr]) rfl ?_
      rw [HN.out]
      exact ⟨rfl, IsS41.far (IsS41.far (IsS41.far (IsS41.far (IsS41.drewN (by rw [← HXE.out]; exact HI.out) _) ngr _) ngr _) ngr _) ngr _, below_set (below_set (below_set (below_set (pw_below_drewN HB.out _) gr0) gr0) gr0) gr0, keep_far (keep_far (keep_far (keep_far (keep_drewN HK.out _) gr1 _) gr1 _) gr1 _) gr1 _⟩
theorem words_some (t : ByteArray) : ∃ b, lex_Words.f t = some b := by
  unfold lex_Words.f
  repeat (first | exact ⟨_, rfl⟩ | split)
set_option maxHeartbeats 4000000 in
set_option maxRecDepth 100000 in
theorem word_calls (s : ByteArray) (i g : Nat) (k0 : Int) (t0 : ByteArray) (n0 a0 : Int) (w0 w : World) (hi : i ≤ s.size) (hs : s.size ≤ 140737488351232) (hI : IsS41 w0 w g s i) (hB : Below w0.heap.size w0 w) :
    Calls Try.prog 99 #[.pointer (some ⟨g, 0, none⟩), .agg #[.int .i64 k0, .string t0, .int .i64 n0, .int .i64 a0]] w (TokPost w0 w g (wordF s i n0 a0)) := by
  have hw := Lib.hid (fun W (h1 : IsS41 w0 W g s i) (h2 : Below w0.heap.size w0 W) => while_38 s i g w0 W (by omega) hs h1 h2)
  have hul := upto_le isAn s i (by omega)
  obtain ⟨wb, hwb⟩ := words_some (s.extract i (upto isAn s i))
  have hpc := Lib.hid (fun W => lex_Words.calls (s.extract i (upto isAn s i)) wb W hwb)
  have hnf := Lib.hid (wordF.eq_1 s i n0 a0)
  generalize hE : upto isAn s i = E at *
  have hwr := Lib.hid (show ∀ e w', WPost38 isAn s i g w0 w e w' → e = .returned (.string (s.extract i E)) ∧ IsS41 w0 w' g s E ∧ Below w0.heap.size w0 w' ∧ KeepBut w w' g none from fun e w' h => by unfold WPost38 at h; rw [hE] at h; exact h)
  have hwp := Lib.hid (show ∀ (W : World) e w', WPost38 isAn s i g w0 W e w' → e = .returned (.string (s.extract i E)) ∧ IsS41 w0 w' g s E ∧ Below w0.heap.size w0 w' ∧ KeepBut W w' g none from fun W e w' h => by unfold WPost38 at h; rw [hE] at h; exact h)
  rw [hwb] at hnf
  clear hE hwr hwb
  generalize s.extract i E = tx at *
  have HI := Aside0.mk hI
  have HB := Aside0.mk hB
  have HK := Aside0.mk (KeepBut.refl w g none)
  clear hI hB
  go_enter Try.func99, Try.ntmps99
  go_wp2_with (first | ((with_reducible refine gate_dst (N := 3) rfl ?_); refine box_event ?hg (N := 3) ?hd (cs := #[.int .i64 k0, .string t0, .int .i64 n0, .int .i64 a0]) (t := 58) ?hr ?_; (case hd => rfl); (case hg => rfl); (case hr => first | (go_simp; done) | (go_simp; rfl)); intro bx hg w3 hbox hb; have m1_ := Aside0.mk (below_step HB.out hb); have m2_ := Aside0.mk hbox; have m3_ := Aside0.mk (IsS41.below HI.out hb); have m4_ := Aside0.mk (KeepBut.trans HK.out (KeepBut.of_below hb g none) (.inl rfl)); have ge0 : w0.heap.size ≤ bx := (by rw [hg]; exact below_size HB.out); have ge1 : w.heap.size ≤ bx := Nat.le_of_eq hg.symm; clear HB HI HK hb hbox hg; have HB := m1_; have HX := m2_; have HI := m3_; have HK := m4_; clear m1_ m2_ m3_ m4_))
  refine (hw.out _ (IsS41.alloc HI.out _) (below_alloc HB.out _)).mono ?_
  intro e w5 hp
  obtain ⟨he, hi5, hb5, hk5⟩ := hwp.out _ _ _ hp
  subst he
  have nxg : bx ≠ g := fun e => (IsS41.ne_blk HI.out HX.out (by decide)) (by first | exact e.symm | exact e)
  have nrg : w3.heap.size ≠ g := fun e => by have := IsS41.lt HI.out; omega
  have m1_ := Aside0.mk (hk5.blk (blk_alloc HX.out _) nxg (by simp))
  have m2_ := Aside0.mk (hk5.blk (blk_new w3 (.cells #[.int .i64 0, .string ⟨#[]⟩, .int .i64 0, .int .i64 0] 58 (0, 0))) nrg (by simp))
  have m3_ := Aside0.mk (KeepBut.trans (keep_alloc HK.out _) hk5 (.inl rfl))
  have nxr : bx ≠ w3.heap.size := fun e => by have := blk_lt HX.out; omega
  have gr0 : w0.heap.size ≤ w3.heap.size := below_size HB.out
  have gr1 : w.heap.size ≤ w3.heap.size := HK.out.1
  generalize w3.heap.size = br at *
  clear HX HI HB HK hw hwp hp hk5
  have HX := m1_
  have HR := m2_
  have HK := m3_
  have HI := Aside0.mk hi5
  have HB := Aside0.mk hb5
  clear m1_ m2_ m3_ hi5 hb5
  have x0 : w5.cell? ⟨bx, 0, none⟩ = some (.int .i64 k0) := (blk_cell HX.out 0).trans rfl
  have x1 : w5.cell? ⟨bx, 1, none⟩ = some (.string t0) := (blk_cell HX.out 1).trans rfl
  have z0 := blk_frozen HX.out 0
  have z1 := blk_frozen HX.out 1
  go_wp2_with fail
  generalize hW : ((w5.setCell ⟨bx, 0, none⟩ (.int .i64 2)).setCell ⟨bx, 1, none⟩ (.string tx)) = W2
  have m1_ := Aside0.mk (show W2.heap[bx]? = some (.cells #[.int .i64 2, .string tx, .int .i64 n0, .int .i64 a0] 58 (0, 0)) by rw [← hW]; exact blk_put (blk_put HX.out 0 _ rfl) 1 _ rfl)
  have m2_ := Aside0.mk (show W2.heap[br]? = some (.cells #[.int .i64 0, .string ⟨#[]⟩, .int .i64 0, .int .i64 0] 58 (0, 0)) by rw [← hW]; exact blk_far (blk_far HR.out (fun e => nxr e.symm) _) (fun e => nxr e.symm) _)
  have m3_ := Aside0.mk (show IsS41 w0 W2 g s E by rw [← hW]; exact IsS41.far (IsS41.far HI.out (fun e => nxg e.symm) _) (fun e => nxg e.symm) _)
  have m4_ := Aside0.mk (show Below w0.heap.size w0 W2 by rw [← hW]; exact below_set (below_set HB.out ge0) ge0)
  have m5_ := Aside0.mk (show KeepBut w W2 g none by rw [← hW]; exact keep_far (keep_far HK.out ge1 _) ge1 _)
  clear hW HX HR HI HB HK x0 x1 z0 z1
  have HX := m1_
  have HR := m2_
  have HI := m3_
  have HB := m4_
  have HK := m5_
  clear m1_ m2_ m3_ m4_ m5_
  refine (hpc.out _).mono ?_
  rintro e w6 ⟨rfl, ⟨nd, rfl⟩⟩
  clear hpc
  have hx : (W2.drewN nd).heap[bx]? = some (.cells #[.int .i64 2, .string tx, .int .i64 n0, .int .i64 a0] 58 (0, 0)) := HX.out
  have hr : (W2.drewN nd).heap[br]? = some (.cells #[.int .i64 0, .string ⟨#[]⟩, .int .i64 0, .int .i64 0] 58 (0, 0)) := HR.out
  generalize hW : W2.drewN nd = W3 at *
  have m3_ := Aside0.mk (show IsS41 w0 W3 g s E by rw [← hW]; exact HI.out)
  have m4_ := Aside0.mk (show Below w0.heap.size w0 W3 by rw [← hW]; exact pw_below_drewN HB.out _)
  have m5_ := Aside0.mk (show KeepBut w W3 g none by rw [← hW]; exact keep_drewN HK.out _)
  clear HX HR HI HB HK hW
  have HX := Aside0.mk hx
  have HR := Aside0.mk hr
  have HI := m3_
  have HB := m4_
  have HK := m5_
  clear hx hr m3_ m4_ m5_
  have x0 : W3.cell? ⟨bx, 0, none⟩ = some (.int .i64 2) := (blk_cell HX.out 0).trans rfl
  have x1 : W3.cell? ⟨bx, 1, none⟩ = some (.string tx) := (blk_cell HX.out 1).trans rfl
  have x2 : W3.cell? ⟨bx, 2, none⟩ = some (.int .i64 n0) := (blk_cell HX.out 2).trans rfl
  have x3 : W3.cell? ⟨bx, 3, none⟩ = some (.int .i64 a0) := (blk_cell HX.out 3).trans rfl
  have z0 := blk_frozen HX.out 0
  have r0 : W3.cell? ⟨br, 0, none⟩ = some (.int .i64 0) := (blk_cell HR.out 0).trans rfl
  have r1 : W3.cell? ⟨br, 1, none⟩ = some (.string ⟨#[]⟩) := (blk_cell HR.out 1).trans rfl
  have r2 : W3.cell? ⟨br, 2, none⟩ = some (.int .i64 0) := (blk_cell HR.out 2).trans rfl
  have r3 : W3.cell? ⟨br, 3, none⟩ = some (.int .i64 0) := (blk_cell HR.out 3).trans rfl
  have q0 := blk_frozen HR.out 0
  have q1 := blk_frozen HR.out 1
  have q2 := blk_frozen HR.out 2
  have q3 := blk_frozen HR.out 3
  have nrx : br ≠ bx := fun e => nxr e.symm
  have ngr : g ≠ br := fun e => nrg e.symm
  have ngx : g ≠ bx := fun e => nxg e.symm
  cases wb with
  | true =>
    have HN := Lib.hid (hnf.out.trans (if_pos rfl))
    clear hnf
    go_wp2
    refine bodyPost_ret (v := .tuple #[.agg #[.int .i64 3, .string tx, .int .i64 n0, .int .i64 a0], .int .i64 0]) (by simp [results, Try.results99, go_sem, x0, x1, x2, x3, r0, r1, r2, r3, q0, q1, q2, q3, nrx, nxr]) rfl ?_
    rw [HN.out]
    exact ⟨rfl, IsS41.far (IsS41.far (IsS41.far (IsS41.far (IsS41.far HI.out ngx _) ngr _) ngr _) ngr _) ngr _, below_set (below_set (below_set (below_set (below_set HB.out ge0) gr0) gr0) gr0) gr0, keep_far (keep_far (keep_far (keep_far (keep_far HK.out ge1 _) gr1 _) gr1 _) gr1 _) gr1 _⟩
  | false =>
    have HN0 := Lib.hid (hnf.out.trans (if_neg (by simp)))
    clear hnf
    by_cases hl : 12 < tx.size
    · have HN := Lib.hid (HN0.out.trans (if_pos hl))
      clear HN0
      have hl2 : (12 : Int) < (tx.size : Int) := by omega
      clear hl
      go_wp2
      refine bodyPost_ret (v := .tuple #[.agg #[.int .i64 2, .string tx, .int .i64 n0, .int .i64 a0], .int .i64 32]) (by simp [results, Try.results99, go_sem, x0, x1, x2, x3, r0, r1, r2, r3, q0, q1, q2, q3, nrx, nxr]) rfl ?_
      rw [HN.out]
      exact ⟨rfl, IsS41.far (IsS41.far (IsS41.far (IsS41.far HI.out ngr _) ngr _) ngr _) ngr _, below_set (below_set (below_set (below_set HB.out gr0) gr0) gr0) gr0, keep_far (keep_far (keep_far (keep_far HK.out gr1 _) gr1 _) gr1 _) gr1 _⟩
    · have HN := Lib.hid (HN0.out.trans (if_neg hl))
      clear HN0
      have hl2 : ¬ (12 : Int) < (tx.size : Int) := by omega
      clear hl
      go_wp2
      refine bodyPost_ret (v := .tuple #[.agg #[.int .i64 2, .string tx, .int .i64 n0, .int .i64 a0], .int .i64 0]) (by simp [results, Try.results99, go_sem, x0, x1, x2, x3, r0, r1, r2, r3, q0, q1, q2, q3, nrx, nxr]) rfl ?_
      rw [HN.out]
      exact ⟨rfl, IsS41.far (IsS41.far (IsS41.far (IsS41.far HI.out ngr _) ngr _) ngr _) ngr _, below_set (below_set (below_set (below_set HB.out gr0) gr0) gr0) gr0, keep_far (keep_far (keep_far (keep_far HK.out gr1 _) gr1 _) gr1 _) gr1 _⟩
theorem lex_cutter_number.calls (g : Nat) (s0_0 : ByteArray) (s0_1 : Int) (a1_0 : Int) (a1_1 : ByteArray) (a1_2 : Int) (a1_3 : Int) (r1 : Int) (r2 : ByteArray) (r3 : Int) (r4 : Int) (r5 : Int) (r6 : ByteArray) (r7 : Int) (w0 w : World) (hI : IsS41 w0 w g s0_0 s0_1) (hB : Below w0.heap.size w0 w) (h : lex_cutter_number.f s0_0 s0_1 a1_0 a1_1 a1_2 a1_3 = some (r1, r2, r3, r4, r5, r6, r7)) :
    Calls Try.prog 97 #[.pointer (some ⟨g, 0, none⟩), .agg #[.int .i64 a1_0, .string a1_1, .int .i64 a1_2, .int .i64 a1_3]] w fun e w' => e = .returned (.tuple #[.agg #[.int .i64 r1, .string r2, .int .i64 r3, .int .i64 r4], .int .i64 r5]) ∧ IsS41 w0 w' g r6 r7 ∧ Below w0.heap.size w0 w' ∧ KeepBut w w' g none := by
  unfold lex_cutter_number.f at h
  by_cases c : 0 ≤ s0_1 ∧ s0_1 < (s0_0.size : Int) ∧ s0_0.size ≤ 140737488351232 ∧ isDig (bt s0_0 s0_1) = true
  · rw [if_pos c] at h
    obtain ⟨c1, c2, c3, c4⟩ := c
    obtain ⟨i, rfl⟩ := Int.eq_ofNat_of_zero_le c1
    have := number_calls s0_0 i g a1_0 a1_1 a1_2 a1_3 w0 w (by omega) c3 c4 hI hB
    have e := Option.some.inj h
    rw [Int.toNat_natCast] at e
    rw [e] at this
    exact this
  · rw [if_neg c] at h; simp at h
theorem lex_cutter_word.calls (g : Nat) (s0_0 : ByteArray) (s0_1 : Int) (a1_0 : Int) (a1_1 : ByteArray) (a1_2 : Int) (a1_3 : Int) (r1 : Int) (r2 : ByteArray) (r3 : Int) (r4 : Int) (r5 : Int) (r6 : ByteArray) (r7 : Int) (w0 w : World) (hI : IsS41 w0 w g s0_0 s0_1) (hB : Below w0.heap.size w0 w) (h : lex_cutter_word.f s0_0 s0_1 a1_0 a1_1 a1_2 a1_3 = some (r1, r2, r3, r4, r5, r6, r7)) :
    Calls Try.prog 99 #[.pointer (some ⟨g, 0, none⟩), .agg #[.int .i64 a1_0, .string a1_1, .int .i64 a1_2, .int .i64 a1_3]] w fun e w' => e = .returned (.tuple #[.agg #[.int .i64 r1, .string r2, .int .i64 r3, .int .i64 r4], .int .i64 r5]) ∧ IsS41 w0 w' g r6 r7 ∧ Below w0.heap.size w0 w' ∧ KeepBut w w' g none := by
  unfold lex_cutter_word.f at h
  by_cases c : 0 ≤ s0_1 ∧ s0_1 ≤ (s0_0.size : Int) ∧ s0_0.size ≤ 140737488351232
  · rw [if_pos c] at h
    obtain ⟨c1, c2, c3⟩ := c
    obtain ⟨i, rfl⟩ := Int.eq_ofNat_of_zero_le c1
    have := word_calls s0_0 i g a1_0 a1_1 a1_2 a1_3 w0 w (by omega) c3 hI hB
    have e := Option.some.inj h
    rw [Int.toNat_natCast] at e
    rw [e] at this
    exact this
  · rw [if_neg c] at h; simp at h
end Go.Proofs.Ytobkdmmnbnpemaa.Lx
