/- Texts of the claim, one behind the other. -/
import Derived.Test.YtobkdmmnbnpemaaXIB13
set_option maxHeartbeats 16000000
set_option maxRecDepth 100000
namespace Go.Proofs.Ytobkdmmnbnpemaa.Lx
open Go.RowKit Go.Proofs.YtobkdmmnbnpemaaW.PrintWords Go.Proofs.YtobkdmmnbnpemaaW.PrintLast Go.Proofs.YtobkdmmnbnpemaaW.PrintMore
set_option linter.unusedVariables false
theorem toList_loop (s : ByteArray) : ∀ r i (acc : List UInt8), i + r = s.size → ByteArray.toList.loop s i acc = acc.reverse ++ s.data.toList.drop i
 | 0, i, acc, h => by
  unfold ByteArray.toList.loop; rw [if_neg (by omega)]; have : s.data.toList.length ≤ i := by rw [data_length]; omega
  rw [List.drop_eq_nil_of_le this, List.append_nil]
 | r + 1, i, acc, h => by
  unfold ByteArray.toList.loop; rw [if_pos (by omega), toList_loop s r (i + 1) _ (by omega)]; have hl : i < s.data.toList.length := by rw [data_length]; omega
  have hs : i < s.data.size := by rw [Array.length_toList] at hl; exact hl
  rw [List.drop_eq_getElem_cons hl, List.reverse_cons, List.append_assoc]
  have e : s.get! i = s.data.toList[i] := by
   show s.data[i]! = _; rw [getElem!_pos s.data i hs]; simp
  rw [e, List.singleton_append]
theorem toList_eq (s : ByteArray) : s.toList = s.data.toList := by
 unfold ByteArray.toList; rw [toList_loop s s.size 0 [] (by omega)]
 rfl
theorem len_toList (s : ByteArray) : s.toList.length = s.size := by rw [toList_eq, data_length]
theorem sum_more (t : ByteArray) {r : Int × Bool} {k : Nat} (h : num_sum.l0 k t 0 (t.size : Int) 0 = some r) (K : Nat) (hK : k ≤ K) : num_sum.l0 K t 0 (t.size : Int) 0 = some r := by
 obtain ⟨j, rfl⟩ := Nat.le.dest hK; exact more_rounds (g := fun k => num_sum.l0 k t 0 (t.size : Int) 0) (fun k => num_sum.mono_l k _ _ _ _) k j r h
def dv (t : ByteArray) : Nat → Int
 | 0 => 0
 | i + 1 => dv t i * 10 + (bt t (i : Int) - 48)
def digs (t : ByteArray) : Prop := ∀ i : Nat, i < t.size → isDig (bt t (i : Int)) = true
theorem digs_at {t : ByteArray} (h : digs t) (i : Nat) (hi : i < t.size) : 48 ≤ bt t (i : Int) ∧ bt t (i : Int) ≤ 57 := by
 have := h i hi; unfold isDig at this
 simpa using this
theorem dv_nonneg {t : ByteArray} (h : digs t) : ∀ i, i ≤ t.size → 0 ≤ dv t i
 | 0, _ => Int.le_refl 0
 | i + 1, hi => by
  have := dv_nonneg h i (by omega); have := digs_at h i (by omega); unfold dv
  omega
theorem dv_mono {t : ByteArray} (h : digs t) (i : Nat) : ∀ r, i + r ≤ t.size → dv t i ≤ dv t (i + r)
 | 0, _ => Int.le_refl _
 | r + 1, hi => by
  have h1 := dv_mono h i r (by omega); have h2 := digs_at h (i + r) (by omega); have h3 := dv_nonneg h (i + r) (by omega); have e : dv t (i + (r + 1)) = dv t (i + r) * 10 + (bt t ((i + r : Nat) : Int) - 48) := rfl; rw [e]
  omega
def parseP (t : ByteArray) : Int × Int :=
 if bt t 0 = 48 ∧ 1 < t.size then (0, 10) else if dv t t.size > 9223372036854775807 then (0, 11) else (dv t t.size, 0)
theorem sum_ok (t : ByteArray) (h : digs t) (hs : t.size ≤ 140737488351232) : ∀ r i : Nat, i + r = t.size → dv t i ≤ 18446744073709551615 →
  num_sum.l0 (r + 1) t (dv t i) (t.size : Int) (i : Int) = some (if dv t t.size ≤ 18446744073709551615 then (dv t t.size, true) else (0, false)) := by
 intro r
 induction r with
 | zero =>
  intro i hi hd; have e : i = t.size := by omega
  subst e; rw [num_sum.l0, if_neg (by omega), if_pos hd]
 | succ r ih =>
  intro i hi hd; have hb := digs_at h i (by omega); have h0 := dv_nonneg h i (by omega); have hm := dv_mono h (i + 1) r (by omega); have e : dv t (i + 1) = dv t i * 10 + (bt t (i : Int) - 48) := rfl; have ei : i + 1 + r = t.size := by omega
  rw [ei] at hm; have em : (bt t (i : Int) - 48) % 256 = bt t (i : Int) - 48 := by omega
  rw [num_sum.l0, if_pos (by omega), if_pos (by omega), if_pos (by omega), em]; by_cases c : dv t i > (18446744073709551615 - (bt t (i : Int) - 48)) / 10
  ·rw [if_pos c, if_neg (by omega)]
  ·rw [if_neg c]
   have hih := ih (i + 1) (by omega) (by omega); have w1 : IntKind.u64.wrap (dv t i * 10) = dv t i * 10 := IntWalk.u64_in _ (by omega); have w2 : IntKind.u64.wrap (dv t i * 10 + (bt t (i : Int) - 48)) = dv t i * 10 + (bt t (i : Int) - 48) := IntWalk.u64_in _ (by omega); have w3 : wrap64 ((i : Int) + 1) = ((i + 1 : Nat) : Int) := by unfold wrap64; omega
   rw [w1, w2, w3, ← e]; exact hih
theorem parse_l0 (t : ByteArray) (h : digs t) (hs : t.size ≤ 140737488351232) (K : Nat) (hK : t.size + 1 < K) : ∀ r i : Nat, i + r = t.size →
  num_Parse.l0 (r + 1 + K) t false (t.size : Int) (i : Int) = (num_sum.f (K) t).bind fun b => if b.2 = true then num_Parse.j4 K false b.1 (decide (b.1 > 9223372036854775807)) else num_Parse.j4 K false b.1 (!b.2) := by
 intro r
 induction r with
 | zero =>
  intro i hi; have e : 0 + 1 + K = K + 1 := by omega
  rw [e, num_Parse.l0, if_neg (by omega)]; simp only [Bool.false_eq_true, if_false]
 | succ r ih =>
  intro i hi; have hb := digs_at h i (by omega); have e : r + 1 + 1 + K = (r + 1 + K) + 1 := by omega
  have w3 : wrap64 ((i : Int) + 1) = ((i + 1 : Nat) : Int) := by unfold wrap64; omega
  rw [e, num_Parse.l0, if_pos (by omega), if_pos (by omega), if_pos (by omega), if_neg (by omega), if_neg (by omega), w3]; exact ih (i + 1) (by omega)
theorem parse_ok (t : ByteArray) (h1 : 1 ≤ t.size) (hs : t.size ≤ 140737488351232) (h : digs t) : ∃ k, num_Parse.f k t = some (parseP t) := by
 have hne : ¬ t.toList = ([] : List UInt8) := by
  intro e; have h9 : t.toList.length = 0 := by rw [e]; rfl
  rw [len_toList] at h9
  omega
 have hb := digs_at h 0 (by omega)
 have hsum : ∀ K, t.size + 1 < K → num_sum.f K t = some (if dv t t.size ≤ 18446744073709551615 then (dv t t.size, true) else (0, false)) := by
  intro K hK; have := sum_ok t h hs t.size 0 (by omega) (by simp [dv]); have hk : num_sum.l0 (t.size + 1) t 0 (t.size : Int) 0 = some (if dv t t.size ≤ 18446744073709551615 then (dv t t.size, true) else (0, false)) := this; unfold num_sum.f; exact sum_more t hk K (by omega)
 refine ⟨t.size + 1 + (t.size + 10) + 1 + 1 + 1, ?_⟩
 unfold num_Parse.f; have h45 : (bt t 0 == 45) = false := by rw [beq_eq_false_iff_ne]; intro e; have h0 : bt t ((0 : Nat) : Int) = 45 := e; omega
 rw [if_neg hne, if_pos (by omega), h45, num_Parse.j0, if_neg (by simp), num_Parse.j1, if_neg hne, if_pos (by omega)]; have hl0 := parse_l0 t h hs (t.size + 10) (by omega) t.size 0 (by omega); rw [hsum _ (by omega)] at hl0
 have hrest : num_Parse.l0 (t.size + 1 + (t.size + 10)) t false (t.size : Int) 0 = some (if dv t t.size > 9223372036854775807 then (0, 11) else (dv t t.size, 0)) := by
  refine (show _ = _ from hl0).trans ?_
  simp only [Option.bind_some]; have hn := dv_nonneg h t.size (xlr _); have e10 : t.size + 10 = (t.size + 9) + 1 := by omega
  by_cases c : dv t t.size ≤ 18446744073709551615
  ·rw [if_pos c]
   simp only [if_true]; rw [e10, num_Parse.j4]; by_cases c2 : dv t t.size > 9223372036854775807
   ·rw [if_pos c2, xdt c2, if_pos rfl]
   ·rw [if_neg c2, xdf c2, if_neg (by simp), if_neg (by simp)]
    have : wrap64 (dv t t.size) = dv t t.size := by unfold wrap64; omega
    rw [this]
  ·rw [if_neg c]
   simp only [Bool.false_eq_true, if_false, Bool.not_false]; rw [e10, num_Parse.j4, if_pos rfl, if_pos (by omega)]
 unfold parseP; by_cases c : bt t 0 = 48
 ·rw [if_pos c]
  by_cases c2 : (t.size : Int) > 1
  ·rw [if_pos c2, if_pos ⟨c, by omega⟩, num_Parse.j2, if_pos rfl]
  ·rw [if_neg c2, if_neg (fun q => by have := q.2; omega), num_Parse.j2, if_neg (by simp)]
   exact hrest
 ·rw [if_neg c, if_neg (fun q => c q.1), num_Parse.j2, if_neg (by simp)]
  exact hrest
attribute [local go_sem] max2_int min2_int max_two min_two max_three min_three max_four min_four
set_option linter.unusedSimpArgs false
theorem upto_all (p : Int → Bool) (s : ByteArray) : ∀ r i, i + r = s.size → ∀ j, i ≤ j → j < endOf p s r i → p (bt s (j : Int)) = true
 | 0, i, h, j, h1, h2 => by simp only [endOf] at h2; omega
 | r + 1, i, h, j, h1, h2 => by
  unfold endOf at h2; rw [if_pos (by omega)] at h2; by_cases c : p (bt s (i : Int)) = true
  ·rw [if_pos c] at h2
   by_cases e : j = i
   ·rw [e]; exact c
   ·exact upto_all p s r (i + 1) (by omega) j (by omega) h2
  ·rw [if_neg c] at h2; omega
theorem bt_extract (s : ByteArray) (i e j : Nat) (h1 : i + j < e) (h2 : e ≤ s.size) : bt (s.extract i e) (j : Int) = bt s ((i + j : Nat) : Int) := by
 have hs : (s.extract i e).size = e - i := by rw [ByteArray.size_extract]; omega
 have hj : j < (s.extract i e).size := by omega
 have hj2 : i + j < s.size := by omega
 unfold bt; simp only [Int.toNat_natCast]; rw [dif_pos hj, dif_pos hj2]
 congr 2
 exact ByteArray.getElem_extract hj
theorem digs_upto (s : ByteArray) (i : Nat) (hi : i ≤ s.size) : digs (s.extract i (upto isDig s i)) := by
 intro j hj; have hb := upto_le isDig s i hi; rw [ByteArray.size_extract] at hj; rw [bt_extract s i _ j (by omega) hb.2]; exact upto_all isDig s (s.size - i) i (by omega) (i + j) (by omega) (by unfold upto at hj hb; omega)
def numF (s : ByteArray) (i : Nat) (n0 a0 : Int) : Int × ByteArray × Int × Int × Int × ByteArray × Int :=
 if (parseP (s.extract i (upto isDig s i))).2 ≠ 0 then (1, s.extract i (upto isDig s i), n0, a0, 33, s, ((upto isDig s i : Nat) : Int))
 else if upto isDig s i < s.size ∧ isLet (bt s ((upto isDig s i : Nat) : Int)) = true then (1, s.extract i (upto isDig s i), (parseP (s.extract i (upto isDig s i))).1, ((upto isDig s i : Nat) : Int), 31, s, ((upto isDig s i : Nat) : Int))
 else (1, s.extract i (upto isDig s i), (parseP (s.extract i (upto isDig s i))).1, a0, 0, s, ((upto isDig s i : Nat) : Int))
def lex_cutter_number.f (s : ByteArray) (i : Int) (k0 : Int) (t0 : ByteArray) (n0 a0 : Int) : Option (Int × ByteArray × Int × Int × Int × ByteArray × Int) :=
 if 0 ≤ i ∧ i < (s.size : Int) ∧ s.size ≤ 140737488351232 ∧ isDig (bt s i) = true then some (numF s i.toNat n0 a0) else none
def wordF (s : ByteArray) (i : Nat) (n0 a0 : Int) : Int × ByteArray × Int × Int × Int × ByteArray × Int :=
 if lex_Words.f (s.extract i (upto isAn s i)) = some true then (3, s.extract i (upto isAn s i), n0, a0, 0, s, ((upto isAn s i : Nat) : Int))
 else if 12 < (s.extract i (upto isAn s i)).size then (2, s.extract i (upto isAn s i), n0, a0, 32, s, ((upto isAn s i : Nat) : Int))
 else (2, s.extract i (upto isAn s i), n0, a0, 0, s, ((upto isAn s i : Nat) : Int))
def lex_cutter_word.f (s : ByteArray) (i : Int) (k0 : Int) (t0 : ByteArray) (n0 a0 : Int) : Option (Int × ByteArray × Int × Int × Int × ByteArray × Int) :=
 if 0 ≤ i ∧ i ≤ (s.size : Int) ∧ s.size ≤ 140737488351232 then some (wordF s i.toNat n0 a0) else none
def TokPost (w0 w : World) (g : Nat) (r : Int × ByteArray × Int × Int × Int × ByteArray × Int) (e : Ending) (w' : World) : Prop :=
 e = .returned (.tuple #[.agg #[.int .i64 r.1, .string r.2.1, .int .i64 r.2.2.1, .int .i64 r.2.2.2.1], .int .i64 r.2.2.2.2.1]) ∧ IsS41 w0 w' g r.2.2.2.2.2.1 r.2.2.2.2.2.2 ∧ Below w0.heap.size w0 w' ∧ KeepBut w w' g none
theorem number_calls (s : ByteArray) (i g : Nat) (k0 : Int) (t0 : ByteArray) (n0 a0 : Int) (w0 w : World) (hi : i < s.size) (hs : s.size ≤ 140737488351232) (hd : isDig (bt s (i : Int)) = true) (hI : IsS41 w0 w g s i) (hB : Below w0.heap.size w0 w) :
  Calls Try.prog 97 #[.pointer (some ⟨g, 0, none⟩), .agg #[.int .i64 k0, .string t0, .int .i64 n0, .int .i64 a0]] w (TokPost w0 w g (numF s i n0 a0)) := by
 have hw := Lib.hid (fun W (h1 : IsS41 w0 W g s i) (h2 : Below w0.heap.size w0 W) => while_26 s i g w0 W (by omega) hs h1 h2); have hul := upto_le isDig s i (by omega)
 have hu1 : i + 1 ≤ upto isDig s i := by
  have h1 := upto_in isDig s i hi hd; have h2 := upto_le isDig s (i + 1) (by omega)
  omega
 have hsz : (s.extract i (upto isDig s i)).size = upto isDig s i - i := by rw [ByteArray.size_extract]; omega
 obtain ⟨kp, hkp⟩ := parse_ok (s.extract i (upto isDig s i)) (by omega) (by omega) (digs_upto s i (by omega)); have hpc := Lib.hid (fun W => num_Parse.calls kp (s.extract i (upto isDig s i)) (parseP (s.extract i (upto isDig s i))).1 (parseP (s.extract i (upto isDig s i))).2 W hkp); have hnf := Lib.hid (numF.eq_1 s i n0 a0); generalize hE : upto isDig s i = E at *; have hwr := Lib.hid (show ∀ e w', WPost26 isDig s i g w0 w e w' → e = .returned (.string (s.extract i E)) ∧ IsS41 w0 w' g s E ∧ Below w0.heap.size w0 w' ∧ KeepBut w w' g none from fun e w' h => by unfold WPost26 at h; rw [hE] at h; exact h)
 have hwp := Lib.hid (show ∀ (W : World) e w', WPost26 isDig s i g w0 W e w' → e = .returned (.string (s.extract i E)) ∧ IsS41 w0 w' g s E ∧ Below w0.heap.size w0 w' ∧ KeepBut W w' g none from fun W e w' h => by unfold WPost26 at h; rw [hE] at h; exact h)
 clear hE hwr hkp hd hsz; generalize parseP (s.extract i E) = pp at *; generalize s.extract i E = tx at *; have HI := A_0 hI; have HB := A_0 hB; have HK := A_0 (KeepBut.refl w g none); clear hI hB
 go_enter Try.func97, Try.ntmps97
 go_wp2_with (first | ((with_reducible refine gate_dst (N := 3) rfl ?_); refine bx (a58 k0 t0 n0 a0) 58 ?_; intro bx hg w3 hbox hb; have HX := A_0 hbox; replace HI := A_0 (IsS41.below HI.out hb); replace HK := A_0 (KeepBut.trans HK.out (KeepBut.of_below hb g none) (.inl rfl)); have ge0 : w0.heap.size ≤ bx := (z_4); replace HB := A_0 (xbs HB.out hb); have ge1 : w.heap.size ≤ bx := Nat.le_of_eq hg.symm; clear hb hbox hg))
 refine (hw.out _ (IsS41.alloc HI.out _) (below_alloc HB.out _)).mono ?_
 intro e w5 hp; obtain ⟨he, hi5, hb5, hk5⟩ := hwp.out _ _ _ hp; subst he; have nxg : bx ≠ g := fun e => (IsS41.ne_blk HI.out HX.out (by decide)) (by first | exact e.symm | exact e)
 have nrg : w3.heap.size ≠ g := fun e => by have := IsS41.lt HI.out; omega
 have m1_ := A_0 (hk5.blk (blk_alloc HX.out _) nxg (by simp)); have m2_ := A_0 (hk5.blk (blk_new w3 (b58 0 ⟨#[]⟩ 0 0)) nrg (by simp)); have m3_ := A_0 (KeepBut.trans (keep_alloc HK.out _) hk5 (.inl rfl)); have nxr : bx ≠ w3.heap.size := fun e => by have := blk_lt HX.out; omega
 have gr0 : w0.heap.size ≤ w3.heap.size := below_size HB.out; have gr1 : w.heap.size ≤ w3.heap.size := HK.out.1; generalize w3.heap.size = br at *; clear HX HI HB HK hw hwp hp hk5; have HX := m1_; have HR := m2_; have HK := m3_; have HI := A_0 hi5; have HB := A_0 hb5; clear m1_ m2_ m3_ hi5 hb5; have x0 : w5.cell? ⟨bx, 0, none⟩ = some (.int .i64 k0) := (xbc HX.out 0).trans rfl; have x1 : w5.cell? ⟨bx, 1, none⟩ = some (.string t0) := (xbc HX.out 1).trans rfl; have z0 := xbz HX.out 0; have z1 := xbz HX.out 1
 go_wp2_with fail
 generalize hW : ((w5.setCell ⟨bx, 0, none⟩ (.int .i64 1)).setCell ⟨bx, 1, none⟩ (.string tx)) = W2; have m1_ := A_0 (show W2.heap[bx]? = some (b58 1 tx n0 a0) by rw [← hW]; exact blk_put (blk_put HX.out 0 _ rfl) 1 _ rfl)
 have m2_ := A_0 (show W2.heap[br]? = some (b58 0 ⟨#[]⟩ 0 0) by rw [← hW]; exact blk_far (blk_far HR.out (fun e => nxr e.symm) _) (fun e => nxr e.symm) _)
 have m3_ := A_0 (show IsS41 w0 W2 g s E by rw [← hW]; exact IsS41.far (IsS41.far HI.out (fun e => nxg e.symm) _) (fun e => nxg e.symm) _)
 have m4_ := A_0 (show Below w0.heap.size w0 W2 by rw [← hW]; exact below_set (below_set HB.out ge0) ge0)
 have m5_ := A_0 (show KeepBut w W2 g none by rw [← hW]; exact keep_far (keep_far HK.out ge1 _) ge1 _)
 clear hW HX HR HI HB HK x0 x1 z0 z1; have HX := m1_; have HR := m2_; have HI := m3_; have HB := m4_; have HK := m5_; clear m1_ m2_ m3_ m4_ m5_; refine (hpc.out _).mono ?_; rintro e w6 ⟨rfl, ⟨nd, rfl⟩⟩; clear hpc; obtain ⟨pv, pe⟩ := pp; have hx : (W2.drewN nd).heap[bx]? = some (b58 1 tx n0 a0) := HX.out; have hr : (W2.drewN nd).heap[br]? = some (b58 0 ⟨#[]⟩ 0 0) := HR.out; generalize hW : W2.drewN nd = W3 at *; have m3_ := A_0 (show IsS41 w0 W3 g s E by rw [← hW]; exact HI.out)
 have m4_ := A_0 (show Below w0.heap.size w0 W3 by rw [← hW]; exact pw_below_drewN HB.out _)
 have m5_ := A_0 (show KeepBut w W3 g none by rw [← hW]; exact keep_drewN HK.out _)
 clear HX HR HI HB HK hW; have HX := A_0 hx; have HR := A_0 hr; have HI := m3_; have HB := m4_; have HK := m5_; clear hx hr m3_ m4_ m5_; have x0 : W3.cell? ⟨bx, 0, none⟩ = some (.int .i64 1) := (xbc HX.out 0).trans rfl; have x1 : W3.cell? ⟨bx, 1, none⟩ = some (.string tx) := (xbc HX.out 1).trans rfl; have x2 : W3.cell? ⟨bx, 2, none⟩ = some (.int .i64 n0) := (xbc HX.out 2).trans rfl; have x3 : W3.cell? ⟨bx, 3, none⟩ = some (.int .i64 a0) := (xbc HX.out 3).trans rfl; have z2 := xbz HX.out 2; have z3 := xbz HX.out 3; have r0 : W3.cell? ⟨br, 0, none⟩ = some (.int .i64 0) := (xbc HR.out 0).trans rfl; have r1 : W3.cell? ⟨br, 1, none⟩ = some (.string ⟨#[]⟩) := (xbc HR.out 1).trans rfl; have r2 : W3.cell? ⟨br, 2, none⟩ = some (.int .i64 0) := (xbc HR.out 2).trans rfl; have r3 : W3.cell? ⟨br, 3, none⟩ = some (.int .i64 0) := (xbc HR.out 3).trans rfl; have q0 := xbz HR.out 0; have q1 := xbz HR.out 1; have q2 := xbz HR.out 2; have q3 := xbz HR.out 3; have nrx : br ≠ bx := fun e => nxr e.symm; have ngr : g ≠ br := fun e => nrg e.symm; have ngx : g ≠ bx := fun e => nxg e.symm; cases hpe : (pe != 0) with
 | true =>
  have hnf2 := hnf.out; simp only at hnf2; rw [if_pos (by simpa using hpe)] at hnf2; have HN := Lib.hid hnf2; clear hnf hnf2
  go_wp2
  refine bodyPost_ret (v := .tuple #[.agg #[.int .i64 1, .string tx, .int .i64 n0, .int .i64 a0], .int .i64 33]) (z_193) rfl ?_
  rw [HN.out]; exact z_194
 | false =>
  have hnf2 := hnf.out; simp only at hnf2; rw [if_neg (by simpa using hpe)] at hnf2; have HN := Lib.hid hnf2; clear hnf hnf2; obtain ⟨X, hX⟩ : ∃ X : Int, X = (E : Int) := ⟨_, rfl⟩; have HXE := Lib.hid hX; have HI2 := A_0 (show IsS41 w0 W3 g s X by rw [hX]; exact HI.out)
  clear HI hX; have HI := HI2; clear HI2
  go_wp2
  generalize hW : W3.setCell ⟨bx, 2, none⟩ (.int .i64 pv) = W4; have m1_ := A_0 (show W4.heap[bx]? = some (b58 1 tx pv a0) by rw [← hW]; exact blk_put HX.out 2 _ rfl)
  have m2_ := A_0 (show W4.heap[br]? = some (b58 0 ⟨#[]⟩ 0 0) by rw [← hW]; exact blk_far HR.out nrx _)
  have m3_ := A_0 (show IsS41 w0 W4 g s X by rw [← hW]; exact IsS41.far HI.out ngx _)
  have m4_ := A_0 (show Below w0.heap.size w0 W4 by rw [← hW]; exact below_set HB.out ge0)
  have m5_ := A_0 (show KeepBut w W4 g none by rw [← hW]; exact keep_far HK.out ge1 _)
  clear hW HX HR HI HB HK x0 x1 x2 x3 z2 z3 r0 r1 r2 r3 q0 q1 q2 q3; have HX := m1_; have HR := m2_; have HI := m3_; have HB := m4_; have HK := m5_; clear m1_ m2_ m3_ m4_ m5_; have x0 : W4.cell? ⟨bx, 0, none⟩ = some (.int .i64 1) := (xbc HX.out 0).trans rfl; have x1 : W4.cell? ⟨bx, 1, none⟩ = some (.string tx) := (xbc HX.out 1).trans rfl; have x2 : W4.cell? ⟨bx, 2, none⟩ = some (.int .i64 pv) := (xbc HX.out 2).trans rfl; have x3 : W4.cell? ⟨bx, 3, none⟩ = some (.int .i64 a0) := (xbc HX.out 3).trans rfl; have z3 := xbz HX.out 3; have r0 : W4.cell? ⟨br, 0, none⟩ = some (.int .i64 0) := (xbc HR.out 0).trans rfl; have r1 : W4.cell? ⟨br, 1, none⟩ = some (.string ⟨#[]⟩) := (xbc HR.out 1).trans rfl; have r2 : W4.cell? ⟨br, 2, none⟩ = some (.int .i64 0) := (xbc HR.out 2).trans rfl; have r3 : W4.cell? ⟨br, 3, none⟩ = some (.int .i64 0) := (xbc HR.out 3).trans rfl; have q0 := xbz HR.out 0; have q1 := xbz HR.out 1; have q2 := xbz HR.out 2; have q3 := xbz HR.out 3; have c0 : W4.cell? ⟨g, 0, none⟩ = some (.string s) := (xbc HI.out.1 0).trans rfl; have c1 : W4.cell? ⟨g, 1, none⟩ = some (.int .i64 X) := (xbc HI.out.1 1).trans rfl; by_cases hlt : X < (s.size : Int)
  ·have hEs : E < s.size := by have := HXE.out; omega
   have hx0 : 0 ≤ X := by have := HXE.out; omega
   have hlet := Lib.hid (show isLet (bt s X) = isLet (bt s (E : Int)) by rw [HXE.out])
   have hc := Lib.hid (fun W => lex_letter.calls (bt s X) (isLet (bt s X)) W (letter_f _)); have g1 := xdt hlt; have p4 : ((0 : Int) ≤ X) = True := eq_true hx0; have q4 : (X < (s.size : Int)) = True := eq_true hlt; have hx4 := bt_at s X; clear hlt hx0; cases hp : isLet (bt s X) with
   | true =>
    rw [hp] at hc hlet; have HN2 := Lib.hid (HN.out.trans (if_pos ⟨hEs, hlet.out.symm⟩)); clear hlet HN hp hEs; have HN := HN2; clear HN2
    go_quiet (first | (go_at_call 98; refine (hc.out _).mono ?_; rintro e w' ⟨rfl, ⟨nd, rfl⟩⟩; (try first | exact ⟨rfl, _, World.drewN_drewN _ _ _⟩ | exact ⟨rfl, _, Eq.trans (World.drewN_drewN _ _ _) (congrArg (World.drewN _) (Nat.add_assoc _ _ _))⟩)))
    go_wp2
    refine bodyPost_ret (v := .tuple #[.agg #[.int .i64 1, .string tx, .int .i64 pv, .int .i64 X], .int .i64 31]) (z_193) rfl ?_
    rw [HN.out]; exact ⟨by rw [HXE.out], IsS41.far (IsS41.far (IsS41.far (IsS41.far (IsS41.far (IsS41.drewN (by rw [← HXE.out]; exact HI.out) _) ngx _) ngr _) ngr _) ngr _) ngr _, below_set (below_set (below_set (below_set (below_set (pw_below_drewN HB.out _) ge0) gr0) gr0) gr0) gr0, keep_far (keep_far (keep_far (keep_far (keep_far (keep_drewN HK.out _) ge1 _) gr1 _) gr1 _) gr1 _) gr1 _⟩
   | false =>
    rw [hp] at hc hlet; have HN2 := Lib.hid (HN.out.trans (if_neg (fun h => by rw [← hlet.out] at h; simp at h)))
    clear hlet HN hp hEs; have HN := HN2; clear HN2
    go_quiet (first | (go_at_call 98; refine (hc.out _).mono ?_; rintro e w' ⟨rfl, ⟨nd, rfl⟩⟩; (try first | exact ⟨rfl, _, World.drewN_drewN _ _ _⟩ | exact ⟨rfl, _, Eq.trans (World.drewN_drewN _ _ _) (congrArg (World.drewN _) (Nat.add_assoc _ _ _))⟩)))
    go_wp2
    refine bodyPost_ret (v := .tuple #[.agg #[.int .i64 1, .string tx, .int .i64 pv, .int .i64 a0], .int .i64 0]) (z_193) rfl ?_
    rw [HN.out]; exact z_195
  ·have hEs : ¬ E < s.size := by have := HXE.out; omega
   have HN2 := Lib.hid (HN.out.trans (if_neg (fun h => hEs h.1))); clear HN hEs; have HN := HN2; clear HN2; have g1 := xdf hlt
   go_quiet (fail)
   go_wp2
   refine bodyPost_ret (v := .tuple #[.agg #[.int .i64 1, .string tx, .int .i64 pv, .int .i64 a0], .int .i64 0]) (z_193) rfl ?_
   rw [HN.out]; exact z_195
theorem words_some (t : ByteArray) : ∃ b, lex_Words.f t = some b := by
 unfold lex_Words.f
 repeat (first | exact ⟨_, rfl⟩ | split)
theorem word_calls (s : ByteArray) (i g : Nat) (k0 : Int) (t0 : ByteArray) (n0 a0 : Int) (w0 w : World) (hi : i ≤ s.size) (hs : s.size ≤ 140737488351232) (hI : IsS41 w0 w g s i) (hB : Below w0.heap.size w0 w) :
  Calls Try.prog 99 #[.pointer (some ⟨g, 0, none⟩), .agg #[.int .i64 k0, .string t0, .int .i64 n0, .int .i64 a0]] w (TokPost w0 w g (wordF s i n0 a0)) := by
 have hw := Lib.hid (fun W (h1 : IsS41 w0 W g s i) (h2 : Below w0.heap.size w0 W) => while_38 s i g w0 W (by omega) hs h1 h2); have hul := upto_le isAn s i (by omega); obtain ⟨wb, hwb⟩ := words_some (s.extract i (upto isAn s i)); have hpc := Lib.hid (fun W => lex_Words.calls (s.extract i (upto isAn s i)) wb W hwb); have hnf := Lib.hid (wordF.eq_1 s i n0 a0); generalize hE : upto isAn s i = E at *; have hwr := Lib.hid (show ∀ e w', WPost38 isAn s i g w0 w e w' → e = .returned (.string (s.extract i E)) ∧ IsS41 w0 w' g s E ∧ Below w0.heap.size w0 w' ∧ KeepBut w w' g none from fun e w' h => by unfold WPost38 at h; rw [hE] at h; exact h)
 have hwp := Lib.hid (show ∀ (W : World) e w', WPost38 isAn s i g w0 W e w' → e = .returned (.string (s.extract i E)) ∧ IsS41 w0 w' g s E ∧ Below w0.heap.size w0 w' ∧ KeepBut W w' g none from fun W e w' h => by unfold WPost38 at h; rw [hE] at h; exact h)
 rw [hwb] at hnf; clear hE hwr hwb; generalize s.extract i E = tx at *; have HI := A_0 hI; have HB := A_0 hB; have HK := A_0 (KeepBut.refl w g none); clear hI hB
 go_enter Try.func99, Try.ntmps99
 go_wp2_with (first | ((with_reducible refine gate_dst (N := 3) rfl ?_); refine bx (a58 k0 t0 n0 a0) 58 ?_; intro bx hg w3 hbox hb; have HX := A_0 hbox; replace HI := A_0 (IsS41.below HI.out hb); replace HK := A_0 (KeepBut.trans HK.out (KeepBut.of_below hb g none) (.inl rfl)); have ge0 : w0.heap.size ≤ bx := (z_4); replace HB := A_0 (xbs HB.out hb); have ge1 : w.heap.size ≤ bx := Nat.le_of_eq hg.symm; clear hb hbox hg))
 refine (hw.out _ (IsS41.alloc HI.out _) (below_alloc HB.out _)).mono ?_
 intro e w5 hp; obtain ⟨he, hi5, hb5, hk5⟩ := hwp.out _ _ _ hp; subst he; have nxg : bx ≠ g := fun e => (IsS41.ne_blk HI.out HX.out (by decide)) (by first | exact e.symm | exact e)
 have nrg : w3.heap.size ≠ g := fun e => by have := IsS41.lt HI.out; omega
 have m1_ := A_0 (hk5.blk (blk_alloc HX.out _) nxg (by simp)); have m2_ := A_0 (hk5.blk (blk_new w3 (b58 0 ⟨#[]⟩ 0 0)) nrg (by simp)); have m3_ := A_0 (KeepBut.trans (keep_alloc HK.out _) hk5 (.inl rfl)); have nxr : bx ≠ w3.heap.size := fun e => by have := blk_lt HX.out; omega
 have gr0 : w0.heap.size ≤ w3.heap.size := below_size HB.out; have gr1 : w.heap.size ≤ w3.heap.size := HK.out.1; generalize w3.heap.size = br at *; clear HX HI HB HK hw hwp hp hk5; have HX := m1_; have HR := m2_; have HK := m3_; have HI := A_0 hi5; have HB := A_0 hb5; clear m1_ m2_ m3_ hi5 hb5; have x0 : w5.cell? ⟨bx, 0, none⟩ = some (.int .i64 k0) := (xbc HX.out 0).trans rfl; have x1 : w5.cell? ⟨bx, 1, none⟩ = some (.string t0) := (xbc HX.out 1).trans rfl; have z0 := xbz HX.out 0; have z1 := xbz HX.out 1
 go_wp2_with fail
 generalize hW : ((w5.setCell ⟨bx, 0, none⟩ (.int .i64 2)).setCell ⟨bx, 1, none⟩ (.string tx)) = W2; have m1_ := A_0 (show W2.heap[bx]? = some (b58 2 tx n0 a0) by rw [← hW]; exact blk_put (blk_put HX.out 0 _ rfl) 1 _ rfl)
 have m2_ := A_0 (show W2.heap[br]? = some (b58 0 ⟨#[]⟩ 0 0) by rw [← hW]; exact blk_far (blk_far HR.out (fun e => nxr e.symm) _) (fun e => nxr e.symm) _)
 have m3_ := A_0 (show IsS41 w0 W2 g s E by rw [← hW]; exact IsS41.far (IsS41.far HI.out (fun e => nxg e.symm) _) (fun e => nxg e.symm) _)
 have m4_ := A_0 (show Below w0.heap.size w0 W2 by rw [← hW]; exact below_set (below_set HB.out ge0) ge0)
 have m5_ := A_0 (show KeepBut w W2 g none by rw [← hW]; exact keep_far (keep_far HK.out ge1 _) ge1 _)
 clear hW HX HR HI HB HK x0 x1 z0 z1; have HX := m1_; have HR := m2_; have HI := m3_; have HB := m4_; have HK := m5_; clear m1_ m2_ m3_ m4_ m5_; refine (hpc.out _).mono ?_; rintro e w6 ⟨rfl, ⟨nd, rfl⟩⟩; clear hpc; have hx : (W2.drewN nd).heap[bx]? = some (b58 2 tx n0 a0) := HX.out; have hr : (W2.drewN nd).heap[br]? = some (b58 0 ⟨#[]⟩ 0 0) := HR.out; generalize hW : W2.drewN nd = W3 at *; have m3_ := A_0 (show IsS41 w0 W3 g s E by rw [← hW]; exact HI.out)
 have m4_ := A_0 (show Below w0.heap.size w0 W3 by rw [← hW]; exact pw_below_drewN HB.out _)
 have m5_ := A_0 (show KeepBut w W3 g none by rw [← hW]; exact keep_drewN HK.out _)
 clear HX HR HI HB HK hW; have HX := A_0 hx; have HR := A_0 hr; have HI := m3_; have HB := m4_; have HK := m5_; clear hx hr m3_ m4_ m5_; have x0 : W3.cell? ⟨bx, 0, none⟩ = some (.int .i64 2) := (xbc HX.out 0).trans rfl; have x1 : W3.cell? ⟨bx, 1, none⟩ = some (.string tx) := (xbc HX.out 1).trans rfl; have x2 : W3.cell? ⟨bx, 2, none⟩ = some (.int .i64 n0) := (xbc HX.out 2).trans rfl; have x3 : W3.cell? ⟨bx, 3, none⟩ = some (.int .i64 a0) := (xbc HX.out 3).trans rfl; have z0 := xbz HX.out 0; have r0 : W3.cell? ⟨br, 0, none⟩ = some (.int .i64 0) := (xbc HR.out 0).trans rfl; have r1 : W3.cell? ⟨br, 1, none⟩ = some (.string ⟨#[]⟩) := (xbc HR.out 1).trans rfl; have r2 : W3.cell? ⟨br, 2, none⟩ = some (.int .i64 0) := (xbc HR.out 2).trans rfl; have r3 : W3.cell? ⟨br, 3, none⟩ = some (.int .i64 0) := (xbc HR.out 3).trans rfl; have q0 := xbz HR.out 0; have q1 := xbz HR.out 1; have q2 := xbz HR.out 2; have q3 := xbz HR.out 3; have nrx : br ≠ bx := fun e => nxr e.symm; have ngr : g ≠ br := fun e => nrg e.symm; have ngx : g ≠ bx := fun e => nxg e.symm; cases wb with
 | true =>
  have HN := Lib.hid (hnf.out.trans (if_pos rfl)); clear hnf
  go_wp2
  refine bodyPost_ret (v := .tuple #[.agg #[.int .i64 3, .string tx, .int .i64 n0, .int .i64 a0], .int .i64 0]) (z_196) rfl ?_
  rw [HN.out]; exact ⟨rfl, IsS41.far (IsS41.far (IsS41.far (IsS41.far (IsS41.far HI.out ngx _) ngr _) ngr _) ngr _) ngr _, below_set (below_set (below_set (below_set (below_set HB.out ge0) gr0) gr0) gr0) gr0, keep_far (keep_far (keep_far (keep_far (keep_far HK.out ge1 _) gr1 _) gr1 _) gr1 _) gr1 _⟩
 | false =>
  have HN0 := Lib.hid (hnf.out.trans (if_neg (by simp))); clear hnf; by_cases hl : 12 < tx.size
  ·have HN := Lib.hid (HN0.out.trans (if_pos hl))
   clear HN0; have hl2 : (12 : Int) < (tx.size : Int) := by omega
   clear hl
   go_wp2
   refine bodyPost_ret (v := .tuple #[.agg #[.int .i64 2, .string tx, .int .i64 n0, .int .i64 a0], .int .i64 32]) (z_196) rfl ?_
   rw [HN.out]; exact z_194
  ·have HN := Lib.hid (HN0.out.trans (if_neg hl))
   clear HN0; have hl2 : ¬ (12 : Int) < (tx.size : Int) := by omega
   clear hl
   go_wp2
   refine bodyPost_ret (v := .tuple #[.agg #[.int .i64 2, .string tx, .int .i64 n0, .int .i64 a0], .int .i64 0]) (z_196) rfl ?_
   rw [HN.out]; exact z_194
theorem lex_cutter_number.calls (g : Nat) (s0_0 : ByteArray) (s0_1 : Int) (a1_0 : Int) (a1_1 : ByteArray) (a1_2 : Int) (a1_3 : Int) (r1 : Int) (r2 : ByteArray) (r3 : Int) (r4 : Int) (r5 : Int) (r6 : ByteArray) (r7 : Int) (w0 w : World) (hI : IsS41 w0 w g s0_0 s0_1) (hB : Below w0.heap.size w0 w) (h : lex_cutter_number.f s0_0 s0_1 a1_0 a1_1 a1_2 a1_3 = some (r1, r2, r3, r4, r5, r6, r7)) :
  Calls Try.prog 97 #[.pointer (some ⟨g, 0, none⟩), .agg #[.int .i64 a1_0, .string a1_1, .int .i64 a1_2, .int .i64 a1_3]] w fun e w' => e = .returned (.tuple #[.agg #[.int .i64 r1, .string r2, .int .i64 r3, .int .i64 r4], .int .i64 r5]) ∧ IsS41 w0 w' g r6 r7 ∧ Below w0.heap.size w0 w' ∧ KeepBut w w' g none := by
 unfold lex_cutter_number.f at h; by_cases c : 0 ≤ s0_1 ∧ s0_1 < (s0_0.size : Int) ∧ s0_0.size ≤ 140737488351232 ∧ isDig (bt s0_0 s0_1) = true
 ·rw [if_pos c] at h
  obtain ⟨c1, c2, c3, c4⟩ := c; obtain ⟨i, rfl⟩ := Int.eq_ofNat_of_zero_le c1; have := number_calls s0_0 i g a1_0 a1_1 a1_2 a1_3 w0 w (by omega) c3 c4 hI hB; have e := xsi h; rw [Int.toNat_natCast] at e; rw [e] at this; exact this
 ·rw [if_neg c] at h; simp at h
theorem lex_cutter_word.calls (g : Nat) (s0_0 : ByteArray) (s0_1 : Int) (a1_0 : Int) (a1_1 : ByteArray) (a1_2 : Int) (a1_3 : Int) (r1 : Int) (r2 : ByteArray) (r3 : Int) (r4 : Int) (r5 : Int) (r6 : ByteArray) (r7 : Int) (w0 w : World) (hI : IsS41 w0 w g s0_0 s0_1) (hB : Below w0.heap.size w0 w) (h : lex_cutter_word.f s0_0 s0_1 a1_0 a1_1 a1_2 a1_3 = some (r1, r2, r3, r4, r5, r6, r7)) :
  Calls Try.prog 99 #[.pointer (some ⟨g, 0, none⟩), .agg #[.int .i64 a1_0, .string a1_1, .int .i64 a1_2, .int .i64 a1_3]] w fun e w' => e = .returned (.tuple #[.agg #[.int .i64 r1, .string r2, .int .i64 r3, .int .i64 r4], .int .i64 r5]) ∧ IsS41 w0 w' g r6 r7 ∧ Below w0.heap.size w0 w' ∧ KeepBut w w' g none := by
 unfold lex_cutter_word.f at h; by_cases c : 0 ≤ s0_1 ∧ s0_1 ≤ (s0_0.size : Int) ∧ s0_0.size ≤ 140737488351232
 ·rw [if_pos c] at h
  obtain ⟨c1, c2, c3⟩ := c; obtain ⟨i, rfl⟩ := Int.eq_ofNat_of_zero_le c1; have := word_calls s0_0 i g a1_0 a1_1 a1_2 a1_3 w0 w (by omega) c3 hI hB; have e := xsi h; rw [Int.toNat_natCast] at e; rw [e] at this; exact this
 ·rw [if_neg c] at h; simp at h
def lex_signs.f  : Option (List ByteArray) := some (([(⟨#[61, 61]⟩ : ByteArray), (⟨#[33, 61]⟩ : ByteArray), (⟨#[60, 61]⟩ : ByteArray), (⟨#[62, 61]⟩ : ByteArray), (⟨#[60, 60]⟩ : ByteArray), (⟨#[62, 62]⟩ : ByteArray), (⟨#[61]⟩ : ByteArray), (⟨#[60]⟩ : ByteArray), (⟨#[62]⟩ : ByteArray), (⟨#[43]⟩ : ByteArray), (⟨#[45]⟩ : ByteArray), (⟨#[42]⟩ : ByteArray), (⟨#[47]⟩ : ByteArray), (⟨#[37]⟩ : ByteArray), (⟨#[38]⟩ : ByteArray), (⟨#[124]⟩ : ByteArray), (⟨#[94]⟩ : ByteArray), (⟨#[126]⟩ : ByteArray), (⟨#[33]⟩ : ByteArray), (⟨#[40]⟩ : ByteArray), (⟨#[41]⟩ : ByteArray), (⟨#[91]⟩ : ByteArray), (⟨#[93]⟩ : ByteArray), (⟨#[123]⟩ : ByteArray), (⟨#[125]⟩ : ByteArray), (⟨#[59]⟩ : ByteArray), (⟨#[44]⟩ : ByteArray)] : List ByteArray))
theorem lex_signs.calls  (r : List ByteArray) (w : World) (h : lex_signs.f  = some r) :
  Calls Try.prog 100 #[] w fun e w' => ∃ v0_ : Value, e = .returned (v0_) ∧ Kd.R Kd.string 9 w' w.heap.size (fun _ => True) v0_ r ∧ Below w.heap.size w w' := by
 have HB := A_0 (xbr w.heap.size w); have H : (some (([(⟨#[61, 61]⟩ : ByteArray), (⟨#[33, 61]⟩ : ByteArray), (⟨#[60, 61]⟩ : ByteArray), (⟨#[62, 61]⟩ : ByteArray), (⟨#[60, 60]⟩ : ByteArray), (⟨#[62, 62]⟩ : ByteArray), (⟨#[61]⟩ : ByteArray), (⟨#[60]⟩ : ByteArray), (⟨#[62]⟩ : ByteArray), (⟨#[43]⟩ : ByteArray), (⟨#[45]⟩ : ByteArray), (⟨#[42]⟩ : ByteArray), (⟨#[47]⟩ : ByteArray), (⟨#[37]⟩ : ByteArray), (⟨#[38]⟩ : ByteArray), (⟨#[124]⟩ : ByteArray), (⟨#[94]⟩ : ByteArray), (⟨#[126]⟩ : ByteArray), (⟨#[33]⟩ : ByteArray), (⟨#[40]⟩ : ByteArray), (⟨#[41]⟩ : ByteArray), (⟨#[91]⟩ : ByteArray), (⟨#[93]⟩ : ByteArray), (⟨#[123]⟩ : ByteArray), (⟨#[125]⟩ : ByteArray), (⟨#[59]⟩ : ByteArray), (⟨#[44]⟩ : ByteArray)] : List ByteArray))) = some r := h; clear h; obtain ⟨y104, hy104⟩ : ∃ y_ : List ByteArray, y_ = (([(⟨#[61, 61]⟩ : ByteArray), (⟨#[33, 61]⟩ : ByteArray), (⟨#[60, 61]⟩ : ByteArray), (⟨#[62, 61]⟩ : ByteArray), (⟨#[60, 60]⟩ : ByteArray), (⟨#[62, 62]⟩ : ByteArray), (⟨#[61]⟩ : ByteArray), (⟨#[60]⟩ : ByteArray), (⟨#[62]⟩ : ByteArray), (⟨#[43]⟩ : ByteArray), (⟨#[45]⟩ : ByteArray), (⟨#[42]⟩ : ByteArray), (⟨#[47]⟩ : ByteArray), (⟨#[37]⟩ : ByteArray), (⟨#[38]⟩ : ByteArray), (⟨#[124]⟩ : ByteArray), (⟨#[94]⟩ : ByteArray), (⟨#[126]⟩ : ByteArray), (⟨#[33]⟩ : ByteArray), (⟨#[40]⟩ : ByteArray), (⟨#[41]⟩ : ByteArray), (⟨#[91]⟩ : ByteArray), (⟨#[93]⟩ : ByteArray), (⟨#[123]⟩ : ByteArray), (⟨#[125]⟩ : ByteArray), (⟨#[59]⟩ : ByteArray), (⟨#[44]⟩ : ByteArray)] : List ByteArray)) := ⟨_, rfl⟩; replace H : (some y104) = some r := by first | (rw [hy104]; with_reducible exact H) | (have H2_ := (Option.bind_some _ _).symm.trans H; rw [hy104]; with_reducible exact H2_) | (have H2_ := (Option.bind_some _ _).symm.trans H; with_reducible exact H2_) | with_reducible exact H | (rw [hy104]; exact H) | exact H
 have Ny104 := A_0 hy104; clear hy104; obtain rfl := xsi H
 go_enter Try.func100, Try.ntmps100
 go_wp2_with (first | ((with_reducible refine gate_dst (N := 1) rfl ?_); refine Kd.R_lit Kd.string _ 9 ?hg (N := 1) ?hd (xs := ([(⟨#[61, 61]⟩ : ByteArray), (⟨#[33, 61]⟩ : ByteArray), (⟨#[60, 61]⟩ : ByteArray), (⟨#[62, 61]⟩ : ByteArray), (⟨#[60, 60]⟩ : ByteArray), (⟨#[62, 62]⟩ : ByteArray), (⟨#[61]⟩ : ByteArray), (⟨#[60]⟩ : ByteArray), (⟨#[62]⟩ : ByteArray), (⟨#[43]⟩ : ByteArray), (⟨#[45]⟩ : ByteArray), (⟨#[42]⟩ : ByteArray), (⟨#[47]⟩ : ByteArray), (⟨#[37]⟩ : ByteArray), (⟨#[38]⟩ : ByteArray), (⟨#[124]⟩ : ByteArray), (⟨#[94]⟩ : ByteArray), (⟨#[126]⟩ : ByteArray), (⟨#[33]⟩ : ByteArray), (⟨#[40]⟩ : ByteArray), (⟨#[41]⟩ : ByteArray), (⟨#[91]⟩ : ByteArray), (⟨#[93]⟩ : ByteArray), (⟨#[123]⟩ : ByteArray), (⟨#[125]⟩ : ByteArray), (⟨#[59]⟩ : ByteArray), (⟨#[44]⟩ : ByteArray)] : List ByteArray)) (inner := [.string (⟨#[61, 61]⟩ : ByteArray), .string (⟨#[33, 61]⟩ : ByteArray), .string (⟨#[60, 61]⟩ : ByteArray), .string (⟨#[62, 61]⟩ : ByteArray), .string (⟨#[60, 60]⟩ : ByteArray), .string (⟨#[62, 62]⟩ : ByteArray), .string (⟨#[61]⟩ : ByteArray), .string (⟨#[60]⟩ : ByteArray), .string (⟨#[62]⟩ : ByteArray), .string (⟨#[43]⟩ : ByteArray), .string (⟨#[45]⟩ : ByteArray), .string (⟨#[42]⟩ : ByteArray), .string (⟨#[47]⟩ : ByteArray), .string (⟨#[37]⟩ : ByteArray), .string (⟨#[38]⟩ : ByteArray), .string (⟨#[124]⟩ : ByteArray), .string (⟨#[94]⟩ : ByteArray), .string (⟨#[126]⟩ : ByteArray), .string (⟨#[33]⟩ : ByteArray), .string (⟨#[40]⟩ : ByteArray), .string (⟨#[41]⟩ : ByteArray), .string (⟨#[91]⟩ : ByteArray), .string (⟨#[93]⟩ : ByteArray), .string (⟨#[123]⟩ : ByteArray), .string (⟨#[125]⟩ : ByteArray), .string (⟨#[59]⟩ : ByteArray), .string (⟨#[44]⟩ : ByteArray)]) (ok := fun _ => True) (okp := fun _ => True) ?hr ?hp (fun _ hk => hk) trivial (xbr _ _) (xlr _) (by simp) ?_; (case hd => rfl); (case hg => rfl); (case hr => first | (go_simp; done) | (go_simp; rfl)); (case hp => exact (Reps.one (show Kd.M Kd.string _ _ _ (⟨#[61, 61]⟩ : ByteArray) [.string (⟨#[61, 61]⟩ : ByteArray)] from rfl) (Reps.one (show Kd.M Kd.string _ _ _ (⟨#[33, 61]⟩ : ByteArray) [.string (⟨#[33, 61]⟩ : ByteArray)] from rfl) (Reps.one (show Kd.M Kd.string _ _ _ (⟨#[60, 61]⟩ : ByteArray) [.string (⟨#[60, 61]⟩ : ByteArray)] from rfl) (Reps.one (show Kd.M Kd.string _ _ _ (⟨#[62, 61]⟩ : ByteArray) [.string (⟨#[62, 61]⟩ : ByteArray)] from rfl) (Reps.one (show Kd.M Kd.string _ _ _ (⟨#[60, 60]⟩ : ByteArray) [.string (⟨#[60, 60]⟩ : ByteArray)] from rfl) (Reps.one (show Kd.M Kd.string _ _ _ (⟨#[62, 62]⟩ : ByteArray) [.string (⟨#[62, 62]⟩ : ByteArray)] from rfl) (Reps.one (show Kd.M Kd.string _ _ _ (⟨#[61]⟩ : ByteArray) [.string (⟨#[61]⟩ : ByteArray)] from rfl) (Reps.one (show Kd.M Kd.string _ _ _ (⟨#[60]⟩ : ByteArray) [.string (⟨#[60]⟩ : ByteArray)] from rfl) (Reps.one (show Kd.M Kd.string _ _ _ (⟨#[62]⟩ : ByteArray) [.string (⟨#[62]⟩ : ByteArray)] from rfl) (Reps.one (show Kd.M Kd.string _ _ _ (⟨#[43]⟩ : ByteArray) [.string (⟨#[43]⟩ : ByteArray)] from rfl) (Reps.one (show Kd.M Kd.string _ _ _ (⟨#[45]⟩ : ByteArray) [.string (⟨#[45]⟩ : ByteArray)] from rfl) (Reps.one (show Kd.M Kd.string _ _ _ (⟨#[42]⟩ : ByteArray) [.string (⟨#[42]⟩ : ByteArray)] from rfl) (Reps.one (show Kd.M Kd.string _ _ _ (⟨#[47]⟩ : ByteArray) [.string (⟨#[47]⟩ : ByteArray)] from rfl) (Reps.one (show Kd.M Kd.string _ _ _ (⟨#[37]⟩ : ByteArray) [.string (⟨#[37]⟩ : ByteArray)] from rfl) (Reps.one (show Kd.M Kd.string _ _ _ (⟨#[38]⟩ : ByteArray) [.string (⟨#[38]⟩ : ByteArray)] from rfl) (Reps.one (show Kd.M Kd.string _ _ _ (⟨#[124]⟩ : ByteArray) [.string (⟨#[124]⟩ : ByteArray)] from rfl) (Reps.one (show Kd.M Kd.string _ _ _ (⟨#[94]⟩ : ByteArray) [.string (⟨#[94]⟩ : ByteArray)] from rfl) (Reps.one (show Kd.M Kd.string _ _ _ (⟨#[126]⟩ : ByteArray) [.string (⟨#[126]⟩ : ByteArray)] from rfl) (Reps.one (show Kd.M Kd.string _ _ _ (⟨#[33]⟩ : ByteArray) [.string (⟨#[33]⟩ : ByteArray)] from rfl) (Reps.one (show Kd.M Kd.string _ _ _ (⟨#[40]⟩ : ByteArray) [.string (⟨#[40]⟩ : ByteArray)] from rfl) (Reps.one (show Kd.M Kd.string _ _ _ (⟨#[41]⟩ : ByteArray) [.string (⟨#[41]⟩ : ByteArray)] from rfl) (Reps.one (show Kd.M Kd.string _ _ _ (⟨#[91]⟩ : ByteArray) [.string (⟨#[91]⟩ : ByteArray)] from rfl) (Reps.one (show Kd.M Kd.string _ _ _ (⟨#[93]⟩ : ByteArray) [.string (⟨#[93]⟩ : ByteArray)] from rfl) (Reps.one (show Kd.M Kd.string _ _ _ (⟨#[123]⟩ : ByteArray) [.string (⟨#[123]⟩ : ByteArray)] from rfl) (Reps.one (show Kd.M Kd.string _ _ _ (⟨#[125]⟩ : ByteArray) [.string (⟨#[125]⟩ : ByteArray)] from rfl) (Reps.one (show Kd.M Kd.string _ _ _ (⟨#[59]⟩ : ByteArray) [.string (⟨#[59]⟩ : ByteArray)] from rfl) (Reps.one (show Kd.M Kd.string _ _ _ (⟨#[44]⟩ : ByteArray) [.string (⟨#[44]⟩ : ByteArray)] from rfl) (Reps.none _ _))))))))))))))))))))))))))))); intro v105 w1 ho2 hb hg_ hnew_; clear hg_ hnew_; (first | rw [← Ny104.out] at ho2 | (simp only [Int.reduceToNat] at ho2; rw [← Ny104.out] at ho2)); have HO106 := A_0 (Kd.R_lower ho2 (below_size (z_12))); replace HB := A_0 (xbs (z_12) hb); clear hb ho2))
 go_ret
 exact ⟨_, z_17, by (with_reducible repeat (first | apply Kd.R_alloc | apply Kd.R_drewN | apply Kd.R_drew)); exact HO106.out, z_12⟩
def lex_cutter_next.l0 : Nat → List ByteArray → Int → Int → ByteArray → Int → Int → ByteArray → Int → Int → Option (Int × ByteArray × Int × Int × Int × ByteArray × Int)
 | 0, _, _, _, _, _, _, _, _, _ => none
 | k + 1, x56, x57, x58, x1000, x1001, x109000, x109001, x109002, x109003 => if x58 < x57 then (if 0 ≤ x58 then (if x58 < (x56.length : Int) then (if ((rdOf ByteArray.empty x56 x58).size : Int) ≤ (wrap64 ((x1000.size : Int) - x1001)) then (if 0 ≤ x1001 then (if x1001 ≤ (wrap64 (x1001 + ((rdOf ByteArray.empty x56 x58).size : Int))) then (if (wrap64 (x1001 + ((rdOf ByteArray.empty x56 x58).size : Int))) ≤ (x1000.size : Int) then (if (x1000.extract (x1001 : Int).toNat ((wrap64 (x1001 + ((rdOf ByteArray.empty x56 x58).size : Int))) : Int).toNat).toList = (rdOf ByteArray.empty x56 x58).toList then (some (4, rdOf ByteArray.empty x56 x58, x109002, x109003, 0, x1000, wrap64 (x1001 + ((rdOf ByteArray.empty x56 x58).size : Int)))) else (lex_cutter_next.l0 k x56 x57 (wrap64 (x58 + 1)) x1000 x1001 x109000 x109001 x109002 x109003)) else (none)) else (none)) else (none)) else (lex_cutter_next.l0 k x56 x57 (wrap64 (x58 + 1)) x1000 x1001 x109000 x109001 x109002 x109003)) else (none)) else (none)) else (some (x109000, x109001, x109002, x109003, 31, x1000, x1001))
def lex_cutter_next.f (k : Nat) (s0_0 : ByteArray) (s0_1 : Int) : Option (Int × ByteArray × Int × Int × Int × ByteArray × Int) := if s0_1 = (s0_0.size : Int) then (some (0, (⟨#[]⟩ : ByteArray), 0, s0_1, 0, s0_0, s0_1)) else (if 0 ≤ s0_1 then (if s0_1 < (s0_0.size : Int) then ((lex_digit.f (bt s0_0 s0_1)).bind fun t109 => (if t109 = true then ((lex_cutter_number.f s0_0 s0_1 0 (⟨#[]⟩ : ByteArray) 0 s0_1).bind fun bt110 => (some (bt110.1, bt110.2.1, bt110.2.2.1, bt110.2.2.2.1, bt110.2.2.2.2.1, bt110.2.2.2.2.2.1, bt110.2.2.2.2.2.2))) else ((lex_letter.f (bt s0_0 s0_1)).bind fun t117 => (if t117 = true then ((lex_cutter_word.f s0_0 s0_1 0 (⟨#[]⟩ : ByteArray) 0 s0_1).bind fun bt118 => (some (bt118.1, bt118.2.1, bt118.2.2.1, bt118.2.2.2.1, bt118.2.2.2.2.1, bt118.2.2.2.2.2.1, bt118.2.2.2.2.2.2))) else ((lex_signs.f).bind fun t125 => (lex_cutter_next.l0 k t125 (t125.length : Int) 0 s0_0 s0_1 0 (⟨#[]⟩ : ByteArray) 0 s0_1)))))) else (none)) else (none))
theorem lex_cutter_next.mono_l : ∀ k, (∀ y0 y1 y2 y3 y4 y5 y6 y7 y8, LeO (lex_cutter_next.l0 k y0 y1 y2 y3 y4 y5 y6 y7 y8) (lex_cutter_next.l0 (k + 1) y0 y1 y2 y3 y4 y5 y6 y7 y8))
 | 0 => fun _ _ _ _ _ _ _ _ _ r h => by simp [lex_cutter_next.l0] at h
 | k + 1 => by
  have ih0 := lex_cutter_next.mono_l k
  ·intro y0 y1 y2 y3 y4 y5 y6 y7 y8
   unfold lex_cutter_next.l0
   repeat' first
   | (with_reducible exact ih0 _ _ _ _ _ _ _ _ _)
   | (with_reducible exact LeO.refl _)
   | (with_reducible exact LeO.none _)
   | (with_reducible refine LeO.ite ?_ ?_)
   | (with_reducible refine LeO.bind ?_ (fun _ => ?_))
   | exact ih0 _ _ _ _ _ _ _ _ _
   | exact LeO.none _
   | refine LeO.ite ?_ ?_
   | refine LeO.bind ?_ (fun _ => ?_)
theorem lex_cutter_next.mono : ∀ a0 a1 k, LeO (lex_cutter_next.f k a0 a1) (lex_cutter_next.f (k + 1) a0 a1) := by
 intro a0 a1 k; have ih0 := lex_cutter_next.mono_l k; unfold lex_cutter_next.f
 repeat' first
   | (with_reducible exact ih0 _ _ _ _ _ _ _ _ _)
   | (with_reducible exact LeO.refl _)
   | (with_reducible exact LeO.none _)
   | (with_reducible refine LeO.ite ?_ ?_)
   | (with_reducible refine LeO.bind ?_ (fun _ => ?_))
   | exact ih0 _ _ _ _ _ _ _ _ _
   | exact LeO.none _
   | refine LeO.ite ?_ ?_
   | refine LeO.bind ?_ (fun _ => ?_)
theorem lex_cutter_next.calls (k : Nat) (g : Nat) (s0_0 : ByteArray) (s0_1 : Int) (r1 : Int) (r2 : ByteArray) (r3 : Int) (r4 : Int) (r5 : Int) (r6 : ByteArray) (r7 : Int) (w0 w : World) (hI : IsS41 w0 w g s0_0 s0_1) (hB : Below w0.heap.size w0 w) (h : lex_cutter_next.f k s0_0 s0_1 = some (r1, r2, r3, r4, r5, r6, r7)) :
  Calls Try.prog 58 #[.pointer (some ⟨g, 0, none⟩)] w fun e w' => e = .returned (.tuple #[.agg #[.int .i64 r1, .string r2, .int .i64 r3, .int .i64 r4], .int .i64 r5]) ∧ IsS41 w0 w' g r6 r7 ∧ Below w0.heap.size w0 w' ∧ KeepBut w w' g none := by
 have hu33 := Try.underlying58; have HI0 := A_0 hI; have HK := A_0 (KeepBut.refl w g none); have HL := A_0 hB.size; clear hI; have HW0 := A_0 hB.size; have HB := A_0 hB; clear hB; have H : (if s0_1 = (s0_0.size : Int) then (some (0, (⟨#[]⟩ : ByteArray), 0, s0_1, 0, s0_0, s0_1)) else (if 0 ≤ s0_1 then (if s0_1 < (s0_0.size : Int) then ((lex_digit.f (bt s0_0 s0_1)).bind fun t109 => (if t109 = true then ((lex_cutter_number.f s0_0 s0_1 0 (⟨#[]⟩ : ByteArray) 0 s0_1).bind fun bt110 => (some (bt110.1, bt110.2.1, bt110.2.2.1, bt110.2.2.2.1, bt110.2.2.2.2.1, bt110.2.2.2.2.2.1, bt110.2.2.2.2.2.2))) else ((lex_letter.f (bt s0_0 s0_1)).bind fun t117 => (if t117 = true then ((lex_cutter_word.f s0_0 s0_1 0 (⟨#[]⟩ : ByteArray) 0 s0_1).bind fun bt118 => (some (bt118.1, bt118.2.1, bt118.2.2.1, bt118.2.2.2.1, bt118.2.2.2.2.1, bt118.2.2.2.2.2.1, bt118.2.2.2.2.2.2))) else ((lex_signs.f).bind fun t125 => (lex_cutter_next.l0 k t125 (t125.length : Int) 0 s0_0 s0_1 0 (⟨#[]⟩ : ByteArray) 0 s0_1)))))) else (none)) else (none))) = some (r1, r2, r3, r4, r5, r6, r7) := h; clear h; by_cases c2 : s0_1 = (s0_0.size : Int)
 ·rw [if_pos c2] at H
  obtain ⟨c2b0, c2b1⟩ := xbq c2; clear c2; simp only [Option.some.injEq, Prod.mk.injEq] at H; obtain ⟨rfl, rfl, rfl, rfl, rfl, rfl, rfl⟩ := H
  go_enter Try.func58, Try.ntmps58
  go_wp2_with (first | ((with_reducible refine gate_dst (N := 2) rfl ?_); refine bx (a58 0 ⟨#[]⟩ 0 0) 58 ?_; intro gb107 hg w3 hbox hb; replace HB := A_0 (xbs (z_184) hb); have BK107 := A_0 (hbox); have GW107 := A_0 ((z_197 : w.heap.size ≤ gb107)); have GE107 := A_0 ((Nat.le_trans HW0.out (z_197 : w.heap.size ≤ gb107) : w0.heap.size ≤ gb107)); replace HK := A_0 (KeepBut.trans (z_18) (KeepBut.of_below hb g none) (.inl rfl)); have NB0_107 := A_0 ((z_198 : g ≠ gb107)); have NB107_0 := A_0 ((z_199 : gb107 ≠ g)); replace HI0 := A_0 (IsS41.below (z_183) hb); clear hb hbox hg; obtain ⟨HGz4, hgz4⟩ := HI0.out; have hcz4_0 := cellS41_0 HGz4; have hcz4_1 := cellS41_1 HGz4; have hfz4_0 := xbz HGz4 0; have hfz4_1 := xbz HGz4 1; clear HGz4 hgz4) | ((with_reducible refine gate_dst (N := 4) rfl ?_); refine bx (a58 0 ⟨#[]⟩ 0 0) 58 ?_; intro gb108 hg w5 hbox hb; replace HB := A_0 (xbs (z_200) hb); have BK108 := A_0 (hbox); have GW108 := A_0 ((z_201 : w.heap.size ≤ gb108)); have GE108 := A_0 ((Nat.le_trans HW0.out (z_201 : w.heap.size ≤ gb108) : w0.heap.size ≤ gb108)); replace HK := A_0 (KeepBut.trans (z_202) (KeepBut.of_below hb g none) (.inl rfl)); have NB107_108 := A_0 ((z_203 : gb107 ≠ gb108)); have NB108_107 := A_0 ((z_204 : gb108 ≠ gb107)); replace BK107 := A_0 (blk_below (g := gb107) (o := b58 0 ⟨#[]⟩ 0 0) (z_205) hb); have NB0_108 := A_0 ((z_206 : g ≠ gb108)); have NB108_0 := A_0 ((z_207 : gb108 ≠ g)); replace HI0 := A_0 (IsS41.below (z_208) hb); clear hb hbox hg; have hnb6 := NB108_107.out; have hnc6 := NB107_108.out; have hnb7 := NB108_0.out; have hnc7 := NB0_108.out; have hcz8_0 : w5.cell? ⟨gb108, 0, none⟩ = some (.int .i64 0) := (xbc BK108.out 0).trans rfl; have hcz8_1 : w5.cell? ⟨gb108, 1, none⟩ = some (.string (⟨#[]⟩ : ByteArray)) := (xbc BK108.out 1).trans rfl; have hcz8_2 : w5.cell? ⟨gb108, 2, none⟩ = some (.int .i64 0) := (xbc BK108.out 2).trans rfl; have hcz8_3 : w5.cell? ⟨gb108, 3, none⟩ = some (.int .i64 0) := (xbc BK108.out 3).trans rfl; have hfz8_0 := xbz BK108.out 0; have hfz8_1 := xbz BK108.out 1; have hfz8_2 := xbz BK108.out 2; have hfz8_3 := xbz BK108.out 3; obtain ⟨HGz9, hgz9⟩ := HI0.out; have hcz9_0 := cellS41_0 HGz9; have hcz9_1 := cellS41_1 HGz9; have hfz9_0 := xbz HGz9 0; have hfz9_1 := xbz HGz9 1; clear HGz9 hgz9; have hnb10 := NB107_0.out; have hnc10 := NB0_107.out; have hcz11_0 : w5.cell? ⟨gb107, 0, none⟩ = some (.int .i64 0) := (xbc BK107.out 0).trans rfl; have hcz11_1 : w5.cell? ⟨gb107, 1, none⟩ = some (.string (⟨#[]⟩ : ByteArray)) := (xbc BK107.out 1).trans rfl; have hcz11_2 : w5.cell? ⟨gb107, 2, none⟩ = some (.int .i64 0) := (xbc BK107.out 2).trans rfl; have hcz11_3 : w5.cell? ⟨gb107, 3, none⟩ = some (.int .i64 0) := (xbc BK107.out 3).trans rfl; have hfz11_0 := xbz BK107.out 0; have hfz11_1 := xbz BK107.out 1; have hfz11_2 := xbz BK107.out 2; have hfz11_3 := xbz BK107.out 3))
  repeat (go_quiet (fail); try go_wp2_with (fail))
  refine bodyPost_ret (results_ct rfl _ _ gb107 58 #[.int .i64 0, .string (⟨#[]⟩ : ByteArray), .int .i64 0, .int .i64 s0_1] (0, 0) _ rfl (by (with_reducible repeat (first | refine blk_drewN ?_ _ | refine blk_drew ?_ | refine blk_alloc ?_ _)); apply p4_3; (with_reducible repeat (first | refine blk_drewN ?_ _ | refine blk_drew ?_ | refine blk_alloc ?_ _)); apply p4_2; (with_reducible repeat (first | refine blk_drewN ?_ _ | refine blk_drew ?_ | refine blk_alloc ?_ _)); apply p4_1; (with_reducible repeat (first | refine blk_drewN ?_ _ | refine blk_drew ?_ | refine blk_alloc ?_ _)); apply p4_0; (with_reducible repeat (first | refine blk_drewN ?_ _ | refine blk_drew ?_ | refine blk_alloc ?_ _)); refine blk_far ?_ NB107_108.out _; (with_reducible repeat (first | refine blk_drewN ?_ _ | refine blk_drew ?_ | refine blk_alloc ?_ _)); refine blk_far ?_ NB107_108.out _; (with_reducible repeat (first | refine blk_drewN ?_ _ | refine blk_drew ?_ | refine blk_alloc ?_ _)); refine blk_far ?_ NB107_108.out _; (with_reducible repeat (first | refine blk_drewN ?_ _ | refine blk_drew ?_ | refine blk_alloc ?_ _)); refine blk_far ?_ NB107_108.out _; (with_reducible repeat (first | refine blk_drewN ?_ _ | refine blk_drew ?_ | refine blk_alloc ?_ _)); exact BK107.out) Try.underlying58 rfl (by kernel_rfl)) rfl ?_
  exact ⟨z_17, z_209, z_210, z_211⟩
 ·rw [if_neg c2] at H
  obtain ⟨c2b0, c2b1⟩ := xnq c2; by_cases c12 : 0 ≤ s0_1
  ·rw [if_pos c12] at H
   have c12b0 := xdt c12; clear c12; by_cases c13 : s0_1 < (s0_0.size : Int)
   ·rw [if_pos c13] at H
    have c13b0 := xdt c13; clear c13; replace H := Option.bind_eq_some_iff.mp H; obtain ⟨t109, A150, H⟩ := H; replace H : (if t109 = true then ((lex_cutter_number.f s0_0 s0_1 0 (⟨#[]⟩ : ByteArray) 0 s0_1).bind fun bt110 => (some (bt110.1, bt110.2.1, bt110.2.2.1, bt110.2.2.2.1, bt110.2.2.2.2.1, bt110.2.2.2.2.2.1, bt110.2.2.2.2.2.2))) else ((lex_letter.f (bt s0_0 s0_1)).bind fun t117 => (if t117 = true then ((lex_cutter_word.f s0_0 s0_1 0 (⟨#[]⟩ : ByteArray) 0 s0_1).bind fun bt118 => (some (bt118.1, bt118.2.1, bt118.2.2.1, bt118.2.2.2.1, bt118.2.2.2.2.1, bt118.2.2.2.2.2.1, bt118.2.2.2.2.2.2))) else ((lex_signs.f).bind fun t125 => (lex_cutter_next.l0 k t125 (t125.length : Int) 0 s0_0 s0_1 0 (⟨#[]⟩ : ByteArray) 0 s0_1))))) = some (r1, r2, r3, r4, r5, r6, r7) := H; have A15 := A_0 A150; clear A150; by_cases c16 : t109 = true
    ·subst c16
     have H1 : ((lex_cutter_number.f s0_0 s0_1 0 (⟨#[]⟩ : ByteArray) 0 s0_1).bind fun bt110 => (some (bt110.1, bt110.2.1, bt110.2.2.1, bt110.2.2.2.1, bt110.2.2.2.2.1, bt110.2.2.2.2.2.1, bt110.2.2.2.2.2.2))) = some (r1, r2, r3, r4, r5, r6, r7) := z_23; clear H; have H := H1; clear H1; replace H := Option.bind_eq_some_iff.mp H; obtain ⟨⟨t110, t111, t112, t113, t114, t115, t116⟩, A170, H⟩ := H; replace H : (some (t110, t111, t112, t113, t114, t115, t116)) = some (r1, r2, r3, r4, r5, r6, r7) := H; have A17 := A_0 A170; clear A170; simp only [Option.some.injEq, Prod.mk.injEq] at H; obtain ⟨rfl, rfl, rfl, rfl, rfl, rfl, rfl⟩ := H
     go_enter Try.func58, Try.ntmps58
     go_wp2_with (first | ((with_reducible refine gate_dst (N := 2) rfl ?_); refine bx (a58 0 ⟨#[]⟩ 0 0) 58 ?_; intro gb107 hg w18 hbox hb; replace HB := A_0 (xbs (z_184) hb); have BK107 := A_0 (hbox); have GW107 := A_0 ((z_197 : w.heap.size ≤ gb107)); have GE107 := A_0 ((Nat.le_trans HW0.out (z_197 : w.heap.size ≤ gb107) : w0.heap.size ≤ gb107)); replace HK := A_0 (KeepBut.trans (z_18) (KeepBut.of_below hb g none) (.inl rfl)); have NB0_107 := A_0 ((z_198 : g ≠ gb107)); have NB107_0 := A_0 ((z_199 : gb107 ≠ g)); replace HI0 := A_0 (IsS41.below (z_183) hb); clear hb hbox hg; obtain ⟨HGz19, hgz19⟩ := HI0.out; have hcz19_0 := cellS41_0 HGz19; have hcz19_1 := cellS41_1 HGz19; have hfz19_0 := xbz HGz19 0; have hfz19_1 := xbz HGz19 1; clear HGz19 hgz19) | ((with_reducible refine gate_dst (N := 4) rfl ?_); refine bx (a58 0 ⟨#[]⟩ 0 0) 58 ?_; intro gb108 hg w20 hbox hb; replace HB := A_0 (xbs (z_200) hb); have BK108 := A_0 (hbox); have GW108 := A_0 ((z_201 : w.heap.size ≤ gb108)); have GE108 := A_0 ((Nat.le_trans HW0.out (z_201 : w.heap.size ≤ gb108) : w0.heap.size ≤ gb108)); replace HK := A_0 (KeepBut.trans (z_202) (KeepBut.of_below hb g none) (.inl rfl)); have NB107_108 := A_0 ((z_203 : gb107 ≠ gb108)); have NB108_107 := A_0 ((z_204 : gb108 ≠ gb107)); replace BK107 := A_0 (blk_below (g := gb107) (o := b58 0 ⟨#[]⟩ 0 0) (z_205) hb); have NB0_108 := A_0 ((z_206 : g ≠ gb108)); have NB108_0 := A_0 ((z_207 : gb108 ≠ g)); replace HI0 := A_0 (IsS41.below (z_208) hb); clear hb hbox hg; have hnb21 := NB108_107.out; have hnc21 := NB107_108.out; have hnb22 := NB108_0.out; have hnc22 := NB0_108.out; have hcz23_0 : w20.cell? ⟨gb108, 0, none⟩ = some (.int .i64 0) := (xbc BK108.out 0).trans rfl; have hcz23_1 : w20.cell? ⟨gb108, 1, none⟩ = some (.string (⟨#[]⟩ : ByteArray)) := (xbc BK108.out 1).trans rfl; have hcz23_2 : w20.cell? ⟨gb108, 2, none⟩ = some (.int .i64 0) := (xbc BK108.out 2).trans rfl; have hcz23_3 : w20.cell? ⟨gb108, 3, none⟩ = some (.int .i64 0) := (xbc BK108.out 3).trans rfl; have hfz23_0 := xbz BK108.out 0; have hfz23_1 := xbz BK108.out 1; have hfz23_2 := xbz BK108.out 2; have hfz23_3 := xbz BK108.out 3; obtain ⟨HGz24, hgz24⟩ := HI0.out; have hcz24_0 := cellS41_0 HGz24; have hcz24_1 := cellS41_1 HGz24; have hfz24_0 := xbz HGz24 0; have hfz24_1 := xbz HGz24 1; clear HGz24 hgz24; have p14 : 0 ≤ (s0_1 : Int) := xod (z_25); have q14 : s0_1 < (s0_0.size : Int) := xod (z_25); have hx14 := bt_at s0_0 s0_1; replace p14 := eq_true p14; replace q14 := eq_true q14) )
     repeat (go_quiet (first | (go_at_call 96; (with_reducible refine (lex_digit.calls (bt s0_0 s0_1) true _ A15.out).mono ?_); rintro e w' ⟨rfl, ⟨nd, rfl⟩⟩; (try first | exact ⟨rfl, _, World.drewN_drewN _ _ _⟩ | exact ⟨rfl, _, Eq.trans (World.drewN_drewN _ _ _) (congrArg (World.drewN _) (Nat.add_assoc _ _ _))⟩)) ); try go_wp2_with (first | (go_at_call 97; (with_reducible refine (lex_cutter_number.calls g s0_0 s0_1 0 (⟨#[]⟩ : ByteArray) 0 s0_1 t110 t111 t112 t113 t114 t115 t116 w0 _ ?side1 ?side2 A17.out).mono ?_); (case side1 => repeat (first | (with_reducible first | exact HI0.out | apply IsS41.alloc | apply IsS41.drewN | apply IsS41.drew | apply IsS41.set_0 | apply IsS41.set_1 | refine IsS41.far ?_ NB0_107.out _ | refine IsS41.far ?_ NB0_108.out _) | exact HI0.out)); (case side2 => repeat (first | (with_reducible first | exact HB.out | apply below_alloc | apply pw_below_drewN | apply below_drew1 | refine below_set ?_ (IsS41.ge HI0.out) | refine below_set ?_ GE107.out | refine below_set ?_ GE108.out) | exact HB.out)); rintro e w25 ⟨rfl, hi, hb, hk⟩; replace BK107 := A_0 (KeepBut.blk hk (g' := gb107) (o := b58 0 ⟨#[]⟩ 0 0) (z_212) NB107_0.out (by simp)); replace BK108 := A_0 (KeepBut.blk hk (g' := gb108) (o := b58 0 ⟨#[]⟩ 0 s0_1) (z_213) NB108_0.out (by simp)); replace HK := A_0 (KeepBut.trans (z_211) hk (.inl rfl)); replace HB := A_0 (hb); replace HI0 := A_0 (hi); (try clear hb); (try clear hb2); (try clear hk); (try clear hi); have hnb26 := NB107_0.out; have hnc26 := NB0_107.out; have hcz27_0 : w25.cell? ⟨gb107, 0, none⟩ = some (.int .i64 0) := (xbc BK107.out 0).trans rfl; have hcz27_1 : w25.cell? ⟨gb107, 1, none⟩ = some (.string (⟨#[]⟩ : ByteArray)) := (xbc BK107.out 1).trans rfl; have hcz27_2 : w25.cell? ⟨gb107, 2, none⟩ = some (.int .i64 0) := (xbc BK107.out 2).trans rfl; have hcz27_3 : w25.cell? ⟨gb107, 3, none⟩ = some (.int .i64 0) := (xbc BK107.out 3).trans rfl; have hfz27_0 := xbz BK107.out 0; have hfz27_1 := xbz BK107.out 1; have hfz27_2 := xbz BK107.out 2; have hfz27_3 := xbz BK107.out 3)))
     refine bodyPost_ret (results_ct rfl _ _ gb107 58 #[.int .i64 t110, .string t111, .int .i64 t112, .int .i64 t113] (0, 0) _ rfl (z_214) Try.underlying58 rfl (by kernel_rfl)) rfl ?_
     exact ⟨z_17, z_209, z_210, z_211⟩
    ·replace c16 := Bool.eq_false_iff.mpr c16
     subst c16; have H1 : ((lex_letter.f (bt s0_0 s0_1)).bind fun t117 => (if t117 = true then ((lex_cutter_word.f s0_0 s0_1 0 (⟨#[]⟩ : ByteArray) 0 s0_1).bind fun bt118 => (some (bt118.1, bt118.2.1, bt118.2.2.1, bt118.2.2.2.1, bt118.2.2.2.2.1, bt118.2.2.2.2.2.1, bt118.2.2.2.2.2.2))) else ((lex_signs.f).bind fun t125 => (lex_cutter_next.l0 k t125 (t125.length : Int) 0 s0_0 s0_1 0 (⟨#[]⟩ : ByteArray) 0 s0_1)))) = some (r1, r2, r3, r4, r5, r6, r7) := z_26; clear H; have H := H1; clear H1; replace H := Option.bind_eq_some_iff.mp H; obtain ⟨t117, A290, H⟩ := H; replace H : (if t117 = true then ((lex_cutter_word.f s0_0 s0_1 0 (⟨#[]⟩ : ByteArray) 0 s0_1).bind fun bt118 => (some (bt118.1, bt118.2.1, bt118.2.2.1, bt118.2.2.2.1, bt118.2.2.2.2.1, bt118.2.2.2.2.2.1, bt118.2.2.2.2.2.2))) else ((lex_signs.f).bind fun t125 => (lex_cutter_next.l0 k t125 (t125.length : Int) 0 s0_0 s0_1 0 (⟨#[]⟩ : ByteArray) 0 s0_1))) = some (r1, r2, r3, r4, r5, r6, r7) := H; have A29 := A_0 A290; clear A290; by_cases c30 : t117 = true
     ·subst c30
      have H1 : ((lex_cutter_word.f s0_0 s0_1 0 (⟨#[]⟩ : ByteArray) 0 s0_1).bind fun bt118 => (some (bt118.1, bt118.2.1, bt118.2.2.1, bt118.2.2.2.1, bt118.2.2.2.2.1, bt118.2.2.2.2.2.1, bt118.2.2.2.2.2.2))) = some (r1, r2, r3, r4, r5, r6, r7) := z_23; clear H; have H := H1; clear H1; replace H := Option.bind_eq_some_iff.mp H; obtain ⟨⟨t118, t119, t120, t121, t122, t123, t124⟩, A310, H⟩ := H; replace H : (some (t118, t119, t120, t121, t122, t123, t124)) = some (r1, r2, r3, r4, r5, r6, r7) := H; have A31 := A_0 A310; clear A310; simp only [Option.some.injEq, Prod.mk.injEq] at H; obtain ⟨rfl, rfl, rfl, rfl, rfl, rfl, rfl⟩ := H
      go_enter Try.func58, Try.ntmps58
      go_wp2_with (first | ((with_reducible refine gate_dst (N := 2) rfl ?_); refine bx (a58 0 ⟨#[]⟩ 0 0) 58 ?_; intro gb107 hg w32 hbox hb; replace HB := A_0 (xbs (z_184) hb); have BK107 := A_0 (hbox); have GW107 := A_0 ((z_197 : w.heap.size ≤ gb107)); have GE107 := A_0 ((Nat.le_trans HW0.out (z_197 : w.heap.size ≤ gb107) : w0.heap.size ≤ gb107)); replace HK := A_0 (KeepBut.trans (z_18) (KeepBut.of_below hb g none) (.inl rfl)); have NB0_107 := A_0 ((z_198 : g ≠ gb107)); have NB107_0 := A_0 ((z_199 : gb107 ≠ g)); replace HI0 := A_0 (IsS41.below (z_183) hb); clear hb hbox hg; obtain ⟨HGz33, hgz33⟩ := HI0.out; have hcz33_0 := cellS41_0 HGz33; have hcz33_1 := cellS41_1 HGz33; have hfz33_0 := xbz HGz33 0; have hfz33_1 := xbz HGz33 1; clear HGz33 hgz33) | ((with_reducible refine gate_dst (N := 4) rfl ?_); refine bx (a58 0 ⟨#[]⟩ 0 0) 58 ?_; intro gb108 hg w34 hbox hb; replace HB := A_0 (xbs (z_200) hb); have BK108 := A_0 (hbox); have GW108 := A_0 ((z_201 : w.heap.size ≤ gb108)); have GE108 := A_0 ((Nat.le_trans HW0.out (z_201 : w.heap.size ≤ gb108) : w0.heap.size ≤ gb108)); replace HK := A_0 (KeepBut.trans (z_202) (KeepBut.of_below hb g none) (.inl rfl)); have NB107_108 := A_0 ((z_203 : gb107 ≠ gb108)); have NB108_107 := A_0 ((z_204 : gb108 ≠ gb107)); replace BK107 := A_0 (blk_below (g := gb107) (o := b58 0 ⟨#[]⟩ 0 0) (z_205) hb); have NB0_108 := A_0 ((z_206 : g ≠ gb108)); have NB108_0 := A_0 ((z_207 : gb108 ≠ g)); replace HI0 := A_0 (IsS41.below (z_208) hb); clear hb hbox hg; have hnb35 := NB108_107.out; have hnc35 := NB107_108.out; have hnb36 := NB108_0.out; have hnc36 := NB0_108.out; have hcz37_0 : w34.cell? ⟨gb108, 0, none⟩ = some (.int .i64 0) := (xbc BK108.out 0).trans rfl; have hcz37_1 : w34.cell? ⟨gb108, 1, none⟩ = some (.string (⟨#[]⟩ : ByteArray)) := (xbc BK108.out 1).trans rfl; have hcz37_2 : w34.cell? ⟨gb108, 2, none⟩ = some (.int .i64 0) := (xbc BK108.out 2).trans rfl; have hcz37_3 : w34.cell? ⟨gb108, 3, none⟩ = some (.int .i64 0) := (xbc BK108.out 3).trans rfl; have hfz37_0 := xbz BK108.out 0; have hfz37_1 := xbz BK108.out 1; have hfz37_2 := xbz BK108.out 2; have hfz37_3 := xbz BK108.out 3; obtain ⟨HGz38, hgz38⟩ := HI0.out; have hcz38_0 := cellS41_0 HGz38; have hcz38_1 := cellS41_1 HGz38; have hfz38_0 := xbz HGz38 0; have hfz38_1 := xbz HGz38 1; clear HGz38 hgz38; have p14 : 0 ≤ (s0_1 : Int) := xod (z_25); have q14 : s0_1 < (s0_0.size : Int) := xod (z_25); have hx14 := bt_at s0_0 s0_1; replace p14 := eq_true p14; replace q14 := eq_true q14) )
      repeat (go_quiet (first | (go_at_call 96; (with_reducible refine (lex_digit.calls (bt s0_0 s0_1) false _ A15.out).mono ?_); rintro e w' ⟨rfl, ⟨nd, rfl⟩⟩; (try first | exact ⟨rfl, _, World.drewN_drewN _ _ _⟩ | exact ⟨rfl, _, Eq.trans (World.drewN_drewN _ _ _) (congrArg (World.drewN _) (Nat.add_assoc _ _ _))⟩); have p28 : 0 ≤ (s0_1 : Int) := xod (z_25); have q28 : s0_1 < (s0_0.size : Int) := xod (z_25); have hx28 := bt_at s0_0 s0_1; replace p28 := eq_true p28; replace q28 := eq_true q28) | (go_at_call 98; (with_reducible refine (lex_letter.calls (bt s0_0 s0_1) true _ A29.out).mono ?_); rintro e w' ⟨rfl, ⟨nd, rfl⟩⟩; (try first | exact ⟨rfl, _, World.drewN_drewN _ _ _⟩ | exact ⟨rfl, _, Eq.trans (World.drewN_drewN _ _ _) (congrArg (World.drewN _) (Nat.add_assoc _ _ _))⟩)) ); try go_wp2_with (first | (go_at_call 99; (with_reducible refine (lex_cutter_word.calls g s0_0 s0_1 0 (⟨#[]⟩ : ByteArray) 0 s0_1 t118 t119 t120 t121 t122 t123 t124 w0 _ ?side1 ?side2 A31.out).mono ?_); (case side1 => repeat (first | (with_reducible first | exact HI0.out | apply IsS41.alloc | apply IsS41.drewN | apply IsS41.drew | apply IsS41.set_0 | apply IsS41.set_1 | refine IsS41.far ?_ NB0_107.out _ | refine IsS41.far ?_ NB0_108.out _) | exact HI0.out)); (case side2 => repeat (first | (with_reducible first | exact HB.out | apply below_alloc | apply pw_below_drewN | apply below_drew1 | refine below_set ?_ (IsS41.ge HI0.out) | refine below_set ?_ GE107.out | refine below_set ?_ GE108.out) | exact HB.out)); rintro e w39 ⟨rfl, hi, hb, hk⟩; replace BK107 := A_0 (KeepBut.blk hk (g' := gb107) (o := b58 0 ⟨#[]⟩ 0 0) (z_212) NB107_0.out (by simp)); replace BK108 := A_0 (KeepBut.blk hk (g' := gb108) (o := b58 0 ⟨#[]⟩ 0 s0_1) (z_213) NB108_0.out (by simp)); replace HK := A_0 (KeepBut.trans (z_211) hk (.inl rfl)); replace HB := A_0 (hb); replace HI0 := A_0 (hi); (try clear hb); (try clear hb2); (try clear hk); (try clear hi); have hnb40 := NB107_0.out; have hnc40 := NB0_107.out; have hcz41_0 : w39.cell? ⟨gb107, 0, none⟩ = some (.int .i64 0) := (xbc BK107.out 0).trans rfl; have hcz41_1 : w39.cell? ⟨gb107, 1, none⟩ = some (.string (⟨#[]⟩ : ByteArray)) := (xbc BK107.out 1).trans rfl; have hcz41_2 : w39.cell? ⟨gb107, 2, none⟩ = some (.int .i64 0) := (xbc BK107.out 2).trans rfl; have hcz41_3 : w39.cell? ⟨gb107, 3, none⟩ = some (.int .i64 0) := (xbc BK107.out 3).trans rfl; have hfz41_0 := xbz BK107.out 0; have hfz41_1 := xbz BK107.out 1; have hfz41_2 := xbz BK107.out 2; have hfz41_3 := xbz BK107.out 3)))
      refine bodyPost_ret (results_ct rfl _ _ gb107 58 #[.int .i64 t118, .string t119, .int .i64 t120, .int .i64 t121] (0, 0) _ rfl (z_214) Try.underlying58 rfl (by kernel_rfl)) rfl ?_
      exact ⟨z_17, z_209, z_210, z_211⟩
     ·replace c30 := Bool.eq_false_iff.mpr c30
      subst c30; have H1 : ((lex_signs.f).bind fun t125 => (lex_cutter_next.l0 k t125 (t125.length : Int) 0 s0_0 s0_1 0 (⟨#[]⟩ : ByteArray) 0 s0_1)) = some (r1, r2, r3, r4, r5, r6, r7) := z_26; clear H; have H := H1; clear H1; replace H := Option.bind_eq_some_iff.mp H; obtain ⟨t125, A420, H⟩ := H; replace H : (lex_cutter_next.l0 k t125 (t125.length : Int) 0 s0_0 s0_1 0 (⟨#[]⟩ : ByteArray) 0 s0_1) = some (r1, r2, r3, r4, r5, r6, r7) := H; have A42 := A_0 A420; clear A420; have H' := A_0 H; clear H
      go_enter Try.func58, Try.ntmps58
      go_wp2_with (first | ((with_reducible refine gate_dst (N := 2) rfl ?_); refine bx (a58 0 ⟨#[]⟩ 0 0) 58 ?_; intro gb107 hg w43 hbox hb; replace HB := A_0 (xbs (z_184) hb); have BK107 := A_0 (hbox); have GW107 := A_0 ((z_197 : w.heap.size ≤ gb107)); have GE107 := A_0 ((Nat.le_trans HW0.out (z_197 : w.heap.size ≤ gb107) : w0.heap.size ≤ gb107)); replace HK := A_0 (KeepBut.trans (z_18) (KeepBut.of_below hb g none) (.inl rfl)); have NB0_107 := A_0 ((z_198 : g ≠ gb107)); have NB107_0 := A_0 ((z_199 : gb107 ≠ g)); replace HI0 := A_0 (IsS41.below (z_183) hb); clear hb hbox hg; obtain ⟨HGz44, hgz44⟩ := HI0.out; have hcz44_0 := cellS41_0 HGz44; have hcz44_1 := cellS41_1 HGz44; have hfz44_0 := xbz HGz44 0; have hfz44_1 := xbz HGz44 1; clear HGz44 hgz44) | ((with_reducible refine gate_dst (N := 4) rfl ?_); refine bx (a58 0 ⟨#[]⟩ 0 0) 58 ?_; intro gb108 hg w45 hbox hb; replace HB := A_0 (xbs (z_200) hb); have BK108 := A_0 (hbox); have GW108 := A_0 ((z_201 : w.heap.size ≤ gb108)); have GE108 := A_0 ((Nat.le_trans HW0.out (z_201 : w.heap.size ≤ gb108) : w0.heap.size ≤ gb108)); replace HK := A_0 (KeepBut.trans (z_202) (KeepBut.of_below hb g none) (.inl rfl)); have NB107_108 := A_0 ((z_203 : gb107 ≠ gb108)); have NB108_107 := A_0 ((z_204 : gb108 ≠ gb107)); replace BK107 := A_0 (blk_below (g := gb107) (o := b58 0 ⟨#[]⟩ 0 0) (z_205) hb); have NB0_108 := A_0 ((z_206 : g ≠ gb108)); have NB108_0 := A_0 ((z_207 : gb108 ≠ g)); replace HI0 := A_0 (IsS41.below (z_208) hb); clear hb hbox hg; have hnb46 := NB108_107.out; have hnc46 := NB107_108.out; have hnb47 := NB108_0.out; have hnc47 := NB0_108.out; have hcz48_0 : w45.cell? ⟨gb108, 0, none⟩ = some (.int .i64 0) := (xbc BK108.out 0).trans rfl; have hcz48_1 : w45.cell? ⟨gb108, 1, none⟩ = some (.string (⟨#[]⟩ : ByteArray)) := (xbc BK108.out 1).trans rfl; have hcz48_2 : w45.cell? ⟨gb108, 2, none⟩ = some (.int .i64 0) := (xbc BK108.out 2).trans rfl; have hcz48_3 : w45.cell? ⟨gb108, 3, none⟩ = some (.int .i64 0) := (xbc BK108.out 3).trans rfl; have hfz48_0 := xbz BK108.out 0; have hfz48_1 := xbz BK108.out 1; have hfz48_2 := xbz BK108.out 2; have hfz48_3 := xbz BK108.out 3; obtain ⟨HGz49, hgz49⟩ := HI0.out; have hcz49_0 := cellS41_0 HGz49; have hcz49_1 := cellS41_1 HGz49; have hfz49_0 := xbz HGz49 0; have hfz49_1 := xbz HGz49 1; clear HGz49 hgz49; have p14 : 0 ≤ (s0_1 : Int) := xod (z_25); have q14 : s0_1 < (s0_0.size : Int) := xod (z_25); have hx14 := bt_at s0_0 s0_1; replace p14 := eq_true p14; replace q14 := eq_true q14) )
      repeat (go_quiet (first | (go_at_call 96; (with_reducible refine (lex_digit.calls (bt s0_0 s0_1) false _ A15.out).mono ?_); rintro e w' ⟨rfl, ⟨nd, rfl⟩⟩; (try first | exact ⟨rfl, _, World.drewN_drewN _ _ _⟩ | exact ⟨rfl, _, Eq.trans (World.drewN_drewN _ _ _) (congrArg (World.drewN _) (Nat.add_assoc _ _ _))⟩); have p28 : 0 ≤ (s0_1 : Int) := xod (z_25); have q28 : s0_1 < (s0_0.size : Int) := xod (z_25); have hx28 := bt_at s0_0 s0_1; replace p28 := eq_true p28; replace q28 := eq_true q28) | (go_at_call 98; (with_reducible refine (lex_letter.calls (bt s0_0 s0_1) false _ A29.out).mono ?_); rintro e w' ⟨rfl, ⟨nd, rfl⟩⟩; (try first | exact ⟨rfl, _, World.drewN_drewN _ _ _⟩ | exact ⟨rfl, _, Eq.trans (World.drewN_drewN _ _ _) (congrArg (World.drewN _) (Nat.add_assoc _ _ _))⟩)) ); try go_wp2_with (first | (go_at_call 100; (with_reducible refine (lex_signs.calls  t125 _ A42.out).mono ?_); rintro e w50 ⟨v126, rfl, ho0, hb⟩; have HO127 := A_0 (Kd.R_lower ho0 (keep_size (w := w) (g := g) (row := none) (z_211))); replace BK107 := A_0 (blk_below (g := gb107) (o := b58 0 ⟨#[]⟩ 0 0) (z_212) hb); replace BK108 := A_0 (blk_below (g := gb108) (o := b58 0 ⟨#[]⟩ 0 s0_1) (z_213) hb); replace HK := A_0 (KeepBut.trans (z_211) (KeepBut.of_below hb g none) (.inl rfl)); replace HB := A_0 (xbs (z_210) hb); replace HI0 := A_0 (IsS41.below (show IsS41 w0 _ g s0_0 s0_1 from z_209) hb); (try clear hb); (try clear hb2); (try clear hk); (try clear hi); (try clear ho0); obtain ⟨Ao51, co51, eo51⟩ := Kd.R_slice HO127.out; subst eo51)))
      go_loopg [58] k (fun kq v58 w' => ∃ (x58_1 : Int) (x1001_1 : Int) (x108000_1 : Int) (x108001_1 : ByteArray) (x108002_1 : Int) (x108003_1 : Int) (x109000_1 : Int) (x109001_1 : ByteArray), v58 = .int .i64 x58_1 ∧ Aside0 (lex_cutter_next.l0 kq t125 (t125.length : Int) x58_1 s0_0 x1001_1 x109000_1 x109001_1 0 s0_1 = some (r1, r2, r3, r4, r5, r6, r7)) ∧ Aside0 (kq ≤ k) ∧ Aside0 (Kd.R Kd.string 9 w' w.heap.size (fun _ => True) (.slice Ao51 t125.length co51) t125) ∧ Aside0 (w'.heap[gb107]? = some (b58 x108000_1 x108001_1 x108002_1 x108003_1)) ∧ Aside0 (w'.heap[gb108]? = some (b58 x109000_1 x109001_1 0 s0_1)) ∧ Aside0 (IsS41 w0 w' g s0_0 x1001_1) ∧ Aside0 (KeepBut w w' g none) ∧ Aside0 (Below w0.heap.size w0 w'))
      case atStart => exact ⟨(0), (s0_1), (0), ((⟨#[]⟩ : ByteArray)), (0), (0), (0), ((⟨#[]⟩ : ByteArray)), (z_20), H', ⟨xlr _⟩, ⟨by (with_reducible repeat (first | apply Kd.R_alloc | apply Kd.R_drewN | apply Kd.R_drew)); exact HO127.out⟩, ⟨z_205⟩, ⟨z_215⟩, ⟨z_209⟩, ⟨z_211⟩, ⟨z_210⟩⟩
      case round =>
       clear H' c2 c2b0 c2b1 c12b0 c13b0 p14 q14 hx14 p28 q28 hx28 hcz44_0 hcz44_1 hcz48_0 hcz48_1 hcz48_2 hcz48_3 hcz49_0 hcz49_1 hfz44_0 hfz44_1 hfz48_0 hfz48_1 hfz48_2 hfz48_3 hfz49_0 hfz49_1; obtain ⟨x58_1, x1001_1, x108000_1, x108001_1, x108002_1, x108003_1, x109000_1, x109001_1, rfl, HA, HK1, HO_56, BK107, BK108, HI0, HK, HB⟩ := hrel; cases gk with
       | zero => exact absurd HA.out (by simp [lex_cutter_next.l0])
       | succ k1 =>
        have H := HA.out; clear HA; simp only [lex_cutter_next.l0] at H; by_cases c52 : x58_1 < (t125.length : Int)
        ·rw [if_pos c52] at H
         have c52b0 := xdt c52; clear c52; by_cases c53 : 0 ≤ x58_1
         ·rw [if_pos c53] at H
          have c53b0 := xdt c53; clear c53; by_cases c54 : x58_1 < (t125.length : Int)
          ·rw [if_pos c54] at H
           have c54b0 := xdt c54; clear c54; by_cases c55 : ((rdOf ByteArray.empty t125 x58_1).size : Int) ≤ (wrap64 ((s0_0.size : Int) - x1001_1))
           ·rw [if_pos c55] at H
            have c55b0 := xdt c55; clear c55; by_cases c56 : 0 ≤ x1001_1
            ·rw [if_pos c56] at H
             have c56b0 := eq_true c56; have c56b1 := xdt c56; clear c56; by_cases c57 : x1001_1 ≤ (wrap64 (x1001_1 + ((rdOf ByteArray.empty t125 x58_1).size : Int)))
             ·rw [if_pos c57] at H
              have c57b0 := eq_true c57; have c57b1 := xdt c57; by_cases c58 : (wrap64 (x1001_1 + ((rdOf ByteArray.empty t125 x58_1).size : Int))) ≤ (s0_0.size : Int)
              ·rw [if_pos c58] at H
               have c58b0 := eq_true c58; have c58b1 := xdt c58; by_cases c59 : (s0_0.extract (x1001_1 : Int).toNat ((wrap64 (x1001_1 + ((rdOf ByteArray.empty t125 x58_1).size : Int))) : Int).toNat).toList = (rdOf ByteArray.empty t125 x58_1).toList
               ·rw [if_pos c59] at H
                obtain ⟨c59b0, c59b1⟩ := xbq c59; clear c59; simp only [Option.some.injEq, Prod.mk.injEq] at H; obtain ⟨rfl, rfl, rfl, rfl, rfl, rfl, rfl⟩ := H; have p128 : 0 ≤ (x58_1 : Int) := xod (z_25); have q128 : x58_1 < (t125.length : Int) := xod (z_25); obtain ⟨ad128, e128, hx128_0⟩ := Kd.at_string (Kd.R_reads' HO_56.out).2.2 x58_1 p128 q128; cases e128; replace p128 := eq_true p128; replace q128 := eq_true q128; obtain ⟨HGz60, hgz60⟩ := HI0.out; have hcz60_0 := cellS41_0 HGz60; have hcz60_1 := cellS41_1 HGz60; have hfz60_0 := xbz HGz60 0; have hfz60_1 := xbz HGz60 1; clear HGz60 hgz60; have hnb61 := NB108_107.out; have hnc61 := NB107_108.out; have hnb62 := NB108_0.out; have hnc62 := NB0_108.out; have hcz63_0 : wr.cell? ⟨gb108, 0, none⟩ = some (.int .i64 x109000_1) := (xbc BK108.out 0).trans rfl; have hcz63_1 : wr.cell? ⟨gb108, 1, none⟩ = some (.string x109001_1) := (xbc BK108.out 1).trans rfl; have hcz63_2 : wr.cell? ⟨gb108, 2, none⟩ = some (.int .i64 0) := (xbc BK108.out 2).trans rfl; have hcz63_3 : wr.cell? ⟨gb108, 3, none⟩ = some (.int .i64 s0_1) := (xbc BK108.out 3).trans rfl; have hfz63_0 := xbz BK108.out 0; have hfz63_1 := xbz BK108.out 1; have hfz63_2 := xbz BK108.out 2; have hfz63_3 := xbz BK108.out 3; have hnb64 := NB107_0.out; have hnc64 := NB0_107.out; have hcz65_0 : wr.cell? ⟨gb107, 0, none⟩ = some (.int .i64 x108000_1) := (xbc BK107.out 0).trans rfl; have hcz65_1 : wr.cell? ⟨gb107, 1, none⟩ = some (.string x108001_1) := (xbc BK107.out 1).trans rfl; have hcz65_2 : wr.cell? ⟨gb107, 2, none⟩ = some (.int .i64 x108002_1) := (xbc BK107.out 2).trans rfl; have hcz65_3 : wr.cell? ⟨gb107, 3, none⟩ = some (.int .i64 x108003_1) := (xbc BK107.out 3).trans rfl; have hfz65_0 := xbz BK107.out 0; have hfz65_1 := xbz BK107.out 1; have hfz65_2 := xbz BK107.out 2; have hfz65_3 := xbz BK107.out 3
                go_wp2
                repeat (go_quiet (fail); try go_wp2)
                refine bodyPost_ret (results_ct rfl _ _ gb107 58 #[.int .i64 4, .string (rdOf ByteArray.empty t125 x58_1), .int .i64 0, .int .i64 s0_1] (0, 0) _ rfl (by (with_reducible repeat (first | refine blk_drewN ?_ _ | refine blk_drew ?_ | refine blk_alloc ?_ _)); apply p4_3; (with_reducible repeat (first | refine blk_drewN ?_ _ | refine blk_drew ?_ | refine blk_alloc ?_ _)); apply p4_2; (with_reducible repeat (first | refine blk_drewN ?_ _ | refine blk_drew ?_ | refine blk_alloc ?_ _)); apply p4_1; (with_reducible repeat (first | refine blk_drewN ?_ _ | refine blk_drew ?_ | refine blk_alloc ?_ _)); apply p4_0; (with_reducible repeat (first | refine blk_drewN ?_ _ | refine blk_drew ?_ | refine blk_alloc ?_ _)); refine blk_far ?_ NB107_108.out _; (with_reducible repeat (first | refine blk_drewN ?_ _ | refine blk_drew ?_ | refine blk_alloc ?_ _)); refine blk_far ?_ NB107_108.out _; (with_reducible repeat (first | refine blk_drewN ?_ _ | refine blk_drew ?_ | refine blk_alloc ?_ _)); refine blk_far ?_ NB107_0.out _; (with_reducible repeat (first | refine blk_drewN ?_ _ | refine blk_drew ?_ | refine blk_alloc ?_ _)); exact BK107.out) Try.underlying58 rfl (by kernel_rfl)) rfl ?_
                exact ⟨z_17, z_209, z_210, z_211⟩
               ·rw [if_neg c59] at H
                obtain ⟨c59b0, c59b1⟩ := xnq c59; have H' := A_0 H; clear H; have p128 : 0 ≤ (x58_1 : Int) := xod (z_25); have q128 : x58_1 < (t125.length : Int) := xod (z_25); obtain ⟨ad128, e128, hx128_0⟩ := Kd.at_string (Kd.R_reads' HO_56.out).2.2 x58_1 p128 q128; cases e128; replace p128 := eq_true p128; replace q128 := eq_true q128; obtain ⟨HGz66, hgz66⟩ := HI0.out; have hcz66_0 := cellS41_0 HGz66; have hcz66_1 := cellS41_1 HGz66; have hfz66_0 := xbz HGz66 0; have hfz66_1 := xbz HGz66 1; clear HGz66 hgz66
                go_wp2
                repeat (go_quiet (fail); try go_wp2)
                go_roundg k1
                case measure => have := HK1.out; omega
                case rel => exact ⟨(wrap64 (x58_1 + 1)), (x1001_1), (x108000_1), (x108001_1), (x108002_1), (x108003_1), (x109000_1), (x109001_1), (z_20), H', ⟨by have := HK1.out; omega⟩, ⟨z_216⟩, ⟨z_205⟩, ⟨z_215⟩, ⟨z_209⟩, ⟨z_211⟩, ⟨z_210⟩⟩
              ·rw [if_neg c58] at H
               exact z_27
             ·rw [if_neg c57] at H
              exact z_27
            ·rw [if_neg c56] at H
             exact z_27
           ·rw [if_neg c55] at H
            have c55b0 := xdf c55; clear c55; have H' := A_0 H; clear H; have p128 : 0 ≤ (x58_1 : Int) := xod (z_25); have q128 : x58_1 < (t125.length : Int) := xod (z_25); obtain ⟨ad128, e128, hx128_0⟩ := Kd.at_string (Kd.R_reads' HO_56.out).2.2 x58_1 p128 q128; cases e128; replace p128 := eq_true p128; replace q128 := eq_true q128; obtain ⟨HGz67, hgz67⟩ := HI0.out; have hcz67_0 := cellS41_0 HGz67; have hcz67_1 := cellS41_1 HGz67; have hfz67_0 := xbz HGz67 0; have hfz67_1 := xbz HGz67 1; clear HGz67 hgz67
            go_wp2
            repeat (go_quiet (fail); try go_wp2)
            go_roundg k1
            case measure => have := HK1.out; omega
            case rel => exact ⟨(wrap64 (x58_1 + 1)), (x1001_1), (x108000_1), (x108001_1), (x108002_1), (x108003_1), (x109000_1), (x109001_1), (z_20), H', ⟨by have := HK1.out; omega⟩, ⟨z_216⟩, ⟨z_205⟩, ⟨z_215⟩, ⟨z_209⟩, ⟨z_211⟩, ⟨z_210⟩⟩
          ·rw [if_neg c54] at H
           exact z_27
         ·rw [if_neg c53] at H
          exact z_27
        ·rw [if_neg c52] at H
         have c52b0 := xdf c52; clear c52; simp only [Option.some.injEq, Prod.mk.injEq] at H; obtain ⟨rfl, rfl, rfl, rfl, rfl, rfl, rfl⟩ := H; have hnb68 := NB108_107.out; have hnc68 := NB107_108.out; have hnb69 := NB108_0.out; have hnc69 := NB0_108.out; have hcz70_0 : wr.cell? ⟨gb108, 0, none⟩ = some (.int .i64 x109000_1) := (xbc BK108.out 0).trans rfl; have hcz70_1 : wr.cell? ⟨gb108, 1, none⟩ = some (.string x109001_1) := (xbc BK108.out 1).trans rfl; have hcz70_2 : wr.cell? ⟨gb108, 2, none⟩ = some (.int .i64 0) := (xbc BK108.out 2).trans rfl; have hcz70_3 : wr.cell? ⟨gb108, 3, none⟩ = some (.int .i64 s0_1) := (xbc BK108.out 3).trans rfl; have hfz70_0 := xbz BK108.out 0; have hfz70_1 := xbz BK108.out 1; have hfz70_2 := xbz BK108.out 2; have hfz70_3 := xbz BK108.out 3; have hnb71 := NB107_0.out; have hnc71 := NB0_107.out; have hcz72_0 : wr.cell? ⟨gb107, 0, none⟩ = some (.int .i64 x108000_1) := (xbc BK107.out 0).trans rfl; have hcz72_1 : wr.cell? ⟨gb107, 1, none⟩ = some (.string x108001_1) := (xbc BK107.out 1).trans rfl; have hcz72_2 : wr.cell? ⟨gb107, 2, none⟩ = some (.int .i64 x108002_1) := (xbc BK107.out 2).trans rfl; have hcz72_3 : wr.cell? ⟨gb107, 3, none⟩ = some (.int .i64 x108003_1) := (xbc BK107.out 3).trans rfl; have hfz72_0 := xbz BK107.out 0; have hfz72_1 := xbz BK107.out 1; have hfz72_2 := xbz BK107.out 2; have hfz72_3 := xbz BK107.out 3
         go_wp2
         refine bodyPost_ret (results_ct rfl _ _ gb107 58 #[.int .i64 x109000_1, .string x109001_1, .int .i64 0, .int .i64 s0_1] (0, 0) _ rfl (z_214) Try.underlying58 rfl (by kernel_rfl)) rfl ?_
         exact ⟨z_17, z_209, z_210, z_211⟩
   ·rw [if_neg c13] at H
    exact z_27
  ·rw [if_neg c12] at H
   exact z_27
end Go.Proofs.Ytobkdmmnbnpemaa.Lx
