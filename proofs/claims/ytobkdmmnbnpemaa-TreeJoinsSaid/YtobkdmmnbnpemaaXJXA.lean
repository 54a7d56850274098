/- The cutter: bytes of a kind, numbers, words: walked by hand. -/
import Derived.Test.YtobkdmmnbnpemaaXJX1
import Derived.Lib.Hide
import Derived.StillTailTactics
import Derived.IntWalk
import Derived.BigQuiet
namespace Go.Proofs.Ytobkdmmnbnpemaa.Lx
open Go.RowKit Go.Proofs.YtobkdmmnbnpemaaW.PrintWords Go.Proofs.YtobkdmmnbnpemaaW.PrintLast Go.Proofs.YtobkdmmnbnpemaaW.PrintMore
attribute [local go_sem] max2_int min2_int max_two min_two max_three min_three max_four min_four
set_option linter.unusedVariables false
set_option linter.unusedSimpArgs false
def isDig (c : Int) : Bool := decide (48 ≤ c) && decide (c ≤ 57)
def isLet (c : Int) : Bool := (decide (97 ≤ c) && decide (c ≤ 122)) || (decide (65 ≤ c) && decide (c ≤ 90)) || c == 95
def isAn (c : Int) : Bool := isLet c || isDig c
theorem digit_f (c : Int) : lex_digit.f c = some (isDig c) := by
  unfold lex_digit.f isDig; by_cases h : c ≥ 48
  · rw [if_pos h, decide_eq_true (show 48 ≤ c from h)]; rfl
  · rw [if_neg h, decide_eq_false (show ¬ 48 ≤ c from h)]; rfl
theorem letter_f (c : Int) : lex_letter.f c = some (isLet c) := by
  unfold lex_letter.f isLet; by_cases h : c ≥ 97
  · rw [if_pos h, decide_eq_true (show 97 ≤ c from h)]
    by_cases h2 : c ≤ 122
    · rw [if_pos h2, decide_eq_true h2]; rfl
    · rw [if_neg h2, decide_eq_false h2]
      by_cases h3 : c ≥ 65
      · rw [if_pos h3, decide_eq_true (show 65 ≤ c from h3), if_neg (by omega), decide_eq_false (show ¬ c ≤ 90 by omega)]; rfl
      · omega
  · rw [if_neg h, decide_eq_false (show ¬ 97 ≤ c from h)]
    by_cases h3 : c ≥ 65
    · rw [if_pos h3, decide_eq_true (show 65 ≤ c from h3)]
      by_cases h4 : c ≤ 90
      · rw [if_pos h4, decide_eq_true h4]; rfl
      · rw [if_neg h4, decide_eq_false h4]; rfl
    · rw [if_neg h3, decide_eq_false (show ¬ 65 ≤ c from h3)]; rfl
theorem dig26 (c : Int) (w : World) : Calls Try.prog 96 #[.int .u8 c] w fun e w' => e = .returned (.bool (isDig c)) ∧ Drawn0 w w' := lex_digit.calls c (isDig c) w (digit_f c)
set_option maxHeartbeats 1000000 in
theorem an38 (c : Int) (w : World) : Calls Try.prog 123 #[.int .u8 c] w fun e w' => e = .returned (.bool (isAn c)) ∧ Drawn0 w w' := by
  cases hl : isLet c
  · have hr : isAn c = isDig c := by unfold isAn; rw [hl]; rfl
    have hc := Lib.hid (fun W => lex_letter.calls c false W (by rw [letter_f, hl])); have hd := Lib.hid (fun W => dig26 c W); rw [hr]; generalize isDig c = r at *; clear hr hl
    go_enter Try.func123, Try.ntmps123
    go_wp2_with fail
    refine (hc.out _).mono ?_
    rintro e w1 ⟨rfl, ⟨nd, rfl⟩⟩
    go_wp2_with fail
    refine (hd.out _).mono ?_
    rintro e w1 ⟨rfl, ⟨nd2, rfl⟩⟩
    go_wp2
    go_ret
    exact ⟨rfl, z_173⟩
  · have hr : isAn c = true := by unfold isAn; rw [hl]; rfl
    have hc := Lib.hid (fun W => lex_letter.calls c true W (by rw [letter_f, hl])); rw [hr]; clear hr hl
    go_enter Try.func123, Try.ntmps123
    go_wp2_with fail
    refine (hc.out _).mono ?_
    rintro e w1 ⟨rfl, ⟨nd, rfl⟩⟩
    go_wp2
    go_ret
    exact ⟨rfl, z_173⟩
def endOf (p : Int → Bool) (s : ByteArray) : Nat → Nat → Nat
  | 0, i => i
  | k + 1, i => if i < s.size then (if p (bt s i) = true then endOf p s k (i + 1) else i) else i
theorem endOf_le (p : Int → Bool) (s : ByteArray) : ∀ k i, i ≤ s.size → i ≤ endOf p s k i ∧ endOf p s k i ≤ s.size
  | 0, i, h => ⟨Nat.le_refl _, h⟩
  | k + 1, i, h => by
    unfold endOf; by_cases c : i < s.size
    · rw [if_pos c]
      split
      · have := endOf_le p s k (i + 1) (by omega)
        omega
      · exact ⟨Nat.le_refl _, h⟩
    · rw [if_neg c]; exact ⟨Nat.le_refl _, h⟩
def upto (p : Int → Bool) (s : ByteArray) (i : Nat) : Nat := endOf p s (s.size - i) i
theorem upto_le (p : Int → Bool) (s : ByteArray) (i : Nat) (h : i ≤ s.size) : i ≤ upto p s i ∧ upto p s i ≤ s.size := endOf_le p s _ i h
theorem upto_in (p : Int → Bool) (s : ByteArray) (i : Nat) (h : i < s.size) (hp : p (bt s i) = true) : upto p s i = upto p s (i + 1) := by
  unfold upto; have e : s.size - i = (s.size - (i + 1)) + 1 := by omega
  rw [e, endOf, if_pos h, if_pos hp]
theorem upto_out (p : Int → Bool) (s : ByteArray) (i : Nat) (hp : i < s.size → p (bt s i) = false) : upto p s i = i := by
  unfold upto; by_cases h : i < s.size
  · have e : s.size - i = (s.size - (i + 1)) + 1 := by omega
    rw [e, endOf, if_pos h, if_neg (by rw [hp h]; simp)]
  · have e : s.size - i = 0 := by omega
    rw [e, endOf]
def WRel26 (p : Int → Bool) (s : ByteArray) (i g : Nat) (w0 w : World) (kq : Nat) (w' : World) : Prop :=
  ∃ j : Nat, j ≤ s.size ∧ s.size - j < kq ∧ Aside0 (upto p s j = upto p s i) ∧ Aside0 (i ≤ j) ∧ Aside0 (IsS41 w0 w' g s j) ∧ Aside0 (Below w0.heap.size w0 w') ∧ Aside0 (KeepBut w w' g none)
def WPost26 (p : Int → Bool) (s : ByteArray) (i g : Nat) (w0 w : World) (e : Ending) (w' : World) : Prop :=
  e = .returned (.string (s.extract i (upto p s i))) ∧ IsS41 w0 w' g s (upto p s i) ∧ Below w0.heap.size w0 w' ∧ KeepBut w w' g none
theorem while_end26 {s : ByteArray} {i j g : Nat} {x : Int} {w0 w w' : World} {e : Ending} (hf : upto isDig s i = j) (hx : x = (j : Int)) (hI : IsS41 w0 w' g s x) (hB : Below w0.heap.size w0 w') (hK : KeepBut w w' g none) (he : e = .returned (.string (s.extract i j))) : WPost26 isDig s i g w0 w e w' := by
  subst hx; unfold WPost26; rw [hf]; exact ⟨he, hI, hB, hK⟩
set_option maxHeartbeats 4000000 in
set_option maxRecDepth 100000 in
theorem while_26 (s : ByteArray) (i g : Nat) (w0 w : World) (hi : i ≤ s.size) (hs : s.size ≤ 140737488351232) (hI : IsS41 w0 w g s i) (hB : Below w0.heap.size w0 w) :
    Calls Try.prog 121 #[.pointer (some ⟨g, 0, none⟩), .func (Fn.func 96) #[] #[]] w (WPost26 isDig s i g w0 w) := by
  have c0 : w.cell? ⟨g, 0, none⟩ = some (.string s) := (blk_cell hI.1 0).trans rfl; have c1 : w.cell? ⟨g, 1, none⟩ = some (.int .i64 i) := (blk_cell hI.1 1).trans rfl; have HI := A_0 hI; have HB := A_0 hB; clear hI hB
  go_enter Try.func121, Try.ntmps121
  go_wp2
  go_loopg [13] (s.size - i + 1) (fun kq v13 w' => WRel26 isDig s i g w0 w kq w')
  case atStart => exact ⟨i, hi, by omega, ⟨rfl⟩, ⟨Nat.le_refl _⟩, HI, HB, ⟨KeepBut.refl w g none⟩⟩
  case round =>
    clear HI HB c0 c1; unfold WRel26 at hrel; obtain ⟨j, hj, hk, HE, HJ, HI, HB, HK⟩ := hrel; have c0 : wr.cell? ⟨g, 0, none⟩ = some (.string s) := (blk_cell HI.out.1 0).trans rfl; obtain ⟨x, hx⟩ : ∃ x : Int, x = (j : Int) := ⟨_, rfl⟩; have HXJ := Lib.hid hx; have HI2 := A_0 (show IsS41 w0 wr g s x by rw [hx]; exact HI.out)
    clear HI hx; have HI := HI2; clear HI2; have hxb : 0 ≤ x ∧ x ≤ (s.size : Int) := by rw [HXJ.out]; omega
    obtain ⟨hx0, hx1⟩ := hxb; have c1 : wr.cell? ⟨g, 1, none⟩ = some (.int .i64 x) := (blk_cell HI.out.1 1).trans rfl; have q1 := blk_frozen HI.out.1 1; cases gk with
    | zero => omega
    | succ k1 =>
    by_cases hlt : x < (s.size : Int)
    · have hjs : j < s.size := by have := HXJ.out; omega
      have hc := Lib.hid (fun W => dig26 (bt s x) W); have hin := Lib.hid (show isDig (bt s x) = true → upto isDig s j = upto isDig s (j + 1) by rw [HXJ.out]; exact upto_in isDig s j hjs)
      have hout := Lib.hid (show isDig (bt s x) = false → upto isDig s j = j by rw [HXJ.out]; exact fun hq => upto_out isDig s j (fun _ => hq))
      have g1 : decide (x < (s.size : Int)) = true := decide_eq_true hlt; have p4 : ((0 : Int) ≤ x) = True := eq_true hx0; have q4 : (x < (s.size : Int)) = True := eq_true hlt; have hx4 := bt_at s x; clear hlt hx0; cases hp : isDig (bt s x) with
      | true =>
        rw [hp] at hc; have HUP := Lib.hid ((hin.out hp).symm.trans HE.out); clear hin hout hp
        go_wp2
        go_quiet (first | (go_at_call 96; refine (hc.out _).mono ?_; rintro e w' ⟨rfl, ⟨nd, rfl⟩⟩; (try first | exact ⟨rfl, _, World.drewN_drewN _ _ _⟩ | exact ⟨rfl, _, Eq.trans (World.drewN_drewN _ _ _) (congrArg (World.drewN _) (Nat.add_assoc _ _ _))⟩)))
        go_wp2
        go_roundg k1
        case measure => omega
        case rel => exact ⟨j + 1, by omega, by omega, ⟨HUP.out⟩, ⟨by have := HJ.out; omega⟩, ⟨z_196⟩, ⟨below_set (pw_below_drewN HB.out _) HI.out.2⟩, ⟨KeepBut.set_ (keep_drewN HK.out _) _ _⟩⟩
      | false =>
        rw [hp] at hc; have HUP := Lib.hid ((hout.out hp).symm.trans HE.out); clear hin hout hp
        go_wp2
        go_quiet (first | (go_at_call 96; refine (hc.out _).mono ?_; rintro e w' ⟨rfl, ⟨nd, rfl⟩⟩; (try first | exact ⟨rfl, _, World.drewN_drewN _ _ _⟩ | exact ⟨rfl, _, Eq.trans (World.drewN_drewN _ _ _) (congrArg (World.drewN _) (Nat.add_assoc _ _ _))⟩)))
        go_wp2
        have z1 : ((i : Int) ≤ x) = True := eq_true (z_197); have z2 : (x ≤ (s.size : Int)) = True := eq_true hx1
        go_quiet (fail)
        go_wp2
        go_ret
        have hfin : upto isDig s i = j := HUP.out.symm; refine while_end26 hfin HXJ.out (z_198) (z_199) (z_200) ?_; have ej : x.toNat = j := by { have := HXJ.out; omega }
        rw [← ej]
        rfl
    · have hjs : ¬ j < s.size := by have := HXJ.out; omega
      have hout := Lib.hid (upto_out isDig s j (fun hq => absurd hq hjs)); have g1 : decide (x < (s.size : Int)) = false := decide_eq_false hlt; have HUP := Lib.hid (hout.out.symm.trans HE.out); clear hout
      go_wp2
      go_quiet (fail)
      go_wp2
      have z1 : ((i : Int) ≤ x) = True := eq_true (z_197); have z2 : (x ≤ (s.size : Int)) = True := eq_true hx1
      go_quiet (fail)
      go_wp2
      go_ret
      have hfin : upto isDig s i = j := HUP.out.symm; refine while_end26 hfin HXJ.out (z_198) (z_199) (z_200) ?_; have ej : x.toNat = j := by { have := HXJ.out; omega }
      rw [← ej]
      rfl
def WRel38 (p : Int → Bool) (s : ByteArray) (i g : Nat) (w0 w : World) (kq : Nat) (w' : World) : Prop :=
  ∃ j : Nat, j ≤ s.size ∧ s.size - j < kq ∧ Aside0 (upto p s j = upto p s i) ∧ Aside0 (i ≤ j) ∧ Aside0 (IsS41 w0 w' g s j) ∧ Aside0 (Below w0.heap.size w0 w') ∧ Aside0 (KeepBut w w' g none)
def WPost38 (p : Int → Bool) (s : ByteArray) (i g : Nat) (w0 w : World) (e : Ending) (w' : World) : Prop :=
  e = .returned (.string (s.extract i (upto p s i))) ∧ IsS41 w0 w' g s (upto p s i) ∧ Below w0.heap.size w0 w' ∧ KeepBut w w' g none
theorem while_end38 {s : ByteArray} {i j g : Nat} {x : Int} {w0 w w' : World} {e : Ending} (hf : upto isAn s i = j) (hx : x = (j : Int)) (hI : IsS41 w0 w' g s x) (hB : Below w0.heap.size w0 w') (hK : KeepBut w w' g none) (he : e = .returned (.string (s.extract i j))) : WPost38 isAn s i g w0 w e w' := by
  subst hx; unfold WPost38; rw [hf]; exact ⟨he, hI, hB, hK⟩
set_option maxHeartbeats 4000000 in
set_option maxRecDepth 100000 in
theorem while_38 (s : ByteArray) (i g : Nat) (w0 w : World) (hi : i ≤ s.size) (hs : s.size ≤ 140737488351232) (hI : IsS41 w0 w g s i) (hB : Below w0.heap.size w0 w) :
    Calls Try.prog 121 #[.pointer (some ⟨g, 0, none⟩), .func (Fn.func 123) #[] #[]] w (WPost38 isAn s i g w0 w) := by
  have c0 : w.cell? ⟨g, 0, none⟩ = some (.string s) := (blk_cell hI.1 0).trans rfl; have c1 : w.cell? ⟨g, 1, none⟩ = some (.int .i64 i) := (blk_cell hI.1 1).trans rfl; have HI := A_0 hI; have HB := A_0 hB; clear hI hB
  go_enter Try.func121, Try.ntmps121
  go_wp2
  go_loopg [13] (s.size - i + 1) (fun kq v13 w' => WRel38 isAn s i g w0 w kq w')
  case atStart => exact ⟨i, hi, by omega, ⟨rfl⟩, ⟨Nat.le_refl _⟩, HI, HB, ⟨KeepBut.refl w g none⟩⟩
  case round =>
    clear HI HB c0 c1; unfold WRel38 at hrel; obtain ⟨j, hj, hk, HE, HJ, HI, HB, HK⟩ := hrel; have c0 : wr.cell? ⟨g, 0, none⟩ = some (.string s) := (blk_cell HI.out.1 0).trans rfl; obtain ⟨x, hx⟩ : ∃ x : Int, x = (j : Int) := ⟨_, rfl⟩; have HXJ := Lib.hid hx; have HI2 := A_0 (show IsS41 w0 wr g s x by rw [hx]; exact HI.out)
    clear HI hx; have HI := HI2; clear HI2; have hxb : 0 ≤ x ∧ x ≤ (s.size : Int) := by rw [HXJ.out]; omega
    obtain ⟨hx0, hx1⟩ := hxb; have c1 : wr.cell? ⟨g, 1, none⟩ = some (.int .i64 x) := (blk_cell HI.out.1 1).trans rfl; have q1 := blk_frozen HI.out.1 1; cases gk with
    | zero => omega
    | succ k1 =>
    by_cases hlt : x < (s.size : Int)
    · have hjs : j < s.size := by have := HXJ.out; omega
      have hc := Lib.hid (fun W => an38 (bt s x) W); have hin := Lib.hid (show isAn (bt s x) = true → upto isAn s j = upto isAn s (j + 1) by rw [HXJ.out]; exact upto_in isAn s j hjs)
      have hout := Lib.hid (show isAn (bt s x) = false → upto isAn s j = j by rw [HXJ.out]; exact fun hq => upto_out isAn s j (fun _ => hq))
      have g1 : decide (x < (s.size : Int)) = true := decide_eq_true hlt; have p4 : ((0 : Int) ≤ x) = True := eq_true hx0; have q4 : (x < (s.size : Int)) = True := eq_true hlt; have hx4 := bt_at s x; clear hlt hx0; cases hp : isAn (bt s x) with
      | true =>
        rw [hp] at hc; have HUP := Lib.hid ((hin.out hp).symm.trans HE.out); clear hin hout hp
        go_wp2
        go_quiet (first | (go_at_call 123; refine (hc.out _).mono ?_; rintro e w' ⟨rfl, ⟨nd, rfl⟩⟩; (try first | exact ⟨rfl, _, World.drewN_drewN _ _ _⟩ | exact ⟨rfl, _, Eq.trans (World.drewN_drewN _ _ _) (congrArg (World.drewN _) (Nat.add_assoc _ _ _))⟩)))
        go_wp2
        go_roundg k1
        case measure => omega
        case rel => exact ⟨j + 1, by omega, by omega, ⟨HUP.out⟩, ⟨by have := HJ.out; omega⟩, ⟨z_196⟩, ⟨below_set (pw_below_drewN HB.out _) HI.out.2⟩, ⟨KeepBut.set_ (keep_drewN HK.out _) _ _⟩⟩
      | false =>
        rw [hp] at hc; have HUP := Lib.hid ((hout.out hp).symm.trans HE.out); clear hin hout hp
        go_wp2
        go_quiet (first | (go_at_call 123; refine (hc.out _).mono ?_; rintro e w' ⟨rfl, ⟨nd, rfl⟩⟩; (try first | exact ⟨rfl, _, World.drewN_drewN _ _ _⟩ | exact ⟨rfl, _, Eq.trans (World.drewN_drewN _ _ _) (congrArg (World.drewN _) (Nat.add_assoc _ _ _))⟩)))
        go_wp2
        have z1 : ((i : Int) ≤ x) = True := eq_true (z_197); have z2 : (x ≤ (s.size : Int)) = True := eq_true hx1
        go_quiet (fail)
        go_wp2
        go_ret
        have hfin : upto isAn s i = j := HUP.out.symm; refine while_end38 hfin HXJ.out (z_198) (z_199) (z_200) ?_; have ej : x.toNat = j := by { have := HXJ.out; omega }
        rw [← ej]
        rfl
    · have hjs : ¬ j < s.size := by have := HXJ.out; omega
      have hout := Lib.hid (upto_out isAn s j (fun hq => absurd hq hjs)); have g1 : decide (x < (s.size : Int)) = false := decide_eq_false hlt; have HUP := Lib.hid (hout.out.symm.trans HE.out); clear hout
      go_wp2
      go_quiet (fail)
      go_wp2
      have z1 : ((i : Int) ≤ x) = True := eq_true (z_197); have z2 : (x ≤ (s.size : Int)) = True := eq_true hx1
      go_quiet (fail)
      go_wp2
      go_ret
      have hfin : upto isAn s i = j := HUP.out.symm; refine while_end38 hfin HXJ.out (z_198) (z_199) (z_200) ?_; have ej : x.toNat = j := by { have := HXJ.out; omega }
      rw [← ej]
      rfl
end Go.Proofs.Ytobkdmmnbnpemaa.Lx
namespace Go.Proofs.Ytobkdmmnbnpemaa.Lx
open Go.RowKit Go.Proofs.YtobkdmmnbnpemaaW.PrintWords Go.Proofs.YtobkdmmnbnpemaaW.PrintLast Go.Proofs.YtobkdmmnbnpemaaW.PrintMore
set_option linter.unusedVariables false
theorem toList_loop (s : ByteArray) : ∀ r i (acc : List UInt8), i + r = s.size → ByteArray.toList.loop s i acc = acc.reverse ++ s.data.toList.drop i
  | 0, i, acc, h => by
    unfold ByteArray.toList.loop; rw [if_neg (by omega)]; have : s.data.toList.length ≤ i := by rw [data_length]; omega
    rw [List.drop_eq_nil_of_le this, List.append_nil]
  | r + 1, i, acc, h => by
    unfold ByteArray.toList.loop; rw [if_pos (by omega), toList_loop s r (i + 1) _ (by omega)]; have hl : i < s.data.toList.length := by rw [data_length]; omega
    have hs : i < s.data.size := by rw [Array.length_toList] at hl; exact hl
    rw [List.drop_eq_getElem_cons hl, List.reverse_cons, List.append_assoc]; have e : s.get! i = s.data.toList[i] := by
      show s.data[i]! = _; rw [getElem!_pos s.data i hs]; simp
    rw [e, List.singleton_append]
theorem toList_eq (s : ByteArray) : s.toList = s.data.toList := by
  unfold ByteArray.toList; rw [toList_loop s s.size 0 [] (by omega)]
  rfl
theorem len_toList (s : ByteArray) : s.toList.length = s.size := by rw [toList_eq, data_length]
theorem sum_more (t : ByteArray) {r : Int × Bool} {k : Nat} (h : num_sum.l0 k t 0 (t.size : Int) 0 = some r) (K : Nat) (hK : k ≤ K) : num_sum.l0 K t 0 (t.size : Int) 0 = some r := by
  obtain ⟨j, rfl⟩ := Nat.le.dest hK; exact more_rounds (g := fun k => num_sum.l0 k t 0 (t.size : Int) 0) (fun k => num_sum.mono_l k _ _ _ _) k j r h
def dv (t : ByteArray) : Nat → Int
  | 0 => 0
  | i + 1 => dv t i * 10 + (bt t (i : Int) - 48)
def digs (t : ByteArray) : Prop := ∀ i : Nat, i < t.size → isDig (bt t (i : Int)) = true
theorem digs_at {t : ByteArray} (h : digs t) (i : Nat) (hi : i < t.size) : 48 ≤ bt t (i : Int) ∧ bt t (i : Int) ≤ 57 := by
  have := h i hi; unfold isDig at this
  simpa using this
theorem dv_nonneg {t : ByteArray} (h : digs t) : ∀ i, i ≤ t.size → 0 ≤ dv t i
  | 0, _ => Int.le_refl 0
  | i + 1, hi => by
    have := dv_nonneg h i (by omega); have := digs_at h i (by omega); unfold dv
    omega
theorem dv_mono {t : ByteArray} (h : digs t) (i : Nat) : ∀ r, i + r ≤ t.size → dv t i ≤ dv t (i + r)
  | 0, _ => Int.le_refl _
  | r + 1, hi => by
    have h1 := dv_mono h i r (by omega); have h2 := digs_at h (i + r) (by omega); have h3 := dv_nonneg h (i + r) (by omega); have e : dv t (i + (r + 1)) = dv t (i + r) * 10 + (bt t ((i + r : Nat) : Int) - 48) := rfl; rw [e]
    omega
def parseP (t : ByteArray) : Int × Int :=
  if bt t 0 = 48 ∧ 1 < t.size then (0, 10) else if dv t t.size > 9223372036854775807 then (0, 11) else (dv t t.size, 0)
theorem sum_ok (t : ByteArray) (h : digs t) (hs : t.size ≤ 140737488351232) : ∀ r i : Nat, i + r = t.size → dv t i ≤ 18446744073709551615 →
    num_sum.l0 (r + 1) t (dv t i) (t.size : Int) (i : Int) = some (if dv t t.size ≤ 18446744073709551615 then (dv t t.size, true) else (0, false)) := by
  intro r
  induction r with
  | zero =>
    intro i hi hd; have e : i = t.size := by omega
    subst e; rw [num_sum.l0, if_neg (by omega), if_pos hd]
  | succ r ih =>
    intro i hi hd; have hb := digs_at h i (by omega); have h0 := dv_nonneg h i (by omega); have hm := dv_mono h (i + 1) r (by omega); have e : dv t (i + 1) = dv t i * 10 + (bt t (i : Int) - 48) := rfl; have ei : i + 1 + r = t.size := by omega
    rw [ei] at hm; have em : (bt t (i : Int) - 48) % 256 = bt t (i : Int) - 48 := by omega
    rw [num_sum.l0, if_pos (by omega), if_pos (by omega), if_pos (by omega), em]; by_cases c : dv t i > (18446744073709551615 - (bt t (i : Int) - 48)) / 10
    · rw [if_pos c, if_neg (by omega)]
    · rw [if_neg c]
      have hih := ih (i + 1) (by omega) (by omega); have w1 : IntKind.u64.wrap (dv t i * 10) = dv t i * 10 := IntWalk.u64_in _ (by omega); have w2 : IntKind.u64.wrap (dv t i * 10 + (bt t (i : Int) - 48)) = dv t i * 10 + (bt t (i : Int) - 48) := IntWalk.u64_in _ (by omega); have w3 : wrap64 ((i : Int) + 1) = ((i + 1 : Nat) : Int) := by unfold wrap64; omega
      rw [w1, w2, w3, ← e]; exact hih
theorem parse_l0 (t : ByteArray) (h : digs t) (hs : t.size ≤ 140737488351232) (K : Nat) (hK : t.size + 1 < K) : ∀ r i : Nat, i + r = t.size →
    num_Parse.l0 (r + 1 + K) t false (t.size : Int) (i : Int) = (num_sum.f (K) t).bind fun b => if b.2 = true then num_Parse.j4 K false b.1 (decide (b.1 > 9223372036854775807)) else num_Parse.j4 K false b.1 (!b.2) := by
  intro r
  induction r with
  | zero =>
    intro i hi; have e : 0 + 1 + K = K + 1 := by omega
    rw [e, num_Parse.l0, if_neg (by omega)]; simp only [Bool.false_eq_true, if_false]
  | succ r ih =>
    intro i hi; have hb := digs_at h i (by omega); have e : r + 1 + 1 + K = (r + 1 + K) + 1 := by omega
    have w3 : wrap64 ((i : Int) + 1) = ((i + 1 : Nat) : Int) := by unfold wrap64; omega
    rw [e, num_Parse.l0, if_pos (by omega), if_pos (by omega), if_pos (by omega), if_neg (by omega), if_neg (by omega), w3]; exact ih (i + 1) (by omega)
theorem parse_ok (t : ByteArray) (h1 : 1 ≤ t.size) (hs : t.size ≤ 140737488351232) (h : digs t) : ∃ k, num_Parse.f k t = some (parseP t) := by
  have hne : ¬ t.toList = ([] : List UInt8) := by
    intro e; have h9 : t.toList.length = 0 := by rw [e]; rfl
    rw [len_toList] at h9
    omega
  have hb := digs_at h 0 (by omega); have hsum : ∀ K, t.size + 1 < K → num_sum.f K t = some (if dv t t.size ≤ 18446744073709551615 then (dv t t.size, true) else (0, false)) := by
    intro K hK; have := sum_ok t h hs t.size 0 (by omega) (by simp [dv]); have hk : num_sum.l0 (t.size + 1) t 0 (t.size : Int) 0 = some (if dv t t.size ≤ 18446744073709551615 then (dv t t.size, true) else (0, false)) := this; unfold num_sum.f; exact sum_more t hk K (by omega)
  refine ⟨t.size + 1 + (t.size + 10) + 1 + 1 + 1, ?_⟩
  unfold num_Parse.f; have h45 : (bt t 0 == 45) = false := by rw [beq_eq_false_iff_ne]; intro e; have h0 : bt t ((0 : Nat) : Int) = 45 := e; omega
  rw [if_neg hne, if_pos (by omega), h45, num_Parse.j0, if_neg (by simp), num_Parse.j1, if_neg hne, if_pos (by omega)]; have hl0 := parse_l0 t h hs (t.size + 10) (by omega) t.size 0 (by omega); rw [hsum _ (by omega)] at hl0; have hrest : num_Parse.l0 (t.size + 1 + (t.size + 10)) t false (t.size : Int) 0 = some (if dv t t.size > 9223372036854775807 then (0, 11) else (dv t t.size, 0)) := by
    refine (show _ = _ from hl0).trans ?_
    simp only [Option.bind_some]; have hn := dv_nonneg h t.size (Nat.le_refl _); have e10 : t.size + 10 = (t.size + 9) + 1 := by omega
    by_cases c : dv t t.size ≤ 18446744073709551615
    · rw [if_pos c]
      simp only [if_true]; rw [e10, num_Parse.j4]; by_cases c2 : dv t t.size > 9223372036854775807
      · rw [if_pos c2, decide_eq_true c2, if_pos rfl]
      · rw [if_neg c2, decide_eq_false c2, if_neg (by simp), if_neg (by simp)]
        have : wrap64 (dv t t.size) = dv t t.size := by unfold wrap64; omega
        rw [this]
    · rw [if_neg c]
      simp only [Bool.false_eq_true, if_false, Bool.not_false]; rw [e10, num_Parse.j4, if_pos rfl, if_pos (by omega)]
  unfold parseP; by_cases c : bt t 0 = 48
  · rw [if_pos c]
    by_cases c2 : (t.size : Int) > 1
    · rw [if_pos c2, if_pos ⟨c, by omega⟩, num_Parse.j2, if_pos rfl]
    · rw [if_neg c2, if_neg (fun q => by have := q.2; omega), num_Parse.j2, if_neg (by simp)]
      exact hrest
  · rw [if_neg c, if_neg (fun q => c q.1), num_Parse.j2, if_neg (by simp)]
    exact hrest
end Go.Proofs.Ytobkdmmnbnpemaa.Lx
namespace Go.Proofs.Ytobkdmmnbnpemaa.Lx
open Go.RowKit Go.Proofs.YtobkdmmnbnpemaaW.PrintWords Go.Proofs.YtobkdmmnbnpemaaW.PrintLast Go.Proofs.YtobkdmmnbnpemaaW.PrintMore
attribute [local go_sem] max2_int min2_int max_two min_two max_three min_three max_four min_four
set_option linter.unusedVariables false
set_option linter.unusedSimpArgs false
theorem upto_all (p : Int → Bool) (s : ByteArray) : ∀ r i, i + r = s.size → ∀ j, i ≤ j → j < endOf p s r i → p (bt s (j : Int)) = true
  | 0, i, h, j, h1, h2 => by simp only [endOf] at h2; omega
  | r + 1, i, h, j, h1, h2 => by
    unfold endOf at h2; rw [if_pos (by omega)] at h2; by_cases c : p (bt s (i : Int)) = true
    · rw [if_pos c] at h2
      by_cases e : j = i
      · rw [e]; exact c
      · exact upto_all p s r (i + 1) (by omega) j (by omega) h2
    · rw [if_neg c] at h2; omega
theorem bt_extract (s : ByteArray) (i e j : Nat) (h1 : i + j < e) (h2 : e ≤ s.size) : bt (s.extract i e) (j : Int) = bt s ((i + j : Nat) : Int) := by
  have hs : (s.extract i e).size = e - i := by rw [ByteArray.size_extract]; omega
  have hj : j < (s.extract i e).size := by omega
  have hj2 : i + j < s.size := by omega
  unfold bt; simp only [Int.toNat_natCast]; rw [dif_pos hj, dif_pos hj2]
  congr 2
  exact ByteArray.getElem_extract hj
theorem digs_upto (s : ByteArray) (i : Nat) (hi : i ≤ s.size) : digs (s.extract i (upto isDig s i)) := by
  intro j hj; have hb := upto_le isDig s i hi; rw [ByteArray.size_extract] at hj; rw [bt_extract s i _ j (by omega) hb.2]; exact upto_all isDig s (s.size - i) i (by omega) (i + j) (by omega) (by unfold upto at hj hb; omega)
def numF (s : ByteArray) (i : Nat) (n0 a0 : Int) : Int × ByteArray × Int × Int × Int × ByteArray × Int :=
  if (parseP (s.extract i (upto isDig s i))).2 ≠ 0 then (1, s.extract i (upto isDig s i), n0, a0, 33, s, ((upto isDig s i : Nat) : Int))
  else if upto isDig s i < s.size ∧ isLet (bt s ((upto isDig s i : Nat) : Int)) = true then (1, s.extract i (upto isDig s i), (parseP (s.extract i (upto isDig s i))).1, ((upto isDig s i : Nat) : Int), 31, s, ((upto isDig s i : Nat) : Int))
  else (1, s.extract i (upto isDig s i), (parseP (s.extract i (upto isDig s i))).1, a0, 0, s, ((upto isDig s i : Nat) : Int))
def lex_cutter_number.f (s : ByteArray) (i : Int) (k0 : Int) (t0 : ByteArray) (n0 a0 : Int) : Option (Int × ByteArray × Int × Int × Int × ByteArray × Int) :=
  if 0 ≤ i ∧ i < (s.size : Int) ∧ s.size ≤ 140737488351232 ∧ isDig (bt s i) = true then some (numF s i.toNat n0 a0) else none
def wordF (s : ByteArray) (i : Nat) (n0 a0 : Int) : Int × ByteArray × Int × Int × Int × ByteArray × Int :=
  if lex_Words.f (s.extract i (upto isAn s i)) = some true then (3, s.extract i (upto isAn s i), n0, a0, 0, s, ((upto isAn s i : Nat) : Int))
  else if 12 < (s.extract i (upto isAn s i)).size then (2, s.extract i (upto isAn s i), n0, a0, 32, s, ((upto isAn s i : Nat) : Int))
  else (2, s.extract i (upto isAn s i), n0, a0, 0, s, ((upto isAn s i : Nat) : Int))
def lex_cutter_word.f (s : ByteArray) (i : Int) (k0 : Int) (t0 : ByteArray) (n0 a0 : Int) : Option (Int × ByteArray × Int × Int × Int × ByteArray × Int) :=
  if 0 ≤ i ∧ i ≤ (s.size : Int) ∧ s.size ≤ 140737488351232 then some (wordF s i.toNat n0 a0) else none
def TokPost (w0 w : World) (g : Nat) (r : Int × ByteArray × Int × Int × Int × ByteArray × Int) (e : Ending) (w' : World) : Prop :=
  e = .returned (.tuple #[.agg #[.int .i64 r.1, .string r.2.1, .int .i64 r.2.2.1, .int .i64 r.2.2.2.1], .int .i64 r.2.2.2.2.1]) ∧ IsS41 w0 w' g r.2.2.2.2.2.1 r.2.2.2.2.2.2 ∧ Below w0.heap.size w0 w' ∧ KeepBut w w' g none
set_option maxHeartbeats 4000000 in
set_option maxRecDepth 100000 in
theorem number_calls (s : ByteArray) (i g : Nat) (k0 : Int) (t0 : ByteArray) (n0 a0 : Int) (w0 w : World) (hi : i < s.size) (hs : s.size ≤ 140737488351232) (hd : isDig (bt s (i : Int)) = true) (hI : IsS41 w0 w g s i) (hB : Below w0.heap.size w0 w) :
    Calls Try.prog 97 #[.pointer (some ⟨g, 0, none⟩), .agg #[.int .i64 k0, .string t0, .int .i64 n0, .int .i64 a0]] w (TokPost w0 w g (numF s i n0 a0)) := by
  have hw := Lib.hid (fun W (h1 : IsS41 w0 W g s i) (h2 : Below w0.heap.size w0 W) => while_26 s i g w0 W (by omega) hs h1 h2); have hul := upto_le isDig s i (by omega); have hu1 : i + 1 ≤ upto isDig s i := by
    have h1 := upto_in isDig s i hi hd; have h2 := upto_le isDig s (i + 1) (by omega)
    omega
  have hsz : (s.extract i (upto isDig s i)).size = upto isDig s i - i := by rw [ByteArray.size_extract]; omega
  obtain ⟨kp, hkp⟩ := parse_ok (s.extract i (upto isDig s i)) (by omega) (by omega) (digs_upto s i (by omega)); have hpc := Lib.hid (fun W => num_Parse.calls kp (s.extract i (upto isDig s i)) (parseP (s.extract i (upto isDig s i))).1 (parseP (s.extract i (upto isDig s i))).2 W hkp); have hnf := Lib.hid (numF.eq_1 s i n0 a0); generalize hE : upto isDig s i = E at *; have hwr := Lib.hid (show ∀ e w', WPost26 isDig s i g w0 w e w' → e = .returned (.string (s.extract i E)) ∧ IsS41 w0 w' g s E ∧ Below w0.heap.size w0 w' ∧ KeepBut w w' g none from fun e w' h => by unfold WPost26 at h; rw [hE] at h; exact h)
  have hwp := Lib.hid (show ∀ (W : World) e w', WPost26 isDig s i g w0 W e w' → e = .returned (.string (s.extract i E)) ∧ IsS41 w0 w' g s E ∧ Below w0.heap.size w0 w' ∧ KeepBut W w' g none from fun W e w' h => by unfold WPost26 at h; rw [hE] at h; exact h)
  clear hE hwr hkp hd hsz; generalize parseP (s.extract i E) = pp at *; generalize s.extract i E = tx at *; have HI := A_0 hI; have HB := A_0 hB; have HK := A_0 (KeepBut.refl w g none); clear hI hB
  go_enter Try.func97, Try.ntmps97
  go_wp2_with (first | ((with_reducible refine gate_dst (N := 3) rfl ?_); refine box_event ?hg (N := 3) ?hd (cs := #[.int .i64 k0, .string t0, .int .i64 n0, .int .i64 a0]) (t := 58) ?hr ?_; (case hd => rfl); (case hg => rfl); (case hr => first | (go_simp; done) | (go_simp; rfl)); intro bx hg w3 hbox hb; have m1_ := A_0 (below_step HB.out hb); have m2_ := A_0 hbox; have m3_ := A_0 (IsS41.below HI.out hb); have m4_ := A_0 (KeepBut.trans HK.out (KeepBut.of_below hb g none) (.inl rfl)); have ge0 : w0.heap.size ≤ bx := (by rw [hg]; exact below_size HB.out); have ge1 : w.heap.size ≤ bx := Nat.le_of_eq hg.symm; clear HB HI HK hb hbox hg; have HB := m1_; have HX := m2_; have HI := m3_; have HK := m4_; clear m1_ m2_ m3_ m4_))
  refine (hw.out _ (IsS41.alloc HI.out _) (below_alloc HB.out _)).mono ?_
  intro e w5 hp; obtain ⟨he, hi5, hb5, hk5⟩ := hwp.out _ _ _ hp; subst he; have nxg : bx ≠ g := fun e => (IsS41.ne_blk HI.out HX.out (by decide)) (by first | exact e.symm | exact e)
  have nrg : w3.heap.size ≠ g := fun e => by have := IsS41.lt HI.out; omega
  have m1_ := A_0 (hk5.blk (blk_alloc HX.out _) nxg (by simp)); have m2_ := A_0 (hk5.blk (blk_new w3 (.cells #[.int .i64 0, .string ⟨#[]⟩, .int .i64 0, .int .i64 0] 58 (0, 0))) nrg (by simp)); have m3_ := A_0 (KeepBut.trans (keep_alloc HK.out _) hk5 (.inl rfl)); have nxr : bx ≠ w3.heap.size := fun e => by have := blk_lt HX.out; omega
  have gr0 : w0.heap.size ≤ w3.heap.size := below_size HB.out; have gr1 : w.heap.size ≤ w3.heap.size := HK.out.1; generalize w3.heap.size = br at *; clear HX HI HB HK hw hwp hp hk5; have HX := m1_; have HR := m2_; have HK := m3_; have HI := A_0 hi5; have HB := A_0 hb5; clear m1_ m2_ m3_ hi5 hb5; have x0 : w5.cell? ⟨bx, 0, none⟩ = some (.int .i64 k0) := (blk_cell HX.out 0).trans rfl; have x1 : w5.cell? ⟨bx, 1, none⟩ = some (.string t0) := (blk_cell HX.out 1).trans rfl; have z0 := blk_frozen HX.out 0; have z1 := blk_frozen HX.out 1
  go_wp2_with fail
  generalize hW : ((w5.setCell ⟨bx, 0, none⟩ (.int .i64 1)).setCell ⟨bx, 1, none⟩ (.string tx)) = W2; have m1_ := A_0 (show W2.heap[bx]? = some (.cells #[.int .i64 1, .string tx, .int .i64 n0, .int .i64 a0] 58 (0, 0)) by rw [← hW]; exact blk_put (blk_put HX.out 0 _ rfl) 1 _ rfl)
  have m2_ := A_0 (show W2.heap[br]? = some (.cells #[.int .i64 0, .string ⟨#[]⟩, .int .i64 0, .int .i64 0] 58 (0, 0)) by rw [← hW]; exact blk_far (blk_far HR.out (fun e => nxr e.symm) _) (fun e => nxr e.symm) _)
  have m3_ := A_0 (show IsS41 w0 W2 g s E by rw [← hW]; exact IsS41.far (IsS41.far HI.out (fun e => nxg e.symm) _) (fun e => nxg e.symm) _)
  have m4_ := A_0 (show Below w0.heap.size w0 W2 by rw [← hW]; exact below_set (below_set HB.out ge0) ge0)
  have m5_ := A_0 (show KeepBut w W2 g none by rw [← hW]; exact keep_far (keep_far HK.out ge1 _) ge1 _)
  clear hW HX HR HI HB HK x0 x1 z0 z1; have HX := m1_; have HR := m2_; have HI := m3_; have HB := m4_; have HK := m5_; clear m1_ m2_ m3_ m4_ m5_; refine (hpc.out _).mono ?_; rintro e w6 ⟨rfl, ⟨nd, rfl⟩⟩; clear hpc; obtain ⟨pv, pe⟩ := pp; have hx : (W2.drewN nd).heap[bx]? = some (.cells #[.int .i64 1, .string tx, .int .i64 n0, .int .i64 a0] 58 (0, 0)) := HX.out; have hr : (W2.drewN nd).heap[br]? = some (.cells #[.int .i64 0, .string ⟨#[]⟩, .int .i64 0, .int .i64 0] 58 (0, 0)) := HR.out; generalize hW : W2.drewN nd = W3 at *; have m3_ := A_0 (show IsS41 w0 W3 g s E by rw [← hW]; exact HI.out)
  have m4_ := A_0 (show Below w0.heap.size w0 W3 by rw [← hW]; exact pw_below_drewN HB.out _)
  have m5_ := A_0 (show KeepBut w W3 g none by rw [← hW]; exact keep_drewN HK.out _)
  clear HX HR HI HB HK hW; have HX := A_0 hx; have HR := A_0 hr; have HI := m3_; have HB := m4_; have HK := m5_; clear hx hr m3_ m4_ m5_; have x0 : W3.cell? ⟨bx, 0, none⟩ = some (.int .i64 1) := (blk_cell HX.out 0).trans rfl; have x1 : W3.cell? ⟨bx, 1, none⟩ = some (.string tx) := (blk_cell HX.out 1).trans rfl; have x2 : W3.cell? ⟨bx, 2, none⟩ = some (.int .i64 n0) := (blk_cell HX.out 2).trans rfl; have x3 : W3.cell? ⟨bx, 3, none⟩ = some (.int .i64 a0) := (blk_cell HX.out 3).trans rfl; have z2 := blk_frozen HX.out 2; have z3 := blk_frozen HX.out 3; have r0 : W3.cell? ⟨br, 0, none⟩ = some (.int .i64 0) := (blk_cell HR.out 0).trans rfl; have r1 : W3.cell? ⟨br, 1, none⟩ = some (.string ⟨#[]⟩) := (blk_cell HR.out 1).trans rfl; have r2 : W3.cell? ⟨br, 2, none⟩ = some (.int .i64 0) := (blk_cell HR.out 2).trans rfl; have r3 : W3.cell? ⟨br, 3, none⟩ = some (.int .i64 0) := (blk_cell HR.out 3).trans rfl; have q0 := blk_frozen HR.out 0; have q1 := blk_frozen HR.out 1; have q2 := blk_frozen HR.out 2; have q3 := blk_frozen HR.out 3; have nrx : br ≠ bx := fun e => nxr e.symm; have ngr : g ≠ br := fun e => nrg e.symm; have ngx : g ≠ bx := fun e => nxg e.symm; cases hpe : (pe != 0) with
  | true =>
    have hnf2 := hnf.out; simp only at hnf2; rw [if_pos (by simpa using hpe)] at hnf2; have HN := Lib.hid hnf2; clear hnf hnf2
    go_wp2
    refine bodyPost_ret (v := .tuple #[.agg #[.int .i64 1, .string tx, .int .i64 n0, .int .i64 a0], .int .i64 33]) (z_201) rfl ?_
    rw [HN.out]; exact z_202
  | false =>
    have hnf2 := hnf.out; simp only at hnf2; rw [if_neg (by simpa using hpe)] at hnf2; have HN := Lib.hid hnf2; clear hnf hnf2; obtain ⟨X, hX⟩ : ∃ X : Int, X = (E : Int) := ⟨_, rfl⟩; have HXE := Lib.hid hX; have HI2 := A_0 (show IsS41 w0 W3 g s X by rw [hX]; exact HI.out)
    clear HI hX; have HI := HI2; clear HI2
    go_wp2
    generalize hW : W3.setCell ⟨bx, 2, none⟩ (.int .i64 pv) = W4; have m1_ := A_0 (show W4.heap[bx]? = some (.cells #[.int .i64 1, .string tx, .int .i64 pv, .int .i64 a0] 58 (0, 0)) by rw [← hW]; exact blk_put HX.out 2 _ rfl)
    have m2_ := A_0 (show W4.heap[br]? = some (.cells #[.int .i64 0, .string ⟨#[]⟩, .int .i64 0, .int .i64 0] 58 (0, 0)) by rw [← hW]; exact blk_far HR.out nrx _)
    have m3_ := A_0 (show IsS41 w0 W4 g s X by rw [← hW]; exact IsS41.far HI.out ngx _)
    have m4_ := A_0 (show Below w0.heap.size w0 W4 by rw [← hW]; exact below_set HB.out ge0)
    have m5_ := A_0 (show KeepBut w W4 g none by rw [← hW]; exact keep_far HK.out ge1 _)
    clear hW HX HR HI HB HK x0 x1 x2 x3 z2 z3 r0 r1 r2 r3 q0 q1 q2 q3; have HX := m1_; have HR := m2_; have HI := m3_; have HB := m4_; have HK := m5_; clear m1_ m2_ m3_ m4_ m5_; have x0 : W4.cell? ⟨bx, 0, none⟩ = some (.int .i64 1) := (blk_cell HX.out 0).trans rfl; have x1 : W4.cell? ⟨bx, 1, none⟩ = some (.string tx) := (blk_cell HX.out 1).trans rfl; have x2 : W4.cell? ⟨bx, 2, none⟩ = some (.int .i64 pv) := (blk_cell HX.out 2).trans rfl; have x3 : W4.cell? ⟨bx, 3, none⟩ = some (.int .i64 a0) := (blk_cell HX.out 3).trans rfl; have z3 := blk_frozen HX.out 3; have r0 : W4.cell? ⟨br, 0, none⟩ = some (.int .i64 0) := (blk_cell HR.out 0).trans rfl; have r1 : W4.cell? ⟨br, 1, none⟩ = some (.string ⟨#[]⟩) := (blk_cell HR.out 1).trans rfl; have r2 : W4.cell? ⟨br, 2, none⟩ = some (.int .i64 0) := (blk_cell HR.out 2).trans rfl; have r3 : W4.cell? ⟨br, 3, none⟩ = some (.int .i64 0) := (blk_cell HR.out 3).trans rfl; have q0 := blk_frozen HR.out 0; have q1 := blk_frozen HR.out 1; have q2 := blk_frozen HR.out 2; have q3 := blk_frozen HR.out 3; have c0 : W4.cell? ⟨g, 0, none⟩ = some (.string s) := (blk_cell HI.out.1 0).trans rfl; have c1 : W4.cell? ⟨g, 1, none⟩ = some (.int .i64 X) := (blk_cell HI.out.1 1).trans rfl; by_cases hlt : X < (s.size : Int)
    · have hEs : E < s.size := by have := HXE.out; omega
      have hx0 : 0 ≤ X := by have := HXE.out; omega
      have hlet := Lib.hid (show isLet (bt s X) = isLet (bt s (E : Int)) by rw [HXE.out])
      have hc := Lib.hid (fun W => lex_letter.calls (bt s X) (isLet (bt s X)) W (letter_f _)); have g1 : decide (X < (s.size : Int)) = true := decide_eq_true hlt; have p4 : ((0 : Int) ≤ X) = True := eq_true hx0; have q4 : (X < (s.size : Int)) = True := eq_true hlt; have hx4 := bt_at s X; clear hlt hx0; cases hp : isLet (bt s X) with
      | true =>
        rw [hp] at hc hlet; have HN2 := Lib.hid (HN.out.trans (if_pos ⟨hEs, hlet.out.symm⟩)); clear hlet HN hp hEs; have HN := HN2; clear HN2
        go_quiet (first | (go_at_call 98; refine (hc.out _).mono ?_; rintro e w' ⟨rfl, ⟨nd, rfl⟩⟩; (try first | exact ⟨rfl, _, World.drewN_drewN _ _ _⟩ | exact ⟨rfl, _, Eq.trans (World.drewN_drewN _ _ _) (congrArg (World.drewN _) (Nat.add_assoc _ _ _))⟩)))
        go_wp2
        refine bodyPost_ret (v := .tuple #[.agg #[.int .i64 1, .string tx, .int .i64 pv, .int .i64 X], .int .i64 31]) (z_201) rfl ?_
        rw [HN.out]; exact ⟨by rw [HXE.out], IsS41.far (IsS41.far (IsS41.far (IsS41.far (IsS41.far (IsS41.drewN (by rw [← HXE.out]; exact HI.out) _) ngx _) ngr _) ngr _) ngr _) ngr _, below_set (below_set (below_set (below_set (below_set (pw_below_drewN HB.out _) ge0) gr0) gr0) gr0) gr0, keep_far (keep_far (keep_far (keep_far (keep_far (keep_drewN HK.out _) ge1 _) gr1 _) gr1 _) gr1 _) gr1 _⟩
      | false =>
        rw [hp] at hc hlet; have HN2 := Lib.hid (HN.out.trans (if_neg (fun h => by rw [← hlet.out] at h; simp at h)))
        clear hlet HN hp hEs; have HN := HN2; clear HN2
        go_quiet (first | (go_at_call 98; refine (hc.out _).mono ?_; rintro e w' ⟨rfl, ⟨nd, rfl⟩⟩; (try first | exact ⟨rfl, _, World.drewN_drewN _ _ _⟩ | exact ⟨rfl, _, Eq.trans (World.drewN_drewN _ _ _) (congrArg (World.drewN _) (Nat.add_assoc _ _ _))⟩)))
        go_wp2
        refine bodyPost_ret (v := .tuple #[.agg #[.int .i64 1, .string tx, .int .i64 pv, .int .i64 a0], .int .i64 0]) (z_201) rfl ?_
        rw [HN.out]; exact z_203
    · have hEs : ¬ E < s.size := by have := HXE.out; omega
      have HN2 := Lib.hid (HN.out.trans (if_neg (fun h => hEs h.1))); clear HN hEs; have HN := HN2; clear HN2; have g1 : decide (X < (s.size : Int)) = false := decide_eq_false hlt
      go_quiet (fail)
      go_wp2
      refine bodyPost_ret (v := .tuple #[.agg #[.int .i64 1, .string tx, .int .i64 pv, .int .i64 a0], .int .i64 0]) (z_201) rfl ?_
      rw [HN.out]; exact z_203
theorem words_some (t : ByteArray) : ∃ b, lex_Words.f t = some b := by
  unfold lex_Words.f
  repeat (first | exact ⟨_, rfl⟩ | split)
set_option maxHeartbeats 4000000 in
set_option maxRecDepth 100000 in
theorem word_calls (s : ByteArray) (i g : Nat) (k0 : Int) (t0 : ByteArray) (n0 a0 : Int) (w0 w : World) (hi : i ≤ s.size) (hs : s.size ≤ 140737488351232) (hI : IsS41 w0 w g s i) (hB : Below w0.heap.size w0 w) :
    Calls Try.prog 99 #[.pointer (some ⟨g, 0, none⟩), .agg #[.int .i64 k0, .string t0, .int .i64 n0, .int .i64 a0]] w (TokPost w0 w g (wordF s i n0 a0)) := by
  have hw := Lib.hid (fun W (h1 : IsS41 w0 W g s i) (h2 : Below w0.heap.size w0 W) => while_38 s i g w0 W (by omega) hs h1 h2); have hul := upto_le isAn s i (by omega); obtain ⟨wb, hwb⟩ := words_some (s.extract i (upto isAn s i)); have hpc := Lib.hid (fun W => lex_Words.calls (s.extract i (upto isAn s i)) wb W hwb); have hnf := Lib.hid (wordF.eq_1 s i n0 a0); generalize hE : upto isAn s i = E at *; have hwr := Lib.hid (show ∀ e w', WPost38 isAn s i g w0 w e w' → e = .returned (.string (s.extract i E)) ∧ IsS41 w0 w' g s E ∧ Below w0.heap.size w0 w' ∧ KeepBut w w' g none from fun e w' h => by unfold WPost38 at h; rw [hE] at h; exact h)
  have hwp := Lib.hid (show ∀ (W : World) e w', WPost38 isAn s i g w0 W e w' → e = .returned (.string (s.extract i E)) ∧ IsS41 w0 w' g s E ∧ Below w0.heap.size w0 w' ∧ KeepBut W w' g none from fun W e w' h => by unfold WPost38 at h; rw [hE] at h; exact h)
  rw [hwb] at hnf; clear hE hwr hwb; generalize s.extract i E = tx at *; have HI := A_0 hI; have HB := A_0 hB; have HK := A_0 (KeepBut.refl w g none); clear hI hB
  go_enter Try.func99, Try.ntmps99
  go_wp2_with (first | ((with_reducible refine gate_dst (N := 3) rfl ?_); refine box_event ?hg (N := 3) ?hd (cs := #[.int .i64 k0, .string t0, .int .i64 n0, .int .i64 a0]) (t := 58) ?hr ?_; (case hd => rfl); (case hg => rfl); (case hr => first | (go_simp; done) | (go_simp; rfl)); intro bx hg w3 hbox hb; have m1_ := A_0 (below_step HB.out hb); have m2_ := A_0 hbox; have m3_ := A_0 (IsS41.below HI.out hb); have m4_ := A_0 (KeepBut.trans HK.out (KeepBut.of_below hb g none) (.inl rfl)); have ge0 : w0.heap.size ≤ bx := (by rw [hg]; exact below_size HB.out); have ge1 : w.heap.size ≤ bx := Nat.le_of_eq hg.symm; clear HB HI HK hb hbox hg; have HB := m1_; have HX := m2_; have HI := m3_; have HK := m4_; clear m1_ m2_ m3_ m4_))
  refine (hw.out _ (IsS41.alloc HI.out _) (below_alloc HB.out _)).mono ?_
  intro e w5 hp; obtain ⟨he, hi5, hb5, hk5⟩ := hwp.out _ _ _ hp; subst he; have nxg : bx ≠ g := fun e => (IsS41.ne_blk HI.out HX.out (by decide)) (by first | exact e.symm | exact e)
  have nrg : w3.heap.size ≠ g := fun e => by have := IsS41.lt HI.out; omega
  have m1_ := A_0 (hk5.blk (blk_alloc HX.out _) nxg (by simp)); have m2_ := A_0 (hk5.blk (blk_new w3 (.cells #[.int .i64 0, .string ⟨#[]⟩, .int .i64 0, .int .i64 0] 58 (0, 0))) nrg (by simp)); have m3_ := A_0 (KeepBut.trans (keep_alloc HK.out _) hk5 (.inl rfl)); have nxr : bx ≠ w3.heap.size := fun e => by have := blk_lt HX.out; omega
  have gr0 : w0.heap.size ≤ w3.heap.size := below_size HB.out; have gr1 : w.heap.size ≤ w3.heap.size := HK.out.1; generalize w3.heap.size = br at *; clear HX HI HB HK hw hwp hp hk5; have HX := m1_; have HR := m2_; have HK := m3_; have HI := A_0 hi5; have HB := A_0 hb5; clear m1_ m2_ m3_ hi5 hb5; have x0 : w5.cell? ⟨bx, 0, none⟩ = some (.int .i64 k0) := (blk_cell HX.out 0).trans rfl; have x1 : w5.cell? ⟨bx, 1, none⟩ = some (.string t0) := (blk_cell HX.out 1).trans rfl; have z0 := blk_frozen HX.out 0; have z1 := blk_frozen HX.out 1
  go_wp2_with fail
  generalize hW : ((w5.setCell ⟨bx, 0, none⟩ (.int .i64 2)).setCell ⟨bx, 1, none⟩ (.string tx)) = W2; have m1_ := A_0 (show W2.heap[bx]? = some (.cells #[.int .i64 2, .string tx, .int .i64 n0, .int .i64 a0] 58 (0, 0)) by rw [← hW]; exact blk_put (blk_put HX.out 0 _ rfl) 1 _ rfl)
  have m2_ := A_0 (show W2.heap[br]? = some (.cells #[.int .i64 0, .string ⟨#[]⟩, .int .i64 0, .int .i64 0] 58 (0, 0)) by rw [← hW]; exact blk_far (blk_far HR.out (fun e => nxr e.symm) _) (fun e => nxr e.symm) _)
  have m3_ := A_0 (show IsS41 w0 W2 g s E by rw [← hW]; exact IsS41.far (IsS41.far HI.out (fun e => nxg e.symm) _) (fun e => nxg e.symm) _)
  have m4_ := A_0 (show Below w0.heap.size w0 W2 by rw [← hW]; exact below_set (below_set HB.out ge0) ge0)
  have m5_ := A_0 (show KeepBut w W2 g none by rw [← hW]; exact keep_far (keep_far HK.out ge1 _) ge1 _)
  clear hW HX HR HI HB HK x0 x1 z0 z1; have HX := m1_; have HR := m2_; have HI := m3_; have HB := m4_; have HK := m5_; clear m1_ m2_ m3_ m4_ m5_; refine (hpc.out _).mono ?_; rintro e w6 ⟨rfl, ⟨nd, rfl⟩⟩; clear hpc; have hx : (W2.drewN nd).heap[bx]? = some (.cells #[.int .i64 2, .string tx, .int .i64 n0, .int .i64 a0] 58 (0, 0)) := HX.out; have hr : (W2.drewN nd).heap[br]? = some (.cells #[.int .i64 0, .string ⟨#[]⟩, .int .i64 0, .int .i64 0] 58 (0, 0)) := HR.out; generalize hW : W2.drewN nd = W3 at *; have m3_ := A_0 (show IsS41 w0 W3 g s E by rw [← hW]; exact HI.out)
  have m4_ := A_0 (show Below w0.heap.size w0 W3 by rw [← hW]; exact pw_below_drewN HB.out _)
  have m5_ := A_0 (show KeepBut w W3 g none by rw [← hW]; exact keep_drewN HK.out _)
  clear HX HR HI HB HK hW; have HX := A_0 hx; have HR := A_0 hr; have HI := m3_; have HB := m4_; have HK := m5_; clear hx hr m3_ m4_ m5_; have x0 : W3.cell? ⟨bx, 0, none⟩ = some (.int .i64 2) := (blk_cell HX.out 0).trans rfl; have x1 : W3.cell? ⟨bx, 1, none⟩ = some (.string tx) := (blk_cell HX.out 1).trans rfl; have x2 : W3.cell? ⟨bx, 2, none⟩ = some (.int .i64 n0) := (blk_cell HX.out 2).trans rfl; have x3 : W3.cell? ⟨bx, 3, none⟩ = some (.int .i64 a0) := (blk_cell HX.out 3).trans rfl; have z0 := blk_frozen HX.out 0; have r0 : W3.cell? ⟨br, 0, none⟩ = some (.int .i64 0) := (blk_cell HR.out 0).trans rfl; have r1 : W3.cell? ⟨br, 1, none⟩ = some (.string ⟨#[]⟩) := (blk_cell HR.out 1).trans rfl; have r2 : W3.cell? ⟨br, 2, none⟩ = some (.int .i64 0) := (blk_cell HR.out 2).trans rfl; have r3 : W3.cell? ⟨br, 3, none⟩ = some (.int .i64 0) := (blk_cell HR.out 3).trans rfl; have q0 := blk_frozen HR.out 0; have q1 := blk_frozen HR.out 1; have q2 := blk_frozen HR.out 2; have q3 := blk_frozen HR.out 3; have nrx : br ≠ bx := fun e => nxr e.symm; have ngr : g ≠ br := fun e => nrg e.symm; have ngx : g ≠ bx := fun e => nxg e.symm; cases wb with
  | true =>
    have HN := Lib.hid (hnf.out.trans (if_pos rfl)); clear hnf
    go_wp2
    refine bodyPost_ret (v := .tuple #[.agg #[.int .i64 3, .string tx, .int .i64 n0, .int .i64 a0], .int .i64 0]) (z_204) rfl ?_
    rw [HN.out]; exact ⟨rfl, IsS41.far (IsS41.far (IsS41.far (IsS41.far (IsS41.far HI.out ngx _) ngr _) ngr _) ngr _) ngr _, below_set (below_set (below_set (below_set (below_set HB.out ge0) gr0) gr0) gr0) gr0, keep_far (keep_far (keep_far (keep_far (keep_far HK.out ge1 _) gr1 _) gr1 _) gr1 _) gr1 _⟩
  | false =>
    have HN0 := Lib.hid (hnf.out.trans (if_neg (by simp))); clear hnf; by_cases hl : 12 < tx.size
    · have HN := Lib.hid (HN0.out.trans (if_pos hl))
      clear HN0; have hl2 : (12 : Int) < (tx.size : Int) := by omega
      clear hl
      go_wp2
      refine bodyPost_ret (v := .tuple #[.agg #[.int .i64 2, .string tx, .int .i64 n0, .int .i64 a0], .int .i64 32]) (z_204) rfl ?_
      rw [HN.out]; exact z_202
    · have HN := Lib.hid (HN0.out.trans (if_neg hl))
      clear HN0; have hl2 : ¬ (12 : Int) < (tx.size : Int) := by omega
      clear hl
      go_wp2
      refine bodyPost_ret (v := .tuple #[.agg #[.int .i64 2, .string tx, .int .i64 n0, .int .i64 a0], .int .i64 0]) (z_204) rfl ?_
      rw [HN.out]; exact z_202
theorem lex_cutter_number.calls (g : Nat) (s0_0 : ByteArray) (s0_1 : Int) (a1_0 : Int) (a1_1 : ByteArray) (a1_2 : Int) (a1_3 : Int) (r1 : Int) (r2 : ByteArray) (r3 : Int) (r4 : Int) (r5 : Int) (r6 : ByteArray) (r7 : Int) (w0 w : World) (hI : IsS41 w0 w g s0_0 s0_1) (hB : Below w0.heap.size w0 w) (h : lex_cutter_number.f s0_0 s0_1 a1_0 a1_1 a1_2 a1_3 = some (r1, r2, r3, r4, r5, r6, r7)) :
    Calls Try.prog 97 #[.pointer (some ⟨g, 0, none⟩), .agg #[.int .i64 a1_0, .string a1_1, .int .i64 a1_2, .int .i64 a1_3]] w fun e w' => e = .returned (.tuple #[.agg #[.int .i64 r1, .string r2, .int .i64 r3, .int .i64 r4], .int .i64 r5]) ∧ IsS41 w0 w' g r6 r7 ∧ Below w0.heap.size w0 w' ∧ KeepBut w w' g none := by
  unfold lex_cutter_number.f at h; by_cases c : 0 ≤ s0_1 ∧ s0_1 < (s0_0.size : Int) ∧ s0_0.size ≤ 140737488351232 ∧ isDig (bt s0_0 s0_1) = true
  · rw [if_pos c] at h
    obtain ⟨c1, c2, c3, c4⟩ := c; obtain ⟨i, rfl⟩ := Int.eq_ofNat_of_zero_le c1; have := number_calls s0_0 i g a1_0 a1_1 a1_2 a1_3 w0 w (by omega) c3 c4 hI hB; have e := Option.some.inj h; rw [Int.toNat_natCast] at e; rw [e] at this; exact this
  · rw [if_neg c] at h; simp at h
theorem lex_cutter_word.calls (g : Nat) (s0_0 : ByteArray) (s0_1 : Int) (a1_0 : Int) (a1_1 : ByteArray) (a1_2 : Int) (a1_3 : Int) (r1 : Int) (r2 : ByteArray) (r3 : Int) (r4 : Int) (r5 : Int) (r6 : ByteArray) (r7 : Int) (w0 w : World) (hI : IsS41 w0 w g s0_0 s0_1) (hB : Below w0.heap.size w0 w) (h : lex_cutter_word.f s0_0 s0_1 a1_0 a1_1 a1_2 a1_3 = some (r1, r2, r3, r4, r5, r6, r7)) :
    Calls Try.prog 99 #[.pointer (some ⟨g, 0, none⟩), .agg #[.int .i64 a1_0, .string a1_1, .int .i64 a1_2, .int .i64 a1_3]] w fun e w' => e = .returned (.tuple #[.agg #[.int .i64 r1, .string r2, .int .i64 r3, .int .i64 r4], .int .i64 r5]) ∧ IsS41 w0 w' g r6 r7 ∧ Below w0.heap.size w0 w' ∧ KeepBut w w' g none := by
  unfold lex_cutter_word.f at h; by_cases c : 0 ≤ s0_1 ∧ s0_1 ≤ (s0_0.size : Int) ∧ s0_0.size ≤ 140737488351232
  · rw [if_pos c] at h
    obtain ⟨c1, c2, c3⟩ := c; obtain ⟨i, rfl⟩ := Int.eq_ofNat_of_zero_le c1; have := word_calls s0_0 i g a1_0 a1_1 a1_2 a1_3 w0 w (by omega) c3 hI hB; have e := Option.some.inj h; rw [Int.toNat_natCast] at e; rw [e] at this; exact this
  · rw [if_neg c] at h; simp at h
end Go.Proofs.Ytobkdmmnbnpemaa.Lx
