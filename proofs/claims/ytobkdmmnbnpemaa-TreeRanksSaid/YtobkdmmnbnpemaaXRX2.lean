/- The cutter: bytes of a kind, numbers, words: walked by hand. -/
import Derived.Test.YtobkdmmnbnpemaaXRX1
import Derived.Lib.Hide
import Derived.StillTailTactics
import Derived.IntWalk
import Derived.BigQuiet
namespace Go.Proofs.Ytobkdmmnbnpemaa.Lx
open Go.RowKit Go.Proofs.YtobkdmmnbnpemaaW.PrintWords Go.Proofs.YtobkdmmnbnpemaaW.PrintLast Go.Proofs.YtobkdmmnbnpemaaW.PrintMore
attribute [local go_sem] max2_int min2_int max_two min_two max_three min_three max_four min_four
set_option linter.unusedVariables false
set_option linter.unusedSimpArgs false
def isDig (c : Int) : Bool := decide (48 ≤ c) && decide (c ≤ 57)
def isLet (c : Int) : Bool := (decide (97 ≤ c) && decide (c ≤ 122)) || (decide (65 ≤ c) && decide (c ≤ 90)) || c == 95
def isAn (c : Int) : Bool := isLet c || isDig c
theorem digit_f (c : Int) : lex_digit.f c = some (isDig c) := by
  unfold lex_digit.f isDig
  by_cases h : c ≥ 48
  · rw [if_pos h, decide_eq_true (show 48 ≤ c from h)]; rfl
  · rw [if_neg h, decide_eq_false (show ¬ 48 ≤ c from h)]; rfl
theorem letter_f (c : Int) : lex_letter.f c = some (isLet c) := by
  unfold lex_letter.f isLet
  by_cases h : c ≥ 97
  · rw [if_pos h, decide_eq_true (show 97 ≤ c from h)]
    by_cases h2 : c ≤ 122
    · rw [if_pos h2, decide_eq_true h2]; rfl
    · rw [if_neg h2, decide_eq_false h2]
      by_cases h3 : c ≥ 65
      · rw [if_pos h3, decide_eq_true (show 65 ≤ c from h3), if_neg (by omega), decide_eq_false (show ¬ c ≤ 90 by omega)]; rfl
      · omega
  · rw [if_neg h, decide_eq_false (show ¬ 97 ≤ c from h)]
    by_cases h3 : c ≥ 65
    · rw [if_pos h3, decide_eq_true (show 65 ≤ c from h3)]
      by_cases h4 : c ≤ 90
      · rw [if_pos h4, decide_eq_true h4]; rfl
      · rw [if_neg h4, decide_eq_false h4]; rfl
    · rw [if_neg h3, decide_eq_false (show ¬ 65 ≤ c from h3)]; rfl
theorem dig26 (c : Int) (w : World) : Calls Try.prog 96 #[.int .u8 c] w fun e w' => e = .returned (.bool (isDig c)) ∧ Drawn0 w w' := lex_digit.calls c (isDig c) w (digit_f c)
set_option maxHeartbeats 1000000 in
theorem an38 (c : Int) (w : World) : Calls Try.prog 123 #[.int .u8 c] w fun e w' => e = .returned (.bool (isAn c)) ∧ Drawn0 w w' := by
  cases hl : isLet c
  · have hr : isAn c = isDig c := by unfold isAn; rw [hl]; rfl
    have hc := Lib.hid (fun W => lex_letter.calls c false W (by rw [letter_f, hl]))
    have hd := Lib.hid (fun W => dig26 c W)
    rw [hr]
    generalize isDig c = r at *
    clear hr hl
    go_enter Try.func123, Try.ntmps123
    go_wp2_with fail
    refine (hc.out _).mono ?_
    rintro e w1 ⟨rfl, ⟨nd, rfl⟩⟩
    go_wp2_with fail
    refine (hd.out _).mono ?_
    rintro e w1 ⟨rfl, ⟨nd2, rfl⟩⟩
    go_wp2
    go_ret
    exact ⟨rfl, by repeat (first | exact Drawn0.refl _ | apply Drawn0.step)⟩
  · have hr : isAn c = true := by unfold isAn; rw [hl]; rfl
    have hc := Lib.hid (fun W => lex_letter.calls c true W (by rw [letter_f, hl]))
    rw [hr]
    clear hr hl
    go_enter Try.func123, Try.ntmps123
    go_wp2_with fail
    refine (hc.out _).mono ?_
    rintro e w1 ⟨rfl, ⟨nd, rfl⟩⟩
    go_wp2
    go_ret
    exact ⟨rfl, by repeat (first | exact Drawn0.refl _ | apply Drawn0.step)⟩
def endOf (p : Int → Bool) (s : ByteArray) : Nat → Nat → Nat
  | 0, i => i
  | k + 1, i => if i < s.size then (if p (bt s i) = true then endOf p s k (i + 1) else i) else i
theorem endOf_le (p : Int → Bool) (s : ByteArray) : ∀ k i, i ≤ s.size → i ≤ endOf p s k i ∧ endOf p s k i ≤ s.size
  | 0, i, h => ⟨Nat.le_refl _, h⟩
  | k + 1, i, h => by
    unfold endOf
    by_cases c : i < s.size
    · rw [if_pos c]
      split
      · have := endOf_le p s k (i + 1) (by omega)
        omega
      · exact ⟨Nat.le_refl _, h⟩
    · rw [if_neg c]; exact ⟨Nat.le_refl _, h⟩
def upto (p : Int → Bool) (s : ByteArray) (i : Nat) : Nat := endOf p s (s.size - i) i
theorem upto_le (p : Int → Bool) (s : ByteArray) (i : Nat) (h : i ≤ s.size) : i ≤ upto p s i ∧ upto p s i ≤ s.size := endOf_le p s _ i h
theorem upto_in (p : Int → Bool) (s : ByteArray) (i : Nat) (h : i < s.size) (hp : p (bt s i) = true) : upto p s i = upto p s (i + 1) := by
  unfold upto
  have e : s.size - i = (s.size - (i + 1)) + 1 := by omega
  rw [e, endOf, if_pos h, if_pos hp]
theorem upto_out (p : Int → Bool) (s : ByteArray) (i : Nat) (hp : i < s.size → p (bt s i) = false) : upto p s i = i := by
  unfold upto
  by_cases h : i < s.size
  · have e : s.size - i = (s.size - (i + 1)) + 1 := by omega
    rw [e, endOf, if_pos h, if_neg (by rw [hp h]; simp)]
  · have e : s.size - i = 0 := by omega
    rw [e, endOf]
def WRel26 (p : Int → Bool) (s : ByteArray) (i g : Nat) (w0 w : World) (kq : Nat) (w' : World) : Prop :=
  ∃ j : Nat, j ≤ s.size ∧ s.size - j < kq ∧ Aside0 (upto p s j = upto p s i) ∧ Aside0 (i ≤ j) ∧ Aside0 (IsS41 w0 w' g s j) ∧ Aside0 (Below w0.heap.size w0 w') ∧ Aside0 (KeepBut w w' g none)
def WPost26 (p : Int → Bool) (s : ByteArray) (i g : Nat) (w0 w : World) (e : Ending) (w' : World) : Prop :=
  e = .returned (.string (s.extract i (upto p s i))) ∧ IsS41 w0 w' g s (upto p s i) ∧ Below w0.heap.size w0 w' ∧ KeepBut w w' g none
theorem while_end26 {s : ByteArray} {i j g : Nat} {x : Int} {w0 w w' : World} {e : Ending} (hf : upto isDig s i = j) (hx : x = (j : Int)) (hI : IsS41 w0 w' g s x) (hB : Below w0.heap.size w0 w') (hK : KeepBut w w' g none) (he : e = .returned (.string (s.extract i j))) : WPost26 isDig s i g w0 w e w' := by
  subst hx
  unfold WPost26
  rw [hf]
  exact ⟨he, hI, hB, hK⟩
set_option maxHeartbeats 4000000 in
set_option maxRecDepth 100000 in
theorem while_26 (s : ByteArray) (i g : Nat) (w0 w : World) (hi : i ≤ s.size) (hs : s.size ≤ 140737488351232) (hI : IsS41 w0 w g s i) (hB : Below w0.heap.size w0 w) :
    Calls Try.prog 121 #[.pointer (some ⟨g, 0, none⟩), .func (Fn.func 96) #[] #[]] w (WPost26 isDig s i g w0 w) := by
  have c0 : w.cell? ⟨g, 0, none⟩ = some (.string s) := (blk_cell hI.1 0).trans rfl
  have c1 : w.cell? ⟨g, 1, none⟩ = some (.int .i64 i) := (blk_cell hI.1 1).trans rfl
  have HI := Aside0.mk hI
  have HB := Aside0.mk hB
  clear hI hB
  go_enter Try.func121, Try.ntmps121
  go_wp2
  go_loopg [13] (s.size - i + 1) (fun kq v13 w' => WRel26 isDig s i g w0 w kq w')
  case atStart => exact ⟨i, hi, by omega, ⟨rfl⟩, ⟨Nat.le_refl _⟩, HI, HB, ⟨KeepBut.refl w g none⟩⟩
  case round =>
    clear HI HB c0 c1
    unfold WRel26 at hrel
    obtain ⟨j, hj, hk, HE, HJ, HI, HB, HK⟩ := hrel
    have c0 : wr.cell? ⟨g, 0, none⟩ = some (.string s) := (blk_cell HI.out.1 0).trans rfl
    obtain ⟨x, hx⟩ : ∃ x : Int, x = (j : Int) := ⟨_, rfl⟩
    have HXJ := Lib.hid hx
    have HI2 := Aside0.mk (show IsS41 w0 wr g s x by rw [hx]; exact HI.out)
    clear HI hx
    have HI := HI2
    clear HI2
    have hxb : 0 ≤ x ∧ x ≤ (s.size : Int) := by rw [HXJ.out]; omega
    obtain ⟨hx0, hx1⟩ := hxb
    have c1 : wr.cell? ⟨g, 1, none⟩ = some (.int .i64 x) := (blk_cell HI.out.1 1).trans rfl
    have q1 := blk_frozen HI.out.1 1
    cases gk with
    | zero => omega
    | succ k1 =>
    by_cases hlt : x < (s.size : Int)
    · have hjs : j < s.size := by have := HXJ.out; omega
      have hc := Lib.hid (fun W => dig26 (bt s x) W)
      have hin := Lib.hid (show isDig (bt s x) = true → upto isDig s j = upto isDig s (j + 1) by rw [HXJ.out]; exact upto_in isDig s j hjs)
      have hout := Lib.hid (show isDig (bt s x) = false → upto isDig s j = j by rw [HXJ.out]; exact fun hq => upto_out isDig s j (fun _ => hq))
      have g1 : decide (x < (s.size : Int)) = true := decide_eq_true hlt
      have p4 : ((0 : Int) ≤ x) = True := eq_true hx0
      have q4 : (x < (s.size : Int)) = True := eq_true hlt
      have hx4 := bt_at s x
      clear hlt hx0
      cases hp : isDig (bt s x) with
      | true =>
        rw [hp] at hc
        have HUP := Lib.hid ((hin.out hp).symm.trans HE.out)
        clear hin hout hp
        go_wp2
        go_quiet (first | (go_at_call 96; refine (hc.out _).mono ?_; rintro e w' ⟨rfl, ⟨nd, rfl⟩⟩; (try first | exact ⟨rfl, _, World.drewN_drewN _ _ _⟩ | exact ⟨rfl, _, Eq.trans (World.drewN_drewN _ _ _) (congrArg (World.drewN _) (Nat.add_assoc _ _ _))⟩)))
        go_wp2
        go_roundg k1
        case measure => omega
        case rel => exact ⟨j + 1, by omega, by omega, ⟨HUP.out⟩, ⟨by have := HJ.out; omega⟩, ⟨by have e : x + 1 = ((j + 1 : Nat) : Int) := by { have := HXJ.out; omega }; rw [← e]; have ew : wrap64 (x + 1) = x + 1 := by { have := HXJ.out; unfold wrap64; omega }; rw [ew]; exact IsS41.set_1 (IsS41.drewN HI.out _) _⟩, ⟨below_set (pw_below_drewN HB.out _) HI.out.2⟩, ⟨KeepBut.set_ (keep_drewN HK.out _) _ _⟩⟩
      | false =>
        rw [hp] at hc
        have HUP := Lib.hid ((hout.out hp).symm.trans HE.out)
        clear hin hout hp
        go_wp2
        go_quiet (first | (go_at_call 96; refine (hc.out _).mono ?_; rintro e w' ⟨rfl, ⟨nd, rfl⟩⟩; (try first | exact ⟨rfl, _, World.drewN_drewN _ _ _⟩ | exact ⟨rfl, _, Eq.trans (World.drewN_drewN _ _ _) (congrArg (World.drewN _) (Nat.add_assoc _ _ _))⟩)))
        go_wp2
        have z1 : ((i : Int) ≤ x) = True := eq_true (by have := HJ.out; have := HXJ.out; omega)
        have z2 : (x ≤ (s.size : Int)) = True := eq_true hx1
        go_quiet (fail)
        go_wp2
        go_ret
        have hfin : upto isDig s i = j := HUP.out.symm
        refine while_end26 hfin HXJ.out (by repeat (first | exact HI.out | apply IsS41.drewN | apply IsS41.drew)) (by repeat (first | exact HB.out | apply pw_below_drewN | apply below_drew)) (by repeat (first | exact HK.out | apply keep_drewN | apply keep_drew)) ?_
        have ej : x.toNat = j := by { have := HXJ.out; omega }
        rw [← ej]
        rfl
    · have hjs : ¬ j < s.size := by have := HXJ.out; omega
      have hout := Lib.hid (upto_out isDig s j (fun hq => absurd hq hjs))
      have g1 : decide (x < (s.size : Int)) = false := decide_eq_false hlt
      have HUP := Lib.hid (hout.out.symm.trans HE.out)
      clear hout
      go_wp2
      go_quiet (fail)
      go_wp2
      have z1 : ((i : Int) ≤ x) = True := eq_true (by have := HJ.out; have := HXJ.out; omega)
      have z2 : (x ≤ (s.size : Int)) = True := eq_true hx1
      go_quiet (fail)
      go_wp2
      go_ret
      have hfin : upto isDig s i = j := HUP.out.symm
      refine while_end26 hfin HXJ.out (by repeat (first | exact HI.out | apply IsS41.drewN | apply IsS41.drew)) (by repeat (first | exact HB.out | apply pw_below_drewN | apply below_drew)) (by repeat (first | exact HK.out | apply keep_drewN | apply keep_drew)) ?_
      have ej : x.toNat = j := by { have := HXJ.out; omega }
      rw [← ej]
      rfl
def WRel38 (p : Int → Bool) (s : ByteArray) (i g : Nat) (w0 w : World) (kq : Nat) (w' : World) : Prop :=
  ∃ j : Nat, j ≤ s.size ∧ s.size - j < kq ∧ Aside0 (upto p s j = upto p s i) ∧ Aside0 (i ≤ j) ∧ Aside0 (IsS41 w0 w' g s j) ∧ Aside0 (Below w0.heap.size w0 w') ∧ Aside0 (KeepBut w w' g none)
def WPost38 (p : Int → Bool) (s : ByteArray) (i g : Nat) (w0 w : World) (e : Ending) (w' : World) : Prop :=
  e = .returned (.string (s.extract i (upto p s i))) ∧ IsS41 w0 w' g s (upto p s i) ∧ Below w0.heap.size w0 w' ∧ KeepBut w w' g none
theorem while_end38 {s : ByteArray} {i j g : Nat} {x : Int} {w0 w w' : World} {e : Ending} (hf : upto isAn s i = j) (hx : x = (j : Int)) (hI : IsS41 w0 w' g s x) (hB : Below w0.heap.size w0 w') (hK : KeepBut w w' g none) (he : e = .returned (.string (s.extract i j))) : WPost38 isAn s i g w0 w e w' := by
  subst hx
  unfold WPost38
  rw [hf]
  exact ⟨he, hI, hB, hK⟩
set_option maxHeartbeats 4000000 in
set_option maxRecDepth 100000 in
theorem while_38 (s : ByteArray) (i g : Nat) (w0 w : World) (hi : i ≤ s.size) (hs : s.size ≤ 140737488351232) (hI : IsS41 w0 w g s i) (hB : Below w0.heap.size w0 w) :
    Calls Try.prog 121 #[.pointer (some ⟨g, 0, none⟩), .func (Fn.func 123) #[] #[]] w (WPost38 isAn s i g w0 w) := by
  have c0 : w.cell? ⟨g, 0, none⟩ = some (.string s) := (blk_cell hI.1 0).trans rfl
  have c1 : w.cell? ⟨g, 1, none⟩ = some (.int .i64 i) := (blk_cell hI.1 1).trans rfl
  have HI := Aside0.mk hI
  have HB := Aside0.mk hB
  clear hI hB
  go_enter Try.func121, Try.ntmps121
  go_wp2
  go_loopg [13] (s.size - i + 1) (fun kq v13 w' => WRel38 isAn s i g w0 w kq w')
  case atStart => exact ⟨i, hi, by omega, ⟨rfl⟩, ⟨Nat.le_refl _⟩, HI, HB, ⟨KeepBut.refl w g none⟩⟩
  case round =>
    clear HI HB c0 c1
    unfold WRel38 at hrel
    obtain ⟨j, hj, hk, HE, HJ, HI, HB, HK⟩ := hrel
    have c0 : wr.cell? ⟨g, 0, none⟩ = some (.string s) := (blk_cell HI.out.1 0).trans rfl
    obtain ⟨x, hx⟩ : ∃ x : Int, x = (j : Int) := ⟨_, rfl⟩
    have HXJ := Lib.hid hx
    have HI2 := Aside0.mk (show IsS41 w0 wr g s x by rw [hx]; exact HI.out)
    clear HI hx
    have HI := HI2
    clear HI2
    have hxb : 0 ≤ x ∧ x ≤ (s.size : Int) := by rw [HXJ.out]; omega
    obtain ⟨hx0, hx1⟩ := hxb
    have c1 : wr.cell? ⟨g, 1, none⟩ = some (.int .i64 x) := (blk_cell HI.out.1 1).trans rfl
    have q1 := blk_frozen HI.out.1 1
    cases gk with
    | zero => omega
    | succ k1 =>
    by_cases hlt : x < (s.size : Int)
    · have hjs : j < s.size := by have := HXJ.out; omega
      have hc := Lib.hid (fun W => an38 (bt s x) W)
      have hin := Lib.hid (show isAn (bt s x) = true → upto isAn s j = upto isAn s (j + 1) by rw [HXJ.out]; exact upto_in isAn s j hjs)
      have hout := Lib.hid (show isAn (bt s x) = false → upto isAn s j = j by rw [HXJ.out]; exact fun hq => upto_out isAn s j (fun _ => hq))
      have g1 : decide (x < (s.size : Int)) = true := decide_eq_true hlt
      have p4 : ((0 : Int) ≤ x) = True := eq_true hx0
      have q4 : (x < (s.size : Int)) = True := eq_true hlt
      have hx4 := bt_at s x
      clear hlt hx0
      cases hp : isAn (bt s x) with
      | true =>
        rw [hp] at hc
        have HUP := Lib.hid ((hin.out hp).symm.trans HE.out)
        clear hin hout hp
        go_wp2
        go_quiet (first | (go_at_call 123; refine (hc.out _).mono ?_; rintro e w' ⟨rfl, ⟨nd, rfl⟩⟩; (try first | exact ⟨rfl, _, World.drewN_drewN _ _ _⟩ | exact ⟨rfl, _, Eq.trans (World.drewN_drewN _ _ _) (congrArg (World.drewN _) (Nat.add_assoc _ _ _))⟩)))
        go_wp2
        go_roundg k1
        case measure => omega
        case rel => exact ⟨j + 1, by omega, by omega, ⟨HUP.out⟩, ⟨by have := HJ.out; omega⟩, ⟨by have e : x + 1 = ((j + 1 : Nat) : Int) := by { have := HXJ.out; omega }; rw [← e]; have ew : wrap64 (x + 1) = x + 1 := by { have := HXJ.out; unfold wrap64; omega }; rw [ew]; exact IsS41.set_1 (IsS41.drewN HI.out _) _⟩, ⟨below_set (pw_below_drewN HB.out _) HI.out.2⟩, ⟨KeepBut.set_ (keep_drewN HK.out _) _ _⟩⟩
      | false =>
        rw [hp] at hc
        have HUP := Lib.hid ((hout.out hp).symm.trans HE.out)
        clear hin hout hp
        go_wp2
        go_quiet (first | (go_at_call 123; refine (hc.out _).mono ?_; rintro e w' ⟨rfl, ⟨nd, rfl⟩⟩; (try first | exact ⟨rfl, _, World.drewN_drewN _ _ _⟩ | exact ⟨rfl, _, Eq.trans (World.drewN_drewN _ _ _) (congrArg (World.drewN _) (Nat.add_assoc _ _ _))⟩)))
        go_wp2
        have z1 : ((i : Int) ≤ x) = True := eq_true (by have := HJ.out; have := HXJ.out; omega)
        have z2 : (x ≤ (s.size : Int)) = True := eq_true hx1
        go_quiet (fail)
        go_wp2
        go_ret
        have hfin : upto isAn s i = j := HUP.out.symm
        refine while_end38 hfin HXJ.out (by repeat (first | exact HI.out | apply IsS41.drewN | apply IsS41.drew)) (by repeat (first | exact HB.out | apply pw_below_drewN | apply below_drew)) (by repeat (first | exact HK.out | apply keep_drewN | apply keep_drew)) ?_
        have ej : x.toNat = j := by { have := HXJ.out; omega }
        rw [← ej]
        rfl
    · have hjs : ¬ j < s.size := by have := HXJ.out; omega
      have hout := Lib.hid (upto_out isAn s j (fun hq => absurd hq hjs))
      have g1 : decide (x < (s.size : Int)) = false := decide_eq_false hlt
      have HUP := Lib.hid (hout.out.symm.trans HE.out)
      clear hout
      go_wp2
      go_quiet (fail)
      go_wp2
      have z1 : ((i : Int) ≤ x) = True := eq_true (by have := HJ.out; have := HXJ.out; omega)
      have z2 : (x ≤ (s.size : Int)) = True := eq_true hx1
      go_quiet (fail)
      go_wp2
      go_ret
      have hfin : upto isAn s i = j := HUP.out.symm
      refine while_end38 hfin HXJ.out (by repeat (first | exact HI.out | apply IsS41.drewN | apply IsS41.drew)) (by repeat (first | exact HB.out | apply pw_below_drewN | apply below_drew)) (by repeat (first | exact HK.out | apply keep_drewN | apply keep_drew)) ?_
      have ej : x.toNat = j := by { have := HXJ.out; omega }
      rw [← ej]
      rfl
end Go.Proofs.Ytobkdmmnbnpemaa.Lx
