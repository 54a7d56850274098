/- The reference's Expr and bracketed, walked by hand. -/
import Derived.Test.YtobkdmmnbnpemaaXWR4
import Derived.Test.YtobkdmmnbnpemaaXWY1
import Derived.Lib.Hide
import Derived.Deep.RegionHeld3
import Derived.Outline
namespace Go.Proofs.Ytobkdmmnbnpemaa.K
open Go.RowKit Go.Proofs.YtobkdmmnbnpemaaW.PrintWords Go.Proofs.YtobkdmmnbnpemaaW.PrintLast Go.Proofs.YtobkdmmnbnpemaaW.PrintMore
attribute [local go_sem] max2_int min2_int max_two min_two max_three min_three max_four min_four
set_option linter.unusedVariables false
set_option linter.unusedSimpArgs false
def szd (x : ByteArray) : Option ByteArray := if x.size ≤ 1000000000 then some x else none
theorem szd_get {x y : ByteArray} (h : szd x = some y) : y = x ∧ y.size ≤ 1000000000 := by
  unfold szd at h
  by_cases q : x.size ≤ 1000000000
  · rw [if_pos q] at h; have := Option.some.inj h; subst this; exact ⟨rfl, q⟩
  · rw [if_neg q] at h; simp at h
def refB (f : S38 → Option ByteArray) (e : S38) (least : Int) : Option ByteArray :=
  (outriderref05_between.f e.f0 e.f1 e.f2 e.f3 e.f4).bind fun bt => (f e).bind fun x => if bt < least then szd (⟨#[40]⟩ ++ x ++ ⟨#[41]⟩) else some x
def refE (K : Nat) : Nat → S38 → Option ByteArray
  | 0, _ => none
  | d + 1, e =>
    if e.f0 = 1 then (outriderref01_Text.f K e.f1).bind szd
    else if e.f0 = 2 then szd e.f2
    else if e.f4.length = 0 then none
    else if e.f0 = 3 then (refE K d (rd_T38 e.f4 0)).bind fun x => szd (⟨#[109, 91]⟩ ++ x ++ ⟨#[93]⟩)
    else if e.f0 = 4 then (refB (refE K d) (rd_T38 e.f4 0) 99).bind fun x => szd ((if e.f3 = 20 then ⟨#[126]⟩ else if e.f3 = 19 then ⟨#[45]⟩ else ⟨#[33]⟩) ++ x)
    else if e.f4.length = 1 ∨ e.f0 ≠ 5 then none
    else (outriderref05_Sign.f e.f3).bind fun sg =>
      if e.f3 = 17 then (refE K d (rd_T38 e.f4 0)).bind fun x => (refE K d (rd_T38 e.f4 1)).bind fun y => szd (⟨#[109, 105, 110, 40]⟩ ++ x ++ ⟨#[44, 32]⟩ ++ y ++ ⟨#[41]⟩)
      else if e.f3 = 18 then (refE K d (rd_T38 e.f4 0)).bind fun x => (refE K d (rd_T38 e.f4 1)).bind fun y => szd (⟨#[109, 97, 120, 40]⟩ ++ x ++ ⟨#[44, 32]⟩ ++ y ++ ⟨#[41]⟩)
      else if 0 ≤ sg.2 ∧ sg.2 ≤ 100 ∧ sg.1.size ≤ 100 then (refB (refE K d) (rd_T38 e.f4 0) sg.2).bind fun x => (refB (refE K d) (rd_T38 e.f4 1) (sg.2 + 1)).bind fun y => szd (x ++ ⟨#[32]⟩ ++ sg.1 ++ ⟨#[32]⟩ ++ y) else none
def XPost (x : ByteArray) (w : World) (e : Ending) (w' : World) : Prop := e = .returned (.string x) ∧ Below w.heap.size w w'
def RefC (f : S38 → Option ByteArray) : Prop := ∀ (a0 a1 : Int) (a2 : ByteArray) (a3 : Int) (l : List S38) (L : Nat) (A : Option Addr) (c : Nat) (x : ByteArray) (w : World), f ⟨a0, a1, a2, a3, l⟩ = some x → l.length = L → Kd.C k38 w A l.length l → L ≤ c →
  Calls Try.prog 24 #[.agg #[.int .i64 a0, .int .i64 a1, .string a2, .int .i64 a3, .slice A L c]] w (XPost x w)
def BrkC (f : S38 → Option ByteArray) : Prop := ∀ (a0 a1 : Int) (a2 : ByteArray) (a3 : Int) (l : List S38) (L : Nat) (A : Option Addr) (c : Nat) (least : Int) (x : ByteArray) (w : World), refB f ⟨a0, a1, a2, a3, l⟩ least = some x → (∀ y, f ⟨a0, a1, a2, a3, l⟩ = some y → y.size ≤ 1000000000) → l.length = L → Kd.C k38 w A l.length l → L ≤ c →
  Calls Try.prog 44 #[.agg #[.int .i64 a0, .int .i64 a1, .string a2, .int .i64 a3, .slice A L c], .int .i64 least] w (XPost x w)
theorem RefC.use {f : S38 → Option ByteArray} (h : RefC f) : ∀ (a0 a1 : Int) (a2 : ByteArray) (a3 : Int) (l : List S38) (L : Nat) (A : Option Addr) (c : Nat) (x : ByteArray) (w : World), f ⟨a0, a1, a2, a3, l⟩ = some x → l.length = L → Kd.C k38 w A l.length l → L ≤ c →
  Calls Try.prog 24 #[.agg #[.int .i64 a0, .int .i64 a1, .string a2, .int .i64 a3, .slice A L c]] w (XPost x w) := h
theorem between_L (a0 a1 : Int) (a2 : ByteArray) (a3 : Int) (l : List S38) (L : Nat) (A : Option Addr) (c : Nat) (r : Int) (w : World) (hL : l.length = L) (hC : Kd.C k38 w A l.length l) (hc : L ≤ c) (h : outriderref05_between.f a0 a1 a2 a3 l = some r) :
    Calls Try.prog 72 #[.agg #[.int .i64 a0, .int .i64 a1, .string a2, .int .i64 a3, .slice A L c]] w fun e w' => e = .returned (.int .i64 r) ∧ Below w.heap.size w w' := by
  subst hL
  exact outriderref05_between.calls a0 a1 a2 a3 A c l r w hC hc h
set_option maxHeartbeats 8000000 in
set_option maxRecDepth 100000 in
theorem brk_step (f : S38 → Option ByteArray) (RC0 : RefC f) : BrkC f := by
  intro a0 a1 a2 a3 l L A c least x w h hsz hL hC hc
  have hu38 := Try.underlying38
  unfold refB at h
  obtain ⟨bt, hbt, h⟩ := Option.bind_eq_some_iff.mp h
  obtain ⟨y, hy, h⟩ := Option.bind_eq_some_iff.mp h
  have hys := hsz y hy
  have HB := Aside0.mk (Below.refl w.heap.size w)
  have HC := Aside0.mk hC
  have HL := Aside0.mk hL
  have HCC := Aside0.mk hc
  have HBT := Aside0.mk hbt
  have HY := Aside0.mk hy
  have RC := Aside0.mk RC0
  clear hsz hC hL hc hbt hy RC0
  by_cases q : bt < least
  · rw [if_pos q] at h
    have hq : decide (bt < least) = true := decide_eq_true q
    obtain ⟨rfl, hxs⟩ := szd_get h
    clear h
    go_enter Try.func44, Try.ntmps44
    go_wp2_with (first | ((with_reducible refine gate_dst (N := 2) rfl ?_); refine box_event ?hg (N := 2) ?hd (cs := #[.int .i64 a0, .int .i64 a1, .string a2, .int .i64 a3, .slice A L c]) (t := 38) ?hr ?_; (case hd => rfl); (case hg => rfl); (case hr => first | (go_simp; done) | (go_simp; rfl)); intro gb hg w2 hbox hb; have n0_ := Aside0.mk (below_step HB.out hb); have n3_ := Aside0.mk hbox; clear HB hb hbox hg; have HB := n0_; have BK := n3_; clear n0_ n3_; obtain ⟨hcz0, hcz1, hcz2, hcz3, hcz4⟩ := blkc5 BK.out; obtain ⟨hfz0, hfz1, hfz2, hfz3, hfz4⟩ := blkf5 BK.out))
    (with_reducible refine (between_L a0 a1 a2 a3 l L A c bt _ HL.out (by (with_reducible repeat (first | refine Kd.C_alloc ?_ _ | refine Kd.C_drewN ?_ _ | refine Kd.C_drew ?_)); exact Kd.C_below HC.out HB.out) HCC.out HBT.out).mono ?_)
    rintro e w5 ⟨rfl, hb5⟩
    have n0_ := Aside0.mk (below_step (by repeat (first | (with_reducible first | exact HB.out | apply below_alloc | apply pw_below_drewN | apply below_drew1) | exact HB.out)) hb5)
    have n1_ := Aside0.mk (blk_below (g := gb) (o := .cells #[.int .i64 a0, .int .i64 a1, .string a2, .int .i64 a3, .slice A L c] 38 (0, 0)) (by (with_reducible repeat (first | refine blk_drewN ?_ _ | refine blk_drew ?_ | refine blk_alloc ?_ _)); exact BK.out) hb5)
    clear HB BK hb5
    clear hcz0 hfz0 hcz1 hfz1 hcz2 hfz2 hcz3 hfz3 hcz4 hfz4
    have HB := n0_
    have BK := n1_
    clear n0_ n1_
    obtain ⟨hcz0, hcz1, hcz2, hcz3, hcz4⟩ := blkc5 BK.out
    obtain ⟨hfz0, hfz1, hfz2, hfz3, hfz4⟩ := blkf5 BK.out
    go_wp2_with fail
    (with_reducible refine (RC.out.use a0 a1 a2 a3 l L A c y _ HY.out HL.out (by (with_reducible repeat (first | refine Kd.C_alloc ?_ _ | refine Kd.C_drewN ?_ _ | refine Kd.C_drew ?_)); exact Kd.C_below HC.out HB.out) HCC.out).mono ?_)
    rintro e w6 ⟨rfl, hb5⟩
    have n0_ := Aside0.mk (below_step (by repeat (first | (with_reducible first | exact HB.out | apply below_alloc | apply pw_below_drewN | apply below_drew1) | exact HB.out)) hb5)
    have n1_ := Aside0.mk (blk_below (g := gb) (o := .cells #[.int .i64 a0, .int .i64 a1, .string a2, .int .i64 a3, .slice A L c] 38 (0, 0)) (by (with_reducible repeat (first | refine blk_drewN ?_ _ | refine blk_drew ?_ | refine blk_alloc ?_ _)); exact BK.out) hb5)
    clear HB BK hb5
    clear hcz0 hfz0 hcz1 hfz1 hcz2 hfz2 hcz3 hfz3 hcz4 hfz4
    have HB := n0_
    have BK := n1_
    clear n0_ n1_
    obtain ⟨hcz0, hcz1, hcz2, hcz3, hcz4⟩ := blkc5 BK.out
    obtain ⟨hfz0, hfz1, hfz2, hfz3, hfz4⟩ := blkf5 BK.out
    go_wp2
    go_ret
    exact ⟨rfl, HB.out⟩
  · rw [if_neg q] at h
    have hq : decide (bt < least) = false := decide_eq_false q
    obtain rfl := Option.some.inj h
    clear h
    go_enter Try.func44, Try.ntmps44
    go_wp2_with (first | ((with_reducible refine gate_dst (N := 2) rfl ?_); refine box_event ?hg (N := 2) ?hd (cs := #[.int .i64 a0, .int .i64 a1, .string a2, .int .i64 a3, .slice A L c]) (t := 38) ?hr ?_; (case hd => rfl); (case hg => rfl); (case hr => first | (go_simp; done) | (go_simp; rfl)); intro gb hg w2 hbox hb; have n0_ := Aside0.mk (below_step HB.out hb); have n3_ := Aside0.mk hbox; clear HB hb hbox hg; have HB := n0_; have BK := n3_; clear n0_ n3_; obtain ⟨hcz0, hcz1, hcz2, hcz3, hcz4⟩ := blkc5 BK.out; obtain ⟨hfz0, hfz1, hfz2, hfz3, hfz4⟩ := blkf5 BK.out))
    (with_reducible refine (between_L a0 a1 a2 a3 l L A c bt _ HL.out (by (with_reducible repeat (first | refine Kd.C_alloc ?_ _ | refine Kd.C_drewN ?_ _ | refine Kd.C_drew ?_)); exact Kd.C_below HC.out HB.out) HCC.out HBT.out).mono ?_)
    rintro e w5 ⟨rfl, hb5⟩
    have n0_ := Aside0.mk (below_step (by repeat (first | (with_reducible first | exact HB.out | apply below_alloc | apply pw_below_drewN | apply below_drew1) | exact HB.out)) hb5)
    have n1_ := Aside0.mk (blk_below (g := gb) (o := .cells #[.int .i64 a0, .int .i64 a1, .string a2, .int .i64 a3, .slice A L c] 38 (0, 0)) (by (with_reducible repeat (first | refine blk_drewN ?_ _ | refine blk_drew ?_ | refine blk_alloc ?_ _)); exact BK.out) hb5)
    clear HB BK hb5
    clear hcz0 hfz0 hcz1 hfz1 hcz2 hfz2 hcz3 hfz3 hcz4 hfz4
    have HB := n0_
    have BK := n1_
    clear n0_ n1_
    obtain ⟨hcz0, hcz1, hcz2, hcz3, hcz4⟩ := blkc5 BK.out
    obtain ⟨hfz0, hfz1, hfz2, hfz3, hfz4⟩ := blkf5 BK.out
    go_wp2_with fail
    (with_reducible refine (RC.out.use a0 a1 a2 a3 l L A c y _ HY.out HL.out (by (with_reducible repeat (first | refine Kd.C_alloc ?_ _ | refine Kd.C_drewN ?_ _ | refine Kd.C_drew ?_)); exact Kd.C_below HC.out HB.out) HCC.out).mono ?_)
    rintro e w6 ⟨rfl, hb5⟩
    have n0_ := Aside0.mk (below_step (by repeat (first | (with_reducible first | exact HB.out | apply below_alloc | apply pw_below_drewN | apply below_drew1) | exact HB.out)) hb5)
    have n1_ := Aside0.mk (blk_below (g := gb) (o := .cells #[.int .i64 a0, .int .i64 a1, .string a2, .int .i64 a3, .slice A L c] 38 (0, 0)) (by (with_reducible repeat (first | refine blk_drewN ?_ _ | refine blk_drew ?_ | refine blk_alloc ?_ _)); exact BK.out) hb5)
    clear HB BK hb5
    clear hcz0 hfz0 hcz1 hfz1 hcz2 hfz2 hcz3 hfz3 hcz4 hfz4
    have HB := n0_
    have BK := n1_
    clear n0_ n1_
    obtain ⟨hcz0, hcz1, hcz2, hcz3, hcz4⟩ := blkc5 BK.out
    obtain ⟨hfz0, hfz1, hfz2, hfz3, hfz4⟩ := blkf5 BK.out
    go_wp2
    go_ret
    exact ⟨rfl, HB.out⟩
end Go.Proofs.Ytobkdmmnbnpemaa.K
