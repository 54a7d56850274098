/- The chapter's last example, walked. -/
import Derived.Test.YtnhjneldjfdnfaaD3
import Derived.LaidEqlPtr
import Derived.WalkLawsBesides
import Derived.WalkSpells
namespace Go.Proofs.Ytnhjneldjfdnfaa.K
open Go.RowKit Go.Proofs.YtnhjneldjfdnfaaW.PrintWords Go.Proofs.YtnhjneldjfdnfaaW.PrintLast Go.Proofs.YtnhjneldjfdnfaaW.PrintMore
attribute [local go_sem] max2_int min2_int max_two min_two max_three min_three max_four min_four
set_option linter.unusedVariables false
set_option linter.unusedSimpArgs false

theorem eqA32 (d : Nat) (w : World) (x0 y0 : Int) (x1 y1 : Int) :
    (Op.equalIn (d + 2) 32 (.agg #[.int .i64 x0, .int .i64 x1]) (.agg #[.int .i64 y0, .int .i64 y1])).run Try.prog w = .ok (x0 == y0 && (x1 == y1)) w := by
  refine eqA_of Try.underlying32 (by kernel_rfl) ?_
  refine eqf_cons (by rfl) (by go_simp; rfl) (by go_simp; rfl) (by go_simp) ?_
  exact eqf_last (by rfl) (by go_simp; rfl) (by go_simp; rfl) (by go_simp)
attribute [local go_sem high] eqA32

def TruePost (w : World) (e : Ending) (w' : World) : Prop := e = .returned (.bool true) ∧ Below w.heap.size w w'

theorem next_0 : (newD 3 1 2 10).next 0 = (⟨3, 10, 2, 1, 3, [0, 0]⟩, 0, 3, true) := by
  have h : (newD 3 1 2 10) = ⟨3, 10, 2, 1, 0, [0, 0]⟩ := by rfl
  rw [h]
  rfl
theorem next_1 : (D.next ⟨3, 10, 2, 1, 3, [0, 0]⟩ 1) = (⟨3, 10, 2, 1, 5, [0, 0]⟩, 3, 5, true) := by rfl

set_option maxHeartbeats 2000000 in
theorem alive_calls (w : World) : Calls Try.prog 8 #[] w (TruePost w) := by
  have hnew := Lib.hid (new_ok 3 1 2 10 w (by decide))
  go_enter Try.func8, Try.ntmps8
  go_wp2_with fail
  refine (hnew.out).mono ?_
  intro e w1 hp
  obtain ⟨b, bt, ct, he, hd, hb⟩ := hp
  subst he
  have HD := Aside0.mk hd
  have HB := Aside0.mk hb
  clear hd hb hnew
  go_wp2_with fail
  refine (next_calls _ b bt ct _ 0 _ HD.out).mono ?_
  intro e w2 hp
  unfold NextPost at hp
  rw [next_0] at hp
  obtain ⟨he, hd, hf⟩ := hp
  subst he
  have n1_ := Aside0.mk (fr_below HB.out hf HD.out.low HD.out.lowt)
  have n2_ := Aside0.mk hd
  clear HB HD hd hf
  have HB := n1_
  have HD := n2_
  clear n1_ n2_
  go_wp2_with fail
  obtain ⟨hl1, hl2, _⟩ := dh_lt HD.out
  refine (next_calls _ b bt ct _ 1 _ (dh_alloc HD.out _)).mono ?_
  intro e w3 hp
  unfold NextPost at hp
  rw [next_1] at hp
  obtain ⟨he, hd, hf⟩ := hp
  subst he
  have hblk := (hf.block w2.heap.size (by simp) (by omega) (by omega)).trans (blk_new w2 (.cells #[.int .i64 0, .int .i64 3] 32 (0, 0)))
  have hlt : w2.heap.size < w3.heap.size := by have := hf.size; simp at this; omega
  have r0 : w3.cell? ⟨w2.heap.size, 0, none⟩ = some (.int .i64 0) := (blk_cell hblk 0).trans rfl
  have r1 : w3.cell? ⟨w2.heap.size, 1, none⟩ = some (.int .i64 3) := (blk_cell hblk 1).trans rfl
  have n1_ := Aside0.mk (fr_below (below_alloc HB.out _) hf HD.out.low HD.out.lowt)
  clear HB HD hd hf hblk
  have HB := n1_
  clear n1_
  go_wp2
  go_ret
  exact ⟨rfl, below_alloc HB.out _⟩
end Go.Proofs.Ytnhjneldjfdnfaa.K
