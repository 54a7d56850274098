/- TreeRanks: the plain law: both find the same rank and operation. -/
import Derived.Test.YtobkdmmnbnpemaaXRLRanks
namespace Go.Proofs.Ytobkdmmnbnpemaa.K
open Go.RowKit Go.Proofs.YtobkdmmnbnpemaaW.PrintWords Go.Proofs.YtobkdmmnbnpemaaW.PrintLast Go.Proofs.YtobkdmmnbnpemaaW.PrintMore
set_option linter.unusedVariables false
def rkS : List ByteArray := [(⟨#[124]⟩ : ByteArray), (⟨#[94]⟩ : ByteArray), (⟨#[38]⟩ : ByteArray), (⟨#[61, 61]⟩ : ByteArray), (⟨#[33, 61]⟩ : ByteArray), (⟨#[60]⟩ : ByteArray), (⟨#[60, 61]⟩ : ByteArray), (⟨#[62]⟩ : ByteArray), (⟨#[62, 61]⟩ : ByteArray), (⟨#[60, 60]⟩ : ByteArray), (⟨#[62, 62]⟩ : ByteArray), (⟨#[43]⟩ : ByteArray), (⟨#[45]⟩ : ByteArray), (⟨#[42]⟩ : ByteArray), (⟨#[47]⟩ : ByteArray), (⟨#[37]⟩ : ByteArray)]
def rkR : List Int := [1, 2, 3, 4, 4, 5, 5, 5, 5, 6, 6, 7, 7, 8, 8, 8]
def rkO : List Int := [7, 8, 6, 11, 12, 13, 14, 15, 16, 9, 10, 1, 2, 3, 4, 5]
theorem rk_step (x : ByteArray) (k j : Nat) (sg : List UInt8) (a b : Int) (hj : j < 16) (h1 : (rdOf ByteArray.empty rkS (j : Int)).toList = sg) (h2 : rd rkR (j : Int) = a) (h3 : rd rkO (j : Int) = b) :
    outriderref04_Rank.l0 (k + 1) x rkR rkS rkO (j : Int) = if x.toList = sg then some (a, b) else outriderref04_Rank.l0 k x rkR rkS rkO ((j + 1 : Nat) : Int) := by
  have e1 : rkS.length = 16 := rfl
  have e2 : rkR.length = 16 := rfl
  have e3 : rkO.length = 16 := rfl
  have hw : wrap64 ((j : Int) + 1) = ((j + 1 : Nat) : Int) := by unfold wrap64; omega
  rw [outriderref04_Rank.l0, if_pos (by omega), if_pos (by omega), h1, h2, h3, hw]
  by_cases h : x.toList = sg
  · rw [if_pos h.symm, if_pos (by omega), if_pos (by omega), if_pos h]
  · rw [if_neg (fun e => h e.symm), if_neg h]
theorem rk_end (x : ByteArray) (k : Nat) : outriderref04_Rank.l0 (k + 1) x rkR rkS rkO ((16 : Nat) : Int) = some (0, 0) := by
  rw [outriderref04_Rank.l0, if_neg (by decide)]
theorem rank_ref (x : ByteArray) : outriderref04_Rank.f 17 x = tree_Rank.f x := by
  unfold tree_Rank.f
  show outriderref04_Rank.l0 17 x rkR rkS rkO ((0 : Nat) : Int) = _
  rw [rk_step x 16 0 [124] 1 7 (by decide) (by kernel_rfl) (by kernel_rfl) (by kernel_rfl)]
  rw [rk_step x 15 1 [94] 2 8 (by decide) (by kernel_rfl) (by kernel_rfl) (by kernel_rfl)]
  rw [rk_step x 14 2 [38] 3 6 (by decide) (by kernel_rfl) (by kernel_rfl) (by kernel_rfl)]
  rw [rk_step x 13 3 [61, 61] 4 11 (by decide) (by kernel_rfl) (by kernel_rfl) (by kernel_rfl)]
  rw [rk_step x 12 4 [33, 61] 4 12 (by decide) (by kernel_rfl) (by kernel_rfl) (by kernel_rfl)]
  rw [rk_step x 11 5 [60] 5 13 (by decide) (by kernel_rfl) (by kernel_rfl) (by kernel_rfl)]
  rw [rk_step x 10 6 [60, 61] 5 14 (by decide) (by kernel_rfl) (by kernel_rfl) (by kernel_rfl)]
  rw [rk_step x 9 7 [62] 5 15 (by decide) (by kernel_rfl) (by kernel_rfl) (by kernel_rfl)]
  rw [rk_step x 8 8 [62, 61] 5 16 (by decide) (by kernel_rfl) (by kernel_rfl) (by kernel_rfl)]
  rw [rk_step x 7 9 [60, 60] 6 9 (by decide) (by kernel_rfl) (by kernel_rfl) (by kernel_rfl)]
  rw [rk_step x 6 10 [62, 62] 6 10 (by decide) (by kernel_rfl) (by kernel_rfl) (by kernel_rfl)]
  rw [rk_step x 5 11 [43] 7 1 (by decide) (by kernel_rfl) (by kernel_rfl) (by kernel_rfl)]
  rw [rk_step x 4 12 [45] 7 2 (by decide) (by kernel_rfl) (by kernel_rfl) (by kernel_rfl)]
  rw [rk_step x 3 13 [42] 8 3 (by decide) (by kernel_rfl) (by kernel_rfl) (by kernel_rfl)]
  rw [rk_step x 2 14 [47] 8 4 (by decide) (by kernel_rfl) (by kernel_rfl) (by kernel_rfl)]
  rw [rk_step x 1 15 [37] 8 5 (by decide) (by kernel_rfl) (by kernel_rfl) (by kernel_rfl)]
  rw [rk_end]
theorem TreeRanks : outriderlaw04_TreeRanks.Pure := by
  intro a _
  refine ⟨17, ?_⟩
  unfold outriderlaw04_TreeRanks.f
  rw [rank_ref]
  obtain ⟨p, hp⟩ := rank_some a
  rw [hp]
  simp only [Option.bind_some, if_true]
  rfl
end Go.Proofs.Ytobkdmmnbnpemaa.K
