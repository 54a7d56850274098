/- The chapter's example, walked by hand. -/
import Derived.Test.YtobkdmmnbnpemaaXOP10
import Derived.Test.YtobkdmmnbnpemaaXOP9
import Derived.Test.YtobkdmmnbnpemaaXON1
namespace Go.Proofs.Ytobkdmmnbnpemaa.K
open Go.RowKit Go.Proofs.YtobkdmmnbnpemaaW.PrintWords
def txA : ByteArray := ⟨#[101, 109, 105, 116, 32, 49, 32, 43, 32, 50, 32, 42, 32, 51, 59]⟩
def txB : ByteArray := ⟨#[101, 109, 105, 116, 32, 49]⟩
def TA : List S58 := [⟨3, ⟨#[101, 109, 105, 116]⟩, 0, 0⟩, ⟨1, ⟨#[49]⟩, 1, 5⟩, ⟨4, ⟨#[43]⟩, 0, 7⟩, ⟨1, ⟨#[50]⟩, 2, 9⟩, ⟨4, ⟨#[42]⟩, 0, 11⟩, ⟨1, ⟨#[51]⟩, 3, 13⟩, ⟨4, ⟨#[59]⟩, 0, 14⟩, ⟨0, ⟨#[]⟩, 0, 15⟩]
def TB : List S58 := [⟨3, ⟨#[101, 109, 105, 116]⟩, 0, 0⟩, ⟨1, ⟨#[49]⟩, 1, 5⟩, ⟨0, ⟨#[]⟩, 0, 6⟩]
theorem cutA : Lx.cutP txA = (TA, 0, 0) := by kernel_rfl
theorem cutB : Lx.cutP txB = (TB, 0, 0) := by kernel_rfl
def stX (T : List S58) : PSt → Option SRes := stmtF T (emitF T (aboF T (oneF T) 10))
def nA (n : Int) : S38 := ⟨1, n, ⟨#[]⟩, 0, []⟩
def eA : S38 := ⟨5, 0, ⟨#[]⟩, 1, [nA 1, ⟨5, 0, ⟨#[]⟩, 3, [nA 2, nA 3]⟩]⟩
def sA : S41 := ⟨4, ⟨#[]⟩, 0, [eA], [], []⟩
theorem parsA : parsF TA (stX TA) 3 [] ⟨0, 0, 0, 0⟩ = some (.ok [sA]) := by kernel_rfl
theorem parsB : parsF TB (stX TB) 3 [] ⟨0, 0, 0, 0⟩ = some (.error (40, 6)) := by kernel_rfl
theorem nodesA : tree_Nodes.f 40 [sA] = some 6 := by kernel_rfl
theorem rankA : tree_Rank.f ⟨#[37]⟩ = some (8, 5) := by kernel_rfl
set_option linter.unusedVariables false
set_option linter.unusedSimpArgs false
theorem stX_ok (T : List S58) : StmC T (stX T) := stmt_L T _ (emit_L T _ (abo_ok T _ (one_num T) 10))
theorem callA (w : World) : Calls Try.prog 25 #[.string ⟨#[101, 109, 105, 116, 32, 49, 32, 43, 32, 50, 32, 42, 32, 51, 59]⟩] w fun e w' => ∃ A c, e = .returned (.tuple #[.slice A 1 c, .int .i64 0, .int .i64 0]) ∧ Kd.F k41 w' (newO w w') A 1 [sA] ∧ 1 ≤ c ∧ Below w.heap.size w w' :=
  (parse_L txA TA (cut_C txA TA cutA) (stX TA) (stX_ok TA) 3 (.ok [sA]) parsA w).mono fun e w' h => h.ok
theorem callB (w : World) : Calls Try.prog 25 #[.string ⟨#[101, 109, 105, 116, 32, 49]⟩] w fun e w' => e = .returned (.tuple #[.slice none 0 0, .int .i64 6, .int .i64 40]) ∧ Below w.heap.size w w' :=
  (parse_L txB TB (cut_C txB TB cutB) (stX TB) (stX_ok TB) 3 (.error (40, 6)) parsB w).mono fun e w' h => h.err
theorem nodA {w : World} {A : Option Addr} {c : Nat} {ok : Nat → Prop} (h : Kd.F k41 w ok A 1 [sA]) (hc : 1 ≤ c) : Calls Try.prog 32 #[.slice A 1 c] w fun e w' => e = .returned (.int .i64 6) ∧ Below w.heap.size w w' := tree_Nodes.calls 40 A c [sA] 6 w (Kd.F_now h) hc nodesA
theorem callR (w : World) : Calls Try.prog 21 #[.string ⟨#[37]⟩] w fun e w' => e = .returned (.tuple #[.int .i64 8, .int .i64 5]) ∧ Below w.heap.size w w' := by
  have h := rank_L ⟨#[37]⟩ w
  rw [rankA] at h
  exact h
set_option maxHeartbeats 4000000 in
set_option maxRecDepth 100000 in
theorem alive_L (w : World) : Calls Try.prog 28 #[] w fun e w' => e = .returned (.bool true) ∧ Below w.heap.size w w' := by
  have HB := Aside0.mk (Below.refl w.heap.size w)
  have hu41 := Try.underlying41
  have hu38 := Try.underlying38
  have hu22 := Try.underlying22
  have hu36 := Try.underlying36
  go_enter Try.func28, Try.ntmps28
  go_wp2_with fail
  (with_reducible refine (callA w).mono ?_)
  rintro e w1 ⟨A, c, rfl, hF, hc, hb⟩
  have n0_ := Aside0.mk (below_step HB.out hb)
  have HF := Aside0.mk hF
  clear HB hb hF
  have HB := n0_
  clear n0_
  go_wp2_with fail
  (with_reducible refine (callB w1).mono ?_)
  rintro e w2 ⟨rfl, hb⟩
  have n0_ := Aside0.mk (below_step HB.out hb)
  have n1_ := Aside0.mk (Kd.F_below HF.out hb)
  clear HB HF hb
  have HB := n0_
  have HF := n1_
  clear n0_ n1_
  go_wp2_with fail
  (with_reducible refine (callR w2).mono ?_)
  rintro e w3 ⟨rfl, hb⟩
  have n0_ := Aside0.mk (below_step HB.out hb)
  have n1_ := Aside0.mk (Kd.F_below HF.out hb)
  clear HB HF hb
  have HB := n0_
  have HF := n1_
  clear n0_ n1_
  obtain ⟨ad, A3, c3, A4, c4, A5, c5, rfl, x0, x1, x2, x3, x4, x5, l3, g3, l4, g4, l5, g5⟩ := at_T41 (Kd.F_now HF.out) 0 (by decide) (by decide)
  obtain ⟨ad', A4', c4', rfl, y0, y1, y2, y3, y4, m4, h4⟩ := at_T38 g3 0 (by decide) (by decide)
  have x0' : w3.cell? ad = some (.int .i64 4) := by rw [show ad.add (Int.toNat 0 * 6) = ad from Addr.add_zero' ad] at x0; exact x0
  have x3' : w3.cell? ⟨ad.block, ad.off + 3, none⟩ = some (.slice (some ad') 1 c3) := by rw [show ad.add (Int.toNat 0 * 6) = ad from Addr.add_zero' ad] at x3; exact x3
  have y3' : w3.cell? ⟨ad'.block, ad'.off + 3, none⟩ = some (.int .i64 1) := by rw [show ad'.add (Int.toNat 0 * 5) = ad' from Addr.add_zero' ad'] at y3; exact y3
  clear x0 x1 x2 x3 x4 x5 y0 y1 y2 y3 y4 l3 g3 l4 g4 l5 g5 m4 h4
  go_wp2_with fail
  (with_reducible refine (nodA HF.out hc).mono ?_)
  rintro e w4 ⟨rfl, hb⟩
  have n0_ := Aside0.mk (below_step HB.out hb)
  clear HB HF hb x0' x3' y3'
  have HB := n0_
  go_wp2_with fail
  refine bodyPost_ret (v := .bool true) (by simp [results, Try.results28, go_sem]) rfl ⟨rfl, HB.out⟩
end Go.Proofs.Ytobkdmmnbnpemaa.K
