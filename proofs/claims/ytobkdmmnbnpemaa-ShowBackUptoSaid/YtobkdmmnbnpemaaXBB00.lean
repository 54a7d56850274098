/- Texts of the claim, one behind the other. -/
import Derived.Test.YtobkdmmnbnpemaaProg
import Derived.Below
import Derived.Deep.Draws
import Derived.Deep.AppendLies
import Derived.Maps.AppendAt
import Derived.OwnWalk
import Derived.Laws.BytesArg
import Derived.Laws.MakeOwn
import Derived.Laws.OwnMore
import Derived.Deep.OwnRows
import Derived.Tactics
import Derived.Lib.ConvBytes
import Derived.Laws.Slices
import Derived.WalkKit
import Derived.KernelRfl
import Derived.RowKit3
import Derived.Deep.LoopGhost
import Derived.Deep.QuietTactic
import Derived.BigQuiet
import Derived.WideLaws
import Derived.Deep.DeepCutAuto
import Derived.Deep.CutBlock
import Derived.Deep.RegionHeld3
import Derived.Laws.Rows
import Derived.Lib.AppendStr
import Derived.ArgAppend
import Derived.Laws.IdiomCopy
import Derived.OrdersHeld
import Derived.Laws.BitsLemmas
import Derived.RowKit
import Derived.Test.YtobkdmmnbnpemaaXBW
set_option maxHeartbeats 16000000
set_option maxRecDepth 100000
namespace Go.Proofs.Ytobkdmmnbnpemaa.K
open Go.RowKit Go.Proofs.YtobkdmmnbnpemaaW.PrintWords Go.Proofs.YtobkdmmnbnpemaaW.PrintLast Go.Proofs.YtobkdmmnbnpemaaW.PrintMore
attribute [local go_sem] max2_int min2_int max_two min_two max_three min_three max_four min_four
set_option linter.unusedVariables false
set_option linter.unusedSimpArgs false
def errW : Option Int → Value
 | none => .nilIface
 | some c => .iface 0 (.int .i64 c)
theorem errW_none : errW none = .nilIface := rfl
theorem errW_some (c : Int) : errW (some c) = .iface 0 (.int .i64 c) := rfl
theorem info70 : (Try.prog.info? 70).map (fun i => (i.zero, i.size, i.bytes)) = some (some (.agg #[(.string ⟨#[]⟩), (.int .i64 0)]), 2, 24) := by kernel_rfl
structure S38 where
 f0 : Int
 f1 : Int
 f2 : ByteArray
 f3 : Int
 f4 : (List S38)
def z38 : S38 := ⟨(0 : Int), (0 : Int), (⟨#[]⟩ : ByteArray), (0 : Int), ([] : List S38)⟩
def F38 (d : Kd S38) : Kd S38 := Kd.iso (Kd.pair (Kd.int .i64) (Kd.pair (Kd.int .i64) (Kd.pair Kd.string (Kd.pair (Kd.int .i64) (Kd.slice 38 d))))) (fun x : S38 => (x.f0, x.f1, x.f2, x.f3, x.f4))
theorem mono38 : Kd.Mono F38 := Kd.mono_iso _ (Kd.mono_pair (Kd.mono_const _) (Kd.mono_pair (Kd.mono_const _) (Kd.mono_pair (Kd.mono_const _) (Kd.mono_pair (Kd.mono_const _) (Kd.mono_slice 38 Kd.mono_id)))))
theorem sub38 : Kd.Sub F38 [38] := Kd.sub_iso _ (Kd.sub_pair (Kd.sub_const _ (by decide)) (Kd.sub_pair (Kd.sub_const _ (by decide)) (Kd.sub_pair (Kd.sub_const _ (by decide)) (Kd.sub_pair (Kd.sub_const _ (by decide)) (Kd.sub_slice 38 (by decide) Kd.sub_id)))))
theorem sz38 : ∀ n, (Kd.upto F38 5 [38] n).sz = 5 := Kd.upto_sz (fun _ => rfl)
def k38 : Kd S38 := Kd.fix F38 5 [38] sz38 (Kd.upto_E sub38)
theorem k38_open {w : World} {x : S38} {cs : List Value} (h : k38.K w x cs) : ∃ A4 c4, cs = [.int .i64 x.f0, .int .i64 x.f1, .string x.f2, .int .i64 x.f3, .slice A4 x.f4.length c4] ∧ x.f4.length ≤ c4 ∧ k38.C w A4 x.f4.length x.f4 := by
 obtain ⟨n, h⟩ := h; cases n with
 | zero => exact h.elim
 | succ n =>
  obtain ⟨_, _, rfl, rfl, ⟨_, _, rfl, rfl, ⟨_, _, rfl, rfl, ⟨_, _, rfl, rfl, ⟨A4, c4, rfl, l4, g4⟩⟩⟩⟩⟩ := h; exact ⟨A4, c4, rfl, l4, Kd.fix_C g4⟩
theorem k38_mk (w : World) (x : S38) {A4 : Option Addr} {c4 : Nat} (l4 : x.f4.length ≤ c4) (g4 : k38.C w A4 x.f4.length x.f4) : k38.K w x [.int .i64 x.f0, .int .i64 x.f1, .string x.f2, .int .i64 x.f3, .slice A4 x.f4.length c4] := by
 obtain ⟨n4, q4⟩ := Kd.fix_C_back mono38 g4; have r4 := Kd.upto_C_le mono38 sz38 (show n4 ≤ n4 by omega) q4
 exact ⟨n4 + 1, ⟨[.int .i64 x.f0], [.int .i64 x.f1, .string x.f2, .int .i64 x.f3, .slice A4 x.f4.length c4], rfl, rfl, ⟨[.int .i64 x.f1], [.string x.f2, .int .i64 x.f3, .slice A4 x.f4.length c4], rfl, rfl, ⟨[.string x.f2], [.int .i64 x.f3, .slice A4 x.f4.length c4], rfl, rfl, ⟨[.int .i64 x.f3], [.slice A4 x.f4.length c4], rfl, rfl, ⟨A4, c4, rfl, l4, r4⟩⟩⟩⟩⟩⟩
def rd_T38 (xs : List S38) (i : Int) : S38 := xs.getD i.toNat z38
theorem at_T38 {w : World} {A : Option Addr} {n : Nat} {xs : List S38} (h : Kd.C k38 w A n xs) (i : Int) (h0 : 0 ≤ i) (h1 : i < n) : ∃ ad A4 c4, A = some ad ∧ w.cell? (ad.add (i.toNat * 5)) = some (.int .i64 (rd_T38 xs i).f0) ∧ w.cell? ⟨(ad.add (i.toNat * 5)).block, (ad.add (i.toNat * 5)).off + 1, none⟩ = some (.int .i64 (rd_T38 xs i).f1) ∧ w.cell? ⟨(ad.add (i.toNat * 5)).block, (ad.add (i.toNat * 5)).off + 2, none⟩ = some (.string (rd_T38 xs i).f2) ∧ w.cell? ⟨(ad.add (i.toNat * 5)).block, (ad.add (i.toNat * 5)).off + 3, none⟩ = some (.int .i64 (rd_T38 xs i).f3) ∧ w.cell? ⟨(ad.add (i.toNat * 5)).block, (ad.add (i.toNat * 5)).off + 4, none⟩ = some (.slice A4 (rd_T38 xs i).f4.length c4) ∧ (rd_T38 xs i).f4.length ≤ c4 ∧ k38.C w A4 (rd_T38 xs i).f4.length (rd_T38 xs i).f4 := by
 obtain ⟨ad, c, e, _, hK, hc0⟩ := Kd.C_get h z38 i h0 h1; have hc : ∀ j u, c[j]? = some u → w.cell? (ad.add (i.toNat * 5 + j)) = some u := hc0; obtain ⟨A4, c4, rfl, l4, g4⟩ := k38_open hK; exact ⟨ad, A4, c4, e, hc 0 _ rfl, z_14, z_15, z_16, by rw [← add_field _ _ 4 (by omega)]; exact hc 4 _ rfl, l4, g4⟩
structure S41 where
 f0 : Int
 f1 : ByteArray
 f2 : Int
 f3 : (List S38)
 f4 : (List S41)
 f5 : (List S41)
def z41 : S41 := ⟨(0 : Int), (⟨#[]⟩ : ByteArray), (0 : Int), ([] : List S38), ([] : List S41), ([] : List S41)⟩
def F41 (d : Kd S41) : Kd S41 := Kd.iso (Kd.pair (Kd.int .i64) (Kd.pair Kd.string (Kd.pair (Kd.int .i64) (Kd.pair (Kd.slice 38 k38) (Kd.pair (Kd.slice 41 d) (Kd.slice 41 d)))))) (fun x : S41 => (x.f0, x.f1, x.f2, x.f3, x.f4, x.f5))
theorem mono41 : Kd.Mono F41 := Kd.mono_iso _ (Kd.mono_pair (Kd.mono_const _) (Kd.mono_pair (Kd.mono_const _) (Kd.mono_pair (Kd.mono_const _) (Kd.mono_pair (Kd.mono_const _) (Kd.mono_pair (Kd.mono_slice 41 Kd.mono_id) (Kd.mono_slice 41 Kd.mono_id))))))
theorem sub41 : Kd.Sub F41 [38, 41] := Kd.sub_iso _ (Kd.sub_pair (Kd.sub_const _ (by decide)) (Kd.sub_pair (Kd.sub_const _ (by decide)) (Kd.sub_pair (Kd.sub_const _ (by decide)) (Kd.sub_pair (Kd.sub_const _ (by decide)) (Kd.sub_pair (Kd.sub_slice 41 (by decide) Kd.sub_id) (Kd.sub_slice 41 (by decide) Kd.sub_id))))))
theorem sz41 : ∀ n, (Kd.upto F41 6 [38, 41] n).sz = 6 := Kd.upto_sz (fun _ => rfl)
def k41 : Kd S41 := Kd.fix F41 6 [38, 41] sz41 (Kd.upto_E sub41)
theorem k41_open {w : World} {x : S41} {cs : List Value} (h : k41.K w x cs) : ∃ A3 c3 A4 c4 A5 c5, cs = [.int .i64 x.f0, .string x.f1, .int .i64 x.f2, .slice A3 x.f3.length c3, .slice A4 x.f4.length c4, .slice A5 x.f5.length c5] ∧ x.f3.length ≤ c3 ∧ k38.C w A3 x.f3.length x.f3 ∧ x.f4.length ≤ c4 ∧ k41.C w A4 x.f4.length x.f4 ∧ x.f5.length ≤ c5 ∧ k41.C w A5 x.f5.length x.f5 := by
 obtain ⟨n, h⟩ := h; cases n with
 | zero => exact h.elim
 | succ n =>
  obtain ⟨_, _, rfl, rfl, ⟨_, _, rfl, rfl, ⟨_, _, rfl, rfl, ⟨_, _, rfl, ⟨A3, c3, rfl, l3, g3⟩, ⟨_, _, rfl, ⟨A4, c4, rfl, l4, g4⟩, ⟨A5, c5, rfl, l5, g5⟩⟩⟩⟩⟩⟩ := h; exact ⟨A3, c3, A4, c4, A5, c5, rfl, l3, g3, l4, Kd.fix_C g4, l5, Kd.fix_C g5⟩
theorem k41_mk (w : World) (x : S41) {A3 : Option Addr} {c3 : Nat} (l3 : x.f3.length ≤ c3) (g3 : k38.C w A3 x.f3.length x.f3) {A4 : Option Addr} {c4 : Nat} (l4 : x.f4.length ≤ c4) (g4 : k41.C w A4 x.f4.length x.f4) {A5 : Option Addr} {c5 : Nat} (l5 : x.f5.length ≤ c5) (g5 : k41.C w A5 x.f5.length x.f5) : k41.K w x [.int .i64 x.f0, .string x.f1, .int .i64 x.f2, .slice A3 x.f3.length c3, .slice A4 x.f4.length c4, .slice A5 x.f5.length c5] := by
 obtain ⟨n4, q4⟩ := Kd.fix_C_back mono41 g4; obtain ⟨n5, q5⟩ := Kd.fix_C_back mono41 g5; have r4 := Kd.upto_C_le mono41 sz41 (show n4 ≤ (max n4 n5) by omega) q4
 have r5 := Kd.upto_C_le mono41 sz41 (show n5 ≤ (max n4 n5) by omega) q5
 exact ⟨(max n4 n5) + 1, ⟨[.int .i64 x.f0], [.string x.f1, .int .i64 x.f2, .slice A3 x.f3.length c3, .slice A4 x.f4.length c4, .slice A5 x.f5.length c5], rfl, rfl, ⟨[.string x.f1], [.int .i64 x.f2, .slice A3 x.f3.length c3, .slice A4 x.f4.length c4, .slice A5 x.f5.length c5], rfl, rfl, ⟨[.int .i64 x.f2], [.slice A3 x.f3.length c3, .slice A4 x.f4.length c4, .slice A5 x.f5.length c5], rfl, rfl, ⟨[.slice A3 x.f3.length c3], [.slice A4 x.f4.length c4, .slice A5 x.f5.length c5], rfl, ⟨A3, c3, rfl, l3, g3⟩, ⟨[.slice A4 x.f4.length c4], [.slice A5 x.f5.length c5], rfl, ⟨A4, c4, rfl, l4, r4⟩, ⟨A5, c5, rfl, l5, r5⟩⟩⟩⟩⟩⟩⟩
def rd_T41 (xs : List S41) (i : Int) : S41 := xs.getD i.toNat z41
theorem at_T41 {w : World} {A : Option Addr} {n : Nat} {xs : List S41} (h : Kd.C k41 w A n xs) (i : Int) (h0 : 0 ≤ i) (h1 : i < n) : ∃ ad A3 c3 A4 c4 A5 c5, A = some ad ∧ w.cell? (ad.add (i.toNat * 6)) = some (.int .i64 (rd_T41 xs i).f0) ∧ w.cell? ⟨(ad.add (i.toNat * 6)).block, (ad.add (i.toNat * 6)).off + 1, none⟩ = some (.string (rd_T41 xs i).f1) ∧ w.cell? ⟨(ad.add (i.toNat * 6)).block, (ad.add (i.toNat * 6)).off + 2, none⟩ = some (.int .i64 (rd_T41 xs i).f2) ∧ w.cell? ⟨(ad.add (i.toNat * 6)).block, (ad.add (i.toNat * 6)).off + 3, none⟩ = some (.slice A3 (rd_T41 xs i).f3.length c3) ∧ w.cell? ⟨(ad.add (i.toNat * 6)).block, (ad.add (i.toNat * 6)).off + 4, none⟩ = some (.slice A4 (rd_T41 xs i).f4.length c4) ∧ w.cell? ⟨(ad.add (i.toNat * 6)).block, (ad.add (i.toNat * 6)).off + 5, none⟩ = some (.slice A5 (rd_T41 xs i).f5.length c5) ∧ (rd_T41 xs i).f3.length ≤ c3 ∧ k38.C w A3 (rd_T41 xs i).f3.length (rd_T41 xs i).f3 ∧ (rd_T41 xs i).f4.length ≤ c4 ∧ k41.C w A4 (rd_T41 xs i).f4.length (rd_T41 xs i).f4 ∧ (rd_T41 xs i).f5.length ≤ c5 ∧ k41.C w A5 (rd_T41 xs i).f5.length (rd_T41 xs i).f5 := by
 obtain ⟨ad, c, e, _, hK, hc0⟩ := Kd.C_get h z41 i h0 h1; have hc : ∀ j u, c[j]? = some u → w.cell? (ad.add (i.toNat * 6 + j)) = some u := hc0; obtain ⟨A3, c3, A4, c4, A5, c5, rfl, l3, g3, l4, g4, l5, g5⟩ := k41_open hK; exact ⟨ad, A3, c3, A4, c4, A5, c5, e, hc 0 _ rfl, z_14, z_15, z_16, by rw [← add_field _ _ 4 (by omega)]; exact hc 4 _ rfl, by rw [← add_field _ _ 5 (by omega)]; exact hc 5 _ rfl, l3, g3, l4, g4, l5, g5⟩
structure S70 where
 f0 : ByteArray
 f1 : Int
def z70 : S70 := ⟨(⟨#[]⟩ : ByteArray), (0 : Int)⟩
def k70 : Kd S70 := Kd.iso (Kd.pair Kd.string (Kd.int .i64)) (fun x : S70 => (x.f0, x.f1))
theorem k70_open {w : World} {x : S70} {cs : List Value} (h : k70.K w x cs) : cs = [.string x.f0, .int .i64 x.f1] := by
 obtain ⟨_, _, rfl, rfl, rfl⟩ := h; exact rfl
theorem k70_mkM (w : World) (base : Nat) (ok : Nat → Prop) (x : S70)  : k70.M w base ok x [.string x.f0, .int .i64 x.f1] := ⟨[.string x.f0], [.int .i64 x.f1], rfl, rfl, rfl⟩
def rd_T70 (xs : List S70) (i : Int) : S70 := xs.getD i.toNat z70
theorem at_T70 {w : World} {A : Option Addr} {n : Nat} {xs : List S70} (h : Kd.C k70 w A n xs) (i : Int) (h0 : 0 ≤ i) (h1 : i < n) : ∃ ad , A = some ad ∧ w.cell? (ad.add (i.toNat * 2)) = some (.string (rd_T70 xs i).f0) ∧ w.cell? ⟨(ad.add (i.toNat * 2)).block, (ad.add (i.toNat * 2)).off + 1, none⟩ = some (.int .i64 (rd_T70 xs i).f1) := by
 obtain ⟨ad, c, e, _, hK, hc0⟩ := Kd.C_get h z70 i h0 h1; have hc : ∀ j u, c[j]? = some u → w.cell? (ad.add (i.toNat * 2 + j)) = some u := hc0; obtain rfl := k70_open hK; exact ⟨ad, e, hc 0 _ rfl, z_14⟩
mutual
def outriderref04_Count.l0 : Nat → Int → Int → Int → Int → ByteArray → Int → List (S38) → Option (Int)
 | 0, _, _, _, _, _, _, _ => none
 | k + 1, x3, x4, x102000, x102001, x102002, x102003, x102004 => if x4 < (x102004.length : Int) then (if 0 ≤ x4 then ((outriderref04_Count.f k ((rd_T38 x102004 x4).f0) ((rd_T38 x102004 x4).f1) ((rd_T38 x102004 x4).f2) ((rd_T38 x102004 x4).f3) ((rd_T38 x102004 x4).f4)).bind fun t103 => (outriderref04_Count.l0 k (wrap64 (x3 + t103)) (wrap64 (x4 + 1)) x102000 x102001 x102002 x102003 x102004)) else (none)) else (some x3)
def outriderref04_Count.f : Nat → Int → Int → ByteArray → Int → List (S38) → Option (Int)
 | 0, _, _, _, _, _ => none
 | k + 1, a0_0, a0_1, a0_2, a0_3, l0_4 => outriderref04_Count.l0 k 1 0 a0_0 a0_1 a0_2 a0_3 l0_4
end
theorem outriderref04_Count.mono_l : ∀ k, (∀ y0 y1 y2 y3 y4, LeO (outriderref04_Count.f k y0 y1 y2 y3 y4) (outriderref04_Count.f (k + 1) y0 y1 y2 y3 y4)) ∧ (∀ y0 y1 y2 y3 y4 y5 y6, LeO (outriderref04_Count.l0 k y0 y1 y2 y3 y4 y5 y6) (outriderref04_Count.l0 (k + 1) y0 y1 y2 y3 y4 y5 y6))
 | 0 => ⟨fun _ _ _ _ _ r h => by simp [outriderref04_Count.f] at h, fun _ _ _ _ _ _ _ r h => by simp [outriderref04_Count.l0] at h⟩
 | k + 1 => by
  obtain ⟨ih0, ih1⟩ := outriderref04_Count.mono_l k; refine ⟨?_, ?_⟩
  ·intro y0 y1 y2 y3 y4
   unfold outriderref04_Count.f
   repeat' first
   | with_reducible first | exact ih0 _ _ _ _ _ | exact ih1 _ _ _ _ _ _ _ | exact LeO.refl _ | exact LeO.none _ | refine LeO.ite ?_ ?_ | refine LeO.bind ?_ (fun _ => ?_)
   | exact ih0 _ _ _ _ _
   | exact ih1 _ _ _ _ _ _ _
   | exact LeO.none _
   | refine LeO.ite ?_ ?_
   | refine LeO.bind ?_ (fun _ => ?_)
  ·intro y0 y1 y2 y3 y4 y5 y6
   unfold outriderref04_Count.l0
   repeat' first
   | with_reducible first | exact ih0 _ _ _ _ _ | exact ih1 _ _ _ _ _ _ _ | exact LeO.refl _ | exact LeO.none _ | refine LeO.ite ?_ ?_ | refine LeO.bind ?_ (fun _ => ?_)
   | exact ih0 _ _ _ _ _
   | exact ih1 _ _ _ _ _ _ _
   | exact LeO.none _
   | refine LeO.ite ?_ ?_
   | refine LeO.bind ?_ (fun _ => ?_)
theorem outriderref04_Count.mono : ∀ a0 a1 a2 a3 a4 k, LeO (outriderref04_Count.f k a0 a1 a2 a3 a4) (outriderref04_Count.f (k + 1) a0 a1 a2 a3 a4) := by
 intro a0 a1 a2 a3 a4 k; obtain ⟨ih0, ih1⟩ := outriderref04_Count.mono_l k; exact ih0 a0 a1 a2 a3 a4
theorem outriderref04_Count.calls (k : Nat) : ∀ (a0_0 : Int) (a0_1 : Int) (a0_2 : ByteArray) (a0_3 : Int) (A0_4 : Option Addr) (c0_4 : Nat) (l0_4 : List (S38)) (r : Int) (w : World) (hr0_4 : Kd.C k38 w A0_4 l0_4.length l0_4) (hc0_4 : l0_4.length ≤ c0_4) (h : outriderref04_Count.f k a0_0 a0_1 a0_2 a0_3 l0_4 = some r),
  Calls Try.prog 56 #[.agg #[.int .i64 a0_0, .int .i64 a0_1, .string a0_2, .int .i64 a0_3, .slice A0_4 l0_4.length c0_4]] w fun e w' => e = .returned (.int .i64 r) ∧ Below w.heap.size w w' := by
 induction k using Nat.strongRecOn with
 | _ k ih =>
 intro a0_0 a0_1 a0_2 a0_3 A0_4 c0_4 l0_4 r w hr0_4 hc0_4 h; cases k with
 | zero => exact absurd h (by simp [outriderref04_Count.f])
 | succ k =>
 simp only [outriderref04_Count.f] at h; have hu38 := Try.underlying38; have HR0_4 := A_0 hr0_4; have HC0_4 := A_0 hc0_4; clear hr0_4 hc0_4; have HB := A_0 (xbr w.heap.size w); have H : (outriderref04_Count.l0 k 1 0 a0_0 a0_1 a0_2 a0_3 l0_4) = some r := h; clear h; have H' := A_0 H; clear H
 go_enter Try.func56, Try.ntmps56
 go_wp2_with (first | ((with_reducible refine gate_dst (N := 1) rfl ?_); refine bx (a38 a0_0 a0_1 a0_2 a0_3 A0_4 l0_4.length c0_4) 38 ?_; intro gb101 hg w2 hbox hb; have BK101 := A_0 (hbox); have GW101 := A_0 ((z_17 : w.heap.size ≤ gb101)); have GE101 := A_0 ((z_17 : w.heap.size ≤ gb101)); replace HB := A_0 (xbs (z_12) hb); clear hb hbox hg))
 go_loopg [3, 4] k (fun kq v3 v4 w' => ∃ (x3_1 : Int) (x4_1 : Int), v3 = .int .i64 x3_1 ∧ v4 = .int .i64 x4_1 ∧ Aside0 (outriderref04_Count.l0 kq x3_1 x4_1 a0_0 a0_1 a0_2 a0_3 l0_4 = some r) ∧ Aside0 (kq ≤ k) ∧ Aside0 (w'.heap[gb101]? = some (.cells #[.int .i64 a0_0, .int .i64 a0_1, .string a0_2, .int .i64 a0_3, (.slice A0_4 l0_4.length c0_4)] 38 (0, 0))) ∧ Aside0 (Below w.heap.size w w'))
 case atStart => exact ⟨(1), (0), (z_18), (z_18), H', ⟨xlr _⟩, ⟨z_19⟩, ⟨z_20⟩⟩
 case round =>
  clear H'; obtain ⟨x3_1, x4_1, rfl, rfl, HA, HK1, BK101, HB⟩ := hrel; cases gk with
  | zero => exact absurd HA.out (by simp [outriderref04_Count.l0])
  | succ k1 =>
   have H := HA.out; clear HA; simp only [outriderref04_Count.l0] at H; by_cases c3 : x4_1 < (l0_4.length : Int)
   ·rw [if_pos c3] at H
    have c3b0 := xdt c3; clear c3; by_cases c4 : 0 ≤ x4_1
    ·rw [if_pos c4] at H
     have c4b0 := xdt c4; clear c4; replace H := Option.bind_eq_some_iff.mp H; obtain ⟨t103, A50, H⟩ := H; replace H : (outriderref04_Count.l0 k1 (wrap64 (x3_1 + t103)) (wrap64 (x4_1 + 1)) a0_0 a0_1 a0_2 a0_3 l0_4) = some r := H; have A5 := A_0 A50; clear A50; have H' := A_0 H; clear H; obtain ⟨hcz6_0, hcz6_1, hcz6_2, hcz6_3, hcz6_4⟩ := blkc5 BK101.out; obtain ⟨hfz6_0, hfz6_1, hfz6_2, hfz6_3, hfz6_4⟩ := blkf5 BK101.out; have p102 : 0 ≤ (x4_1 : Int) := xod (z_21); have q102 : x4_1 < (l0_4.length : Int) := xod (z_21); obtain ⟨ad102, A102_4, c102_4, e102, hx102_0, hx102_1, hx102_2, hx102_3, hx102_4, hl102_4, hi102_4⟩ := at_T38 HR0_4.out x4_1 p102 q102; cases e102; replace hx102_0 := (HB.out.cell (xqb w _ hx102_0)).trans hx102_0; replace hx102_1 := (HB.out.cell (xqb w _ hx102_1)).trans hx102_1; replace hx102_2 := (HB.out.cell (xqb w _ hx102_2)).trans hx102_2; replace hx102_3 := (HB.out.cell (xqb w _ hx102_3)).trans hx102_3; replace hx102_4 := (HB.out.cell (xqb w _ hx102_4)).trans hx102_4; have HR102_4 := A_0 hi102_4; have HC102_4 := A_0 hl102_4; clear hi102_4 hl102_4; replace p102 := eq_true p102; replace q102 := eq_true q102
     go_wp2_with (first | ((with_reducible refine gate_callee (f := 56) rfl ?_); refine goesL_ (some 18) rfl rfl Try.func56 (by kernel_rfl) rfl #[.agg #[.int .i64 ((rd_T38 l0_4 x4_1).f0), .int .i64 ((rd_T38 l0_4 x4_1).f1), .string ((rd_T38 l0_4 x4_1).f2), .int .i64 ((rd_T38 l0_4 x4_1).f3), .slice A102_4 ((rd_T38 l0_4 x4_1).f4).length c102_4]] rfl (z_22) ?_; (with_reducible refine (ih k1 (by have := HK1.out; omega) ((rd_T38 l0_4 x4_1).f0) ((rd_T38 l0_4 x4_1).f1) ((rd_T38 l0_4 x4_1).f2) ((rd_T38 l0_4 x4_1).f3) _ _ ((rd_T38 l0_4 x4_1).f4) t103 _ ?side1 ?side2 A5.out).mono ?_); (case side1 => repeat (first | exact (Kd.C_below HR102_4.out HB.out) | (with_reducible refine Kd.C_alloc ?_ _) | (with_reducible refine Kd.C_drewN ?_ _) | (with_reducible refine Kd.C_drew ?_))); (case side2 => exact HC102_4.out); rintro e w7 ⟨rfl, hb⟩; refine ⟨_, rfl, ?_⟩; replace BK101 := A_0 (blk_below (g := gb101) (o := b38 a0_0 a0_1 a0_2 a0_3 (some ad102) l0_4.length c0_4) (z_19) hb); replace HB := A_0 (xbs (z_20) hb); (try clear hb); (try clear hb2); (try clear hk); (try clear hi)))
     go_roundg k1
     case measure => have := HK1.out; omega
     case rel => exact ⟨(wrap64 (x3_1 + t103)), (wrap64 (x4_1 + 1)), (z_18), (z_18), H', ⟨by have := HK1.out; omega⟩, ⟨z_19⟩, ⟨z_20⟩⟩
    ·rw [if_neg c4] at H
     exact z_23
   ·rw [if_neg c3] at H
    have c3b0 := xdf c3; clear c3; obtain rfl := xsi H; obtain ⟨hcz8_0, hcz8_1, hcz8_2, hcz8_3, hcz8_4⟩ := blkc5 BK101.out; obtain ⟨hfz8_0, hfz8_1, hfz8_2, hfz8_3, hfz8_4⟩ := blkf5 BK101.out
    go_wp2
    go_ret
    exact ⟨z_24, z_20⟩
mutual
def outriderref04_Nodes.l0 : Nat → List (S41) → Int → Int → Option (Int)
 | 0, _, _, _ => none
 | k + 1, x0, x3, x4 => if x4 < (x0.length : Int) then (outriderref04_Nodes.l1 k x0 x3 x4 0) else (some x3)
def outriderref04_Nodes.l1 : Nat → List (S41) → Int → Int → Int → Option (Int)
 | 0, _, _, _, _ => none
 | k + 1, x0, x3, x4, x5 => if 0 ≤ x4 then (if x4 < (x0.length : Int) then (if x5 < (((rd_T41 x0 x4).f3).length : Int) then (if 0 ≤ x5 then ((outriderref04_Count.f k ((rd_T38 ((rd_T41 x0 x4).f3) x5).f0) ((rd_T38 ((rd_T41 x0 x4).f3) x5).f1) ((rd_T38 ((rd_T41 x0 x4).f3) x5).f2) ((rd_T38 ((rd_T41 x0 x4).f3) x5).f3) ((rd_T38 ((rd_T41 x0 x4).f3) x5).f4)).bind fun t107 => (outriderref04_Nodes.l1 k x0 (wrap64 (x3 + t107)) x4 (wrap64 (x5 + 1)))) else (none)) else ((outriderref04_Nodes.f k ((rd_T41 x0 x4).f4)).bind fun t109 => ((outriderref04_Nodes.f k ((rd_T41 x0 x4).f5)).bind fun t111 => (outriderref04_Nodes.l0 k x0 (wrap64 (x3 + (wrap64 (t109 + t111)))) (wrap64 (x4 + 1)))))) else (none)) else (none)
def outriderref04_Nodes.f : Nat → List (S41) → Option (Int)
 | 0, _ => none
 | k + 1, l0 => outriderref04_Nodes.l0 k l0 (l0.length : Int) 0
end
theorem outriderref04_Nodes.mono_l : ∀ k, (∀ y0, LeO (outriderref04_Nodes.f k y0) (outriderref04_Nodes.f (k + 1) y0)) ∧ (∀ y0 y1 y2, LeO (outriderref04_Nodes.l0 k y0 y1 y2) (outriderref04_Nodes.l0 (k + 1) y0 y1 y2)) ∧ (∀ y0 y1 y2 y3, LeO (outriderref04_Nodes.l1 k y0 y1 y2 y3) (outriderref04_Nodes.l1 (k + 1) y0 y1 y2 y3))
 | 0 => ⟨fun _ r h => by simp [outriderref04_Nodes.f] at h, fun _ _ _ r h => by simp [outriderref04_Nodes.l0] at h, fun _ _ _ _ r h => by simp [outriderref04_Nodes.l1] at h⟩
 | k + 1 => by
  obtain ⟨ih0, ih1, ih2⟩ := outriderref04_Nodes.mono_l k; refine ⟨?_, ?_, ?_⟩
  ·intro y0
   unfold outriderref04_Nodes.f
   repeat' first
   | with_reducible first | exact ih0 _ | exact ih1 _ _ _ | exact ih2 _ _ _ _ | exact outriderref04_Count.mono _ _ _ _ _ _ | exact LeO.refl _ | exact LeO.none _ | refine LeO.ite ?_ ?_ | refine LeO.bind ?_ (fun _ => ?_)
   | exact ih0 _
   | exact ih1 _ _ _
   | exact ih2 _ _ _ _
   | exact outriderref04_Count.mono _ _ _ _ _ _
   | exact LeO.none _
   | refine LeO.ite ?_ ?_
   | refine LeO.bind ?_ (fun _ => ?_)
  ·intro y0 y1 y2
   unfold outriderref04_Nodes.l0
   repeat' first
   | with_reducible first | exact ih0 _ | exact ih1 _ _ _ | exact ih2 _ _ _ _ | exact outriderref04_Count.mono _ _ _ _ _ _ | exact LeO.refl _ | exact LeO.none _ | refine LeO.ite ?_ ?_ | refine LeO.bind ?_ (fun _ => ?_)
   | exact ih0 _
   | exact ih1 _ _ _
   | exact ih2 _ _ _ _
   | exact outriderref04_Count.mono _ _ _ _ _ _
   | exact LeO.none _
   | refine LeO.ite ?_ ?_
   | refine LeO.bind ?_ (fun _ => ?_)
  ·intro y0 y1 y2 y3
   unfold outriderref04_Nodes.l1
   repeat' first
   | with_reducible first | exact ih0 _ | exact ih1 _ _ _ | exact ih2 _ _ _ _ | exact outriderref04_Count.mono _ _ _ _ _ _ | exact LeO.refl _ | exact LeO.none _ | refine LeO.ite ?_ ?_ | refine LeO.bind ?_ (fun _ => ?_)
   | exact ih0 _
   | exact ih1 _ _ _
   | exact ih2 _ _ _ _
   | exact outriderref04_Count.mono _ _ _ _ _ _
   | exact LeO.none _
   | refine LeO.ite ?_ ?_
   | refine LeO.bind ?_ (fun _ => ?_)
def outriderref04_Nodes.T9 : Bool × List (List Nat × List Nat) := (true, [([], []), ([], []), ([], []), ([1, 2], [1, 2]), ([3], [3]), ([4], [4]), ([5], [5]), ([], []), ([], []), ([7, 8], [7, 8]), ([9], [9]), ([10], [10]), ([11, 6], [11]), ([6, 12], [6, 12]), ([0, 13], [0, 13]), ([14, 12, 0, 1, 2, 3, 4, 5, 6, 7, 8, 9, 10, 11, 12, 13, 14], [0, 14])])
def outriderref04_Nodes.B9 : List Nat := [0, 0, 0, 6, 14, 30, 62, 0, 0, 384, 896, 1920, 4094, 8190, 16383, 32767]
theorem outriderref04_Nodes.tab9 : rtab .any (opsOf Try.f35 9) = outriderref04_Nodes.T9 := by kernel_rfl
theorem outriderref04_Nodes.bits9 : waitsOk outriderref04_Nodes.T9.2 outriderref04_Nodes.B9 = true := by kernel_rfl
theorem outriderref04_Nodes.calls (k : Nat) : ∀ (A0 : Option Addr) (c0 : Nat) (l0 : List (S41)) (r : Int) (w : World) (hr0 : Kd.C k41 w A0 l0.length l0) (hc0 : l0.length ≤ c0) (h : outriderref04_Nodes.f k l0 = some r),
  Calls Try.prog 35 #[.slice A0 l0.length c0] w fun e w' => e = .returned (.int .i64 r) ∧ Below w.heap.size w w' := by
 induction k using Nat.strongRecOn with
 | _ k ih =>
 intro A0 c0 l0 r w hr0 hc0 h; cases k with
 | zero => exact absurd h (by simp [outriderref04_Nodes.f])
 | succ k =>
 simp only [outriderref04_Nodes.f] at h; have hu38 := Try.underlying38; have HR0 := A_0 hr0; have HC0 := A_0 hc0; clear hr0 hc0; have HB := A_0 (xbr w.heap.size w); have H : (outriderref04_Nodes.l0 k l0 (l0.length : Int) 0) = some r := h; clear h; have H' := A_0 H; clear H
 go_enter Try.func35, Try.ntmps35
 go_wp2
 go_loopg [3, 4] k (fun kq v3 v4 w' => ∃ (x3_1 : Int) (x4_1 : Int), v3 = .int .i64 x3_1 ∧ v4 = .int .i64 x4_1 ∧ Aside0 (outriderref04_Nodes.l0 kq l0 x3_1 x4_1 = some r) ∧ Aside0 (kq ≤ k) ∧ Aside0 (Below w.heap.size w w'))
 case atStart => exact ⟨((l0.length : Int)), (0), (z_18), (z_18), H', ⟨xlr _⟩, ⟨z_12⟩⟩
 case round =>
  clear H'; obtain ⟨x3_1, x4_1, rfl, rfl, HA, HK1, HB⟩ := hrel; cases gk with
  | zero => exact absurd HA.out (by simp [outriderref04_Nodes.l0])
  | succ k1 =>
   have H := HA.out; clear HA; simp only [outriderref04_Nodes.l0] at H; by_cases c2 : x4_1 < (l0.length : Int)
   ·rw [if_pos c2] at H
    have c2b0 := xdt c2; clear c2; have H' := A_0 H; clear H
    go_wp2
    go_loopg [3, 5] k1 (fun kq v3 v5 w' => ∃ (x3_2 : Int) (x5_2 : Int), v3 = .int .i64 x3_2 ∧ v5 = .int .i64 x5_2 ∧ Aside0 (outriderref04_Nodes.l1 kq l0 x3_2 x4_1 x5_2 = some r) ∧ Aside0 (kq ≤ k1) ∧ Aside0 (Below w.heap.size w w'))
    case atStart => exact ⟨(x3_1), (0), (z_18), (z_18), H', ⟨xlr _⟩, ⟨z_12⟩⟩
    case round =>
     clear H' c2b0; obtain ⟨x3_2, x5_2, rfl, rfl, HA, HK2, HB⟩ := hrel; cases gk with
     | zero => exact absurd HA.out (by simp [outriderref04_Nodes.l1])
     | succ k2 =>
      have H := HA.out; clear HA; simp only [outriderref04_Nodes.l1] at H; by_cases c3 : 0 ≤ x4_1
      ·rw [if_pos c3] at H
       have c3b0 := xdt c3; clear c3; by_cases c4 : x4_1 < (l0.length : Int)
       ·rw [if_pos c4] at H
        have c4b0 := xdt c4; clear c4; by_cases c5 : x5_2 < (((rd_T41 l0 x4_1).f3).length : Int)
        ·rw [if_pos c5] at H
         have c5b0 := xdt c5; clear c5; by_cases c6 : 0 ≤ x5_2
         ·rw [if_pos c6] at H
          have c6b0 := xdt c6; clear c6; replace H := Option.bind_eq_some_iff.mp H; obtain ⟨t107, A70, H⟩ := H; replace H : (outriderref04_Nodes.l1 k2 l0 (wrap64 (x3_2 + t107)) x4_1 (wrap64 (x5_2 + 1))) = some r := H; have A7 := A_0 A70; clear A70; have H' := A_0 H; clear H; have p104 : 0 ≤ (x4_1 : Int) := xod (z_21); have q104 : x4_1 < (l0.length : Int) := xod (z_21); obtain ⟨ad104, A104_3, c104_3, A104_4, c104_4, A104_5, c104_5, e104, hx104_0, hx104_1, hx104_2, hx104_3, hx104_4, hx104_5, hl104_3, hi104_3, hl104_4, hi104_4, hl104_5, hi104_5⟩ := at_T41 HR0.out x4_1 p104 q104; cases e104; replace hx104_0 := (HB.out.cell (xqb w _ hx104_0)).trans hx104_0; replace hx104_1 := (HB.out.cell (xqb w _ hx104_1)).trans hx104_1; replace hx104_2 := (HB.out.cell (xqb w _ hx104_2)).trans hx104_2; replace hx104_3 := (HB.out.cell (xqb w _ hx104_3)).trans hx104_3; replace hx104_4 := (HB.out.cell (xqb w _ hx104_4)).trans hx104_4; replace hx104_5 := (HB.out.cell (xqb w _ hx104_5)).trans hx104_5; have HR104_3 := A_0 hi104_3; have HC104_3 := A_0 hl104_3; clear hi104_3 hl104_3; have HR104_4 := A_0 hi104_4; have HC104_4 := A_0 hl104_4; clear hi104_4 hl104_4; have HR104_5 := A_0 hi104_5; have HC104_5 := A_0 hl104_5; clear hi104_5 hl104_5; replace p104 := eq_true p104; replace q104 := eq_true q104; have p105 : 0 ≤ (x4_1 : Int) := xod (z_21); have q105 : x4_1 < (l0.length : Int) := xod (z_21); obtain ⟨ad105, A105_3, c105_3, A105_4, c105_4, A105_5, c105_5, e105, hx105_0, hx105_1, hx105_2, hx105_3, hx105_4, hx105_5, hl105_3, hi105_3, hl105_4, hi105_4, hl105_5, hi105_5⟩ := at_T41 HR0.out x4_1 p105 q105; obtain rfl : ad104 = ad105 := (by injection e105); replace hx105_0 := (HB.out.cell (xqb w _ hx105_0)).trans hx105_0; replace hx105_1 := (HB.out.cell (xqb w _ hx105_1)).trans hx105_1; replace hx105_2 := (HB.out.cell (xqb w _ hx105_2)).trans hx105_2; replace hx105_3 := (HB.out.cell (xqb w _ hx105_3)).trans hx105_3; replace hx105_4 := (HB.out.cell (xqb w _ hx105_4)).trans hx105_4; replace hx105_5 := (HB.out.cell (xqb w _ hx105_5)).trans hx105_5; have HR105_3 := A_0 hi105_3; have HC105_3 := A_0 hl105_3; clear hi105_3 hl105_3; have HR105_4 := A_0 hi105_4; have HC105_4 := A_0 hl105_4; clear hi105_4 hl105_4; have HR105_5 := A_0 hi105_5; have HC105_5 := A_0 hl105_5; clear hi105_5 hl105_5; replace p105 := eq_true p105; replace q105 := eq_true q105; have ea_ := xsi (hx104_3.symm.trans hx105_3); injection ea_ with ea_ en_ ec_; subst ea_; subst ec_; clear en_; have ea_ := xsi (hx104_4.symm.trans hx105_4); injection ea_ with ea_ en_ ec_; subst ea_; subst ec_; clear en_; have ea_ := xsi (hx104_5.symm.trans hx105_5); injection ea_ with ea_ en_ ec_; subst ea_; subst ec_; clear en_; have p106 : 0 ≤ (x5_2 : Int) := xod (z_21); have q106 : x5_2 < (((rd_T41 l0 x4_1).f3).length : Int) := xod (z_21); obtain ⟨ad106, A106_4, c106_4, e106, hx106_0, hx106_1, hx106_2, hx106_3, hx106_4, hl106_4, hi106_4⟩ := at_T38 HR105_3.out x5_2 p106 q106; cases e106; replace hx106_0 := (HB.out.cell (xqb w _ hx106_0)).trans hx106_0; replace hx106_1 := (HB.out.cell (xqb w _ hx106_1)).trans hx106_1; replace hx106_2 := (HB.out.cell (xqb w _ hx106_2)).trans hx106_2; replace hx106_3 := (HB.out.cell (xqb w _ hx106_3)).trans hx106_3; replace hx106_4 := (HB.out.cell (xqb w _ hx106_4)).trans hx106_4; have HR106_4 := A_0 hi106_4; have HC106_4 := A_0 hl106_4; clear hi106_4 hl106_4; replace p106 := eq_true p106; replace q106 := eq_true q106
          go_wp2_with (first | ((with_reducible refine gate_callee (f := 56) rfl ?_); refine goesL_ (some 33) rfl rfl Try.func56 (by kernel_rfl) rfl #[.agg #[.int .i64 ((rd_T38 ((rd_T41 l0 x4_1).f3) x5_2).f0), .int .i64 ((rd_T38 ((rd_T41 l0 x4_1).f3) x5_2).f1), .string ((rd_T38 ((rd_T41 l0 x4_1).f3) x5_2).f2), .int .i64 ((rd_T38 ((rd_T41 l0 x4_1).f3) x5_2).f3), .slice A106_4 ((rd_T38 ((rd_T41 l0 x4_1).f3) x5_2).f4).length c106_4]] rfl (z_22) ?_; (with_reducible refine (outriderref04_Count.calls k2 ((rd_T38 ((rd_T41 l0 x4_1).f3) x5_2).f0) ((rd_T38 ((rd_T41 l0 x4_1).f3) x5_2).f1) ((rd_T38 ((rd_T41 l0 x4_1).f3) x5_2).f2) ((rd_T38 ((rd_T41 l0 x4_1).f3) x5_2).f3) _ _ ((rd_T38 ((rd_T41 l0 x4_1).f3) x5_2).f4) t107 _ ?side1 ?side2 A7.out).mono ?_); (case side1 => repeat (first | exact (Kd.C_below HR106_4.out HB.out) | (with_reducible refine Kd.C_alloc ?_ _) | (with_reducible refine Kd.C_drewN ?_ _) | (with_reducible refine Kd.C_drew ?_))); (case side2 => exact HC106_4.out); rintro e w8 ⟨rfl, hb⟩; refine ⟨_, rfl, ?_⟩; replace HB := A_0 (xbs (z_12) hb); (try clear hb); (try clear hb2); (try clear hk); (try clear hi)))
          go_roundg k2
          case measure => have := HK1.out; have := HK2.out; omega
          case rel => exact ⟨(wrap64 (x3_2 + t107)), (wrap64 (x5_2 + 1)), (z_18), (z_18), H', ⟨z_25⟩, ⟨z_12⟩⟩
         ·rw [if_neg c6] at H
          exact z_23
        ·rw [if_neg c5] at H
         have c5b0 := xdf c5; clear c5; replace H := Option.bind_eq_some_iff.mp H; obtain ⟨t109, A90, H⟩ := H; replace H : ((outriderref04_Nodes.f k2 ((rd_T41 l0 x4_1).f5)).bind fun t111 => (outriderref04_Nodes.l0 k2 l0 (wrap64 (x3_2 + (wrap64 (t109 + t111)))) (wrap64 (x4_1 + 1)))) = some r := H; have A9 := A_0 A90; clear A90; replace H := Option.bind_eq_some_iff.mp H; obtain ⟨t111, A100, H⟩ := H; replace H : (outriderref04_Nodes.l0 k2 l0 (wrap64 (x3_2 + (wrap64 (t109 + t111)))) (wrap64 (x4_1 + 1))) = some r := H; have A10 := A_0 A100; clear A100; have H' := A_0 H; clear H; have p104 : 0 ≤ (x4_1 : Int) := xod (z_21); have q104 : x4_1 < (l0.length : Int) := xod (z_21); obtain ⟨ad104, A104_3, c104_3, A104_4, c104_4, A104_5, c104_5, e104, hx104_0, hx104_1, hx104_2, hx104_3, hx104_4, hx104_5, hl104_3, hi104_3, hl104_4, hi104_4, hl104_5, hi104_5⟩ := at_T41 HR0.out x4_1 p104 q104; cases e104; replace hx104_0 := (HB.out.cell (xqb w _ hx104_0)).trans hx104_0; replace hx104_1 := (HB.out.cell (xqb w _ hx104_1)).trans hx104_1; replace hx104_2 := (HB.out.cell (xqb w _ hx104_2)).trans hx104_2; replace hx104_3 := (HB.out.cell (xqb w _ hx104_3)).trans hx104_3; replace hx104_4 := (HB.out.cell (xqb w _ hx104_4)).trans hx104_4; replace hx104_5 := (HB.out.cell (xqb w _ hx104_5)).trans hx104_5; have HR104_3 := A_0 hi104_3; have HC104_3 := A_0 hl104_3; clear hi104_3 hl104_3; have HR104_4 := A_0 hi104_4; have HC104_4 := A_0 hl104_4; clear hi104_4 hl104_4; have HR104_5 := A_0 hi104_5; have HC104_5 := A_0 hl104_5; clear hi104_5 hl104_5; replace p104 := eq_true p104; replace q104 := eq_true q104
         try go_wp2
         replace HB := A_0 (below_drew1 HB.out); have p108 : 0 ≤ (x4_1 : Int) := xod (z_21); have q108 : x4_1 < (l0.length : Int) := xod (z_21); obtain ⟨ad108, A108_3, c108_3, A108_4, c108_4, A108_5, c108_5, e108, hx108_0, hx108_1, hx108_2, hx108_3, hx108_4, hx108_5, hl108_3, hi108_3, hl108_4, hi108_4, hl108_5, hi108_5⟩ := at_T41 HR0.out x4_1 p108 q108; have hw108_5 := hx108_5; have hw108_4 := hx108_4; have hw108_3 := hx108_3; have hw108_2 := hx108_2; have hw108_1 := hx108_1; have hw108_0 := hx108_0; obtain rfl : ad104 = ad108 := (by injection e108); replace hx108_0 := (HB.out.cell (xqb w _ hx108_0)).trans hx108_0; replace hx108_1 := (HB.out.cell (xqb w _ hx108_1)).trans hx108_1; replace hx108_2 := (HB.out.cell (xqb w _ hx108_2)).trans hx108_2; replace hx108_3 := (HB.out.cell (xqb w _ hx108_3)).trans hx108_3; replace hx108_4 := (HB.out.cell (xqb w _ hx108_4)).trans hx108_4; replace hx108_5 := (HB.out.cell (xqb w _ hx108_5)).trans hx108_5; have HR108_3 := A_0 hi108_3; have HC108_3 := A_0 hl108_3; clear hi108_3 hl108_3; have HR108_4 := A_0 hi108_4; have HC108_4 := A_0 hl108_4; clear hi108_4 hl108_4; have HR108_5 := A_0 hi108_5; have HC108_5 := A_0 hl108_5; clear hi108_5 hl108_5; replace p108 := eq_true p108; replace q108 := eq_true q108; have p110 : 0 ≤ (x4_1 : Int) := xod (z_21); have q110 : x4_1 < (l0.length : Int) := xod (z_21); obtain ⟨ad110, A110_3, c110_3, A110_4, c110_4, A110_5, c110_5, e110, hx110_0, hx110_1, hx110_2, hx110_3, hx110_4, hx110_5, hl110_3, hi110_3, hl110_4, hi110_4, hl110_5, hi110_5⟩ := at_T41 HR0.out x4_1 p110 q110; have hw110_5 := hx110_5; have hw110_4 := hx110_4; have hw110_3 := hx110_3; have hw110_2 := hx110_2; have hw110_1 := hx110_1; have hw110_0 := hx110_0; obtain rfl : ad104 = ad110 := (by injection e110); replace hx110_0 := (HB.out.cell (xqb w _ hx110_0)).trans hx110_0; replace hx110_1 := (HB.out.cell (xqb w _ hx110_1)).trans hx110_1; replace hx110_2 := (HB.out.cell (xqb w _ hx110_2)).trans hx110_2; replace hx110_3 := (HB.out.cell (xqb w _ hx110_3)).trans hx110_3; replace hx110_4 := (HB.out.cell (xqb w _ hx110_4)).trans hx110_4; replace hx110_5 := (HB.out.cell (xqb w _ hx110_5)).trans hx110_5; have HR110_3 := A_0 hi110_3; have HC110_3 := A_0 hl110_3; clear hi110_3 hl110_3; have HR110_4 := A_0 hi110_4; have HC110_4 := A_0 hl110_4; clear hi110_4 hl110_4; have HR110_5 := A_0 hi110_5; have HC110_5 := A_0 hl110_5; clear hi110_5 hl110_5; replace p110 := eq_true p110; replace q110 := eq_true q110; have ea_ := xsi (hx108_3.symm.trans hx110_3); injection ea_ with ea_ en_ ec_; subst ea_; subst ec_; clear en_; have ea_ := xsi (hx108_4.symm.trans hx110_4); injection ea_ with ea_ en_ ec_; subst ea_; subst ec_; clear en_; have ea_ := xsi (hx108_5.symm.trans hx110_5); injection ea_ with ea_ en_ ec_; subst ea_; subst ec_; clear en_; refine start_ (n := 16) (S := fun w' => w'.cell? (ad104.add ((x4_1).toNat * 6)) = some (.int .i64 ((rd_T41 l0 x4_1).f0)) ∧ w'.cell? ⟨(ad104.add ((x4_1).toNat * 6)).block, (ad104.add ((x4_1).toNat * 6)).off + 1, none⟩ = some (.string ((rd_T41 l0 x4_1).f1)) ∧ w'.cell? ⟨(ad104.add ((x4_1).toNat * 6)).block, (ad104.add ((x4_1).toNat * 6)).off + 2, none⟩ = some (.int .i64 ((rd_T41 l0 x4_1).f2)) ∧ w'.cell? ⟨(ad104.add ((x4_1).toNat * 6)).block, (ad104.add ((x4_1).toNat * 6)).off + 3, none⟩ = some (.slice A108_3 ((rd_T41 l0 x4_1).f3).length c108_3) ∧ w'.cell? ⟨(ad104.add ((x4_1).toNat * 6)).block, (ad104.add ((x4_1).toNat * 6)).off + 4, none⟩ = some (.slice A108_4 ((rd_T41 l0 x4_1).f4).length c108_4) ∧ w'.cell? ⟨(ad104.add ((x4_1).toNat * 6)).block, (ad104.add ((x4_1).toNat * 6)).off + 5, none⟩ = some (.slice A108_5 ((rd_T41 l0 x4_1).f5).length c108_5) ∧ w'.cell? (ad104.add ((x4_1).toNat * 6)) = some (.int .i64 ((rd_T41 l0 x4_1).f0)) ∧ w'.cell? ⟨(ad104.add ((x4_1).toNat * 6)).block, (ad104.add ((x4_1).toNat * 6)).off + 1, none⟩ = some (.string ((rd_T41 l0 x4_1).f1)) ∧ w'.cell? ⟨(ad104.add ((x4_1).toNat * 6)).block, (ad104.add ((x4_1).toNat * 6)).off + 2, none⟩ = some (.int .i64 ((rd_T41 l0 x4_1).f2)) ∧ w'.cell? ⟨(ad104.add ((x4_1).toNat * 6)).block, (ad104.add ((x4_1).toNat * 6)).off + 3, none⟩ = some (.slice A108_3 ((rd_T41 l0 x4_1).f3).length c108_3) ∧ w'.cell? ⟨(ad104.add ((x4_1).toNat * 6)).block, (ad104.add ((x4_1).toNat * 6)).off + 4, none⟩ = some (.slice A108_4 ((rd_T41 l0 x4_1).f4).length c108_4) ∧ w'.cell? ⟨(ad104.add ((x4_1).toNat * 6)).block, (ad104.add ((x4_1).toNat * 6)).off + 5, none⟩ = some (.slice A108_5 ((rd_T41 l0 x4_1).f5).length c108_5)) (ds := []) #[false, false, false, false, false, false, false, false, false, false, false, false, false, false, false, false] (by kernel_rfl) rfl rfl ⟨((HB.out.cell (xqb w _ hw108_0)).trans hw108_0), ((HB.out.cell (xqb w _ hw108_1)).trans hw108_1), ((HB.out.cell (xqb w _ hw108_2)).trans hw108_2), ((HB.out.cell (xqb w _ hw108_3)).trans hw108_3), ((HB.out.cell (xqb w _ hw108_4)).trans hw108_4), ((HB.out.cell (xqb w _ hw108_5)).trans hw108_5), ((HB.out.cell (xqb w _ hw110_0)).trans hw110_0), ((HB.out.cell (xqb w _ hw110_1)).trans hw110_1), ((HB.out.cell (xqb w _ hw110_2)).trans hw110_2), ((HB.out.cell (xqb w _ hw110_3)).trans hw110_3), ((HB.out.cell (xqb w _ hw110_4)).trans hw110_4), ((HB.out.cell (xqb w _ hw110_5)).trans hw110_5)⟩ (fun hHeld => ?_); refine with_tabW outriderref04_Nodes.tab9 outriderref04_Nodes.bits9 (fun HT_ HW_ => ?_); generalize wr.drew = w11 at HB HR108_3 HR108_4 HR108_5 HR110_3 HR110_4 HR110_5 hx108_0 hx108_1 hx108_2 hx108_3 hx108_4 hx108_5 hx110_0 hx110_1 hx110_2 hx110_3 hx110_4 hx110_5 hHeld ⊢; refine pure_ (i := 0) (N := some 35) (v := ?_) (a' := ?_) #[true, false, false, false, false, false, false, false, false, false, false, false, false, false, false, false] rfl rfl (any_of HT_.out (by kernel_rfl)) (fun _ _ _ h => h) (Or.inl ⟨by rfl, ?_⟩) ?_ ?_
         rotate_left
         ·intro w'
          go_simp
          with_reducible rfl
         rotate_left
         ·simp only [Act.put, List.setIfInBounds_toArray, List.set_cons_zero, List.set_cons_succ, i64_w, i32_w]
          rfl
         refine pure_ (i := 1) (N := some 36) (v := ?_) (a' := ?_) #[true, true, false, false, false, false, false, false, false, false, false, false, false, false, false, false] rfl rfl (any_of HT_.out (by kernel_rfl)) (fun _ _ _ h => h) (Or.inl ⟨by rfl, ?_⟩) ?_ ?_
         rotate_left
         ·intro w'
          go_simp
          with_reducible rfl
         rotate_left
         ·simp only [Act.put, List.setIfInBounds_toArray, List.set_cons_zero, List.set_cons_succ, i64_w, i32_w]
          rfl
         refine pure_ (i := 2) (N := some 37) (v := ?_) (a' := ?_) #[true, true, true, false, false, false, false, false, false, false, false, false, false, false, false, false] rfl rfl (any_of HT_.out (by kernel_rfl)) (fun _ _ _ h => h) (Or.inl ⟨by rfl, ?_⟩) ?_ ?_
         rotate_left
         ·intro w'
          go_simp
          with_reducible rfl
         rotate_left
         ·simp only [Act.put, List.setIfInBounds_toArray, List.set_cons_zero, List.set_cons_succ, i64_w, i32_w]
          rfl
         refine pure_ (i := 3) (N := some 38) (v := ?_) (a' := ?_) #[true, true, true, true, false, false, false, false, false, false, false, false, false, false, false, false] rfl rfl (any_of HT_.out (by kernel_rfl)) (fun _ _ _ h => h) (Or.inl ⟨by rfl, ?_⟩) ?_ ?_
         rotate_left
         ·intro w'
          go_simp
          with_reducible rfl
         rotate_left
         ·simp only [Act.put, List.setIfInBounds_toArray, List.set_cons_zero, List.set_cons_succ, i64_w, i32_w]
          rfl
         refine pure_ (i := 4) (N := some 39) (v := ?_) (a' := ?_) #[true, true, true, true, true, false, false, false, false, false, false, false, false, false, false, false] rfl rfl (any_of HT_.out (by kernel_rfl)) (fun _ _ _ h => h) (Or.inl ⟨by rfl, ?_⟩) ?_ ?_
         rotate_left
         ·intro w'
          go_simp
          with_reducible rfl
         rotate_left
         ·simp only [Act.put, List.setIfInBounds_toArray, List.set_cons_zero, List.set_cons_succ, i64_w, i32_w]
          rfl
         refine pure_ (i := 7) (N := some 42) (v := ?_) (a' := ?_) #[true, true, true, true, true, false, false, true, false, false, false, false, false, false, false, false] rfl rfl (any_of HT_.out (by kernel_rfl)) (fun _ _ _ h => h) (Or.inl ⟨by rfl, ?_⟩) ?_ ?_
         rotate_left
         ·intro w'
          go_simp
          with_reducible rfl
         rotate_left
         ·simp only [Act.put, List.setIfInBounds_toArray, List.set_cons_zero, List.set_cons_succ, i64_w, i32_w]
          rfl
         refine pure_ (i := 8) (N := some 43) (v := ?_) (a' := ?_) #[true, true, true, true, true, false, false, true, true, false, false, false, false, false, false, false] rfl rfl (any_of HT_.out (by kernel_rfl)) (fun _ _ _ h => h) (Or.inl ⟨by rfl, ?_⟩) ?_ ?_
         rotate_left
         ·intro w'
          go_simp
          with_reducible rfl
         rotate_left
         ·simp only [Act.put, List.setIfInBounds_toArray, List.set_cons_zero, List.set_cons_succ, i64_w, i32_w]
          rfl
         refine pure_ (i := 9) (N := some 44) (v := ?_) (a' := ?_) #[true, true, true, true, true, false, false, true, true, true, false, false, false, false, false, false] rfl rfl (any_of HT_.out (by kernel_rfl)) (fun _ _ _ h => h) (Or.inl ⟨by rfl, ?_⟩) ?_ ?_
         rotate_left
         ·intro w'
          go_simp
          with_reducible rfl
         rotate_left
         ·simp only [Act.put, List.setIfInBounds_toArray, List.set_cons_zero, List.set_cons_succ, i64_w, i32_w]
          rfl
         refine pure_ (i := 10) (N := some 45) (v := ?_) (a' := ?_) #[true, true, true, true, true, false, false, true, true, true, true, false, false, false, false, false] rfl rfl (any_of HT_.out (by kernel_rfl)) (fun _ _ _ h => h) (Or.inl ⟨by rfl, ?_⟩) ?_ ?_
         rotate_left
         ·intro w'
          go_simp
          with_reducible rfl
         rotate_left
         ·simp only [Act.put, List.setIfInBounds_toArray, List.set_cons_zero, List.set_cons_succ, i64_w, i32_w]
          rfl
         refine take_ (i := 5) (N := some 40) (v := ?_) (a' := ?_) #[true, true, true, true, true, true, false, true, true, true, true, false, false, false, false, false] rfl rfl (take_ofW HT_.out HW_.out (by kernel_rfl)) (fun _ _ _ h => h) (Or.inl ⟨by rfl, ?_⟩) hHeld ?_ ?_
         rotate_left
         ·rintro w' ⟨s0, s1, s2, s3, s4, s5, s6, s7, s8, s9, s10, s11⟩
          go_simp
          with_reducible rfl
         rotate_left
         ·simp only [Act.put, List.setIfInBounds_toArray, List.set_cons_zero, List.set_cons_succ, i64_w, i32_w]
          rfl
         refine take_ (i := 11) (N := some 46) (v := ?_) (a' := ?_) #[true, true, true, true, true, true, false, true, true, true, true, true, false, false, false, false] rfl rfl (take_ofW HT_.out HW_.out (by kernel_rfl)) (fun _ _ _ h => h) (Or.inl ⟨by rfl, ?_⟩) hHeld ?_ ?_
         rotate_left
         ·rintro w' ⟨s0, s1, s2, s3, s4, s5, s6, s7, s8, s9, s10, s11⟩
          go_simp
          with_reducible rfl
         rotate_left
         ·simp only [Act.put, List.setIfInBounds_toArray, List.set_cons_zero, List.set_cons_succ, i64_w, i32_w]
          rfl
         refine one_ (i := 6) (N := some 41) #[true, true, true, true, true, true, true, true, true, true, true, true, false, false, false, false] rfl rfl (one_of HT_.out (by kernel_rfl)) (by decide) (fun K hK => ?_)
         refine goes_ Try.func35 (by kernel_rfl) rfl #[.slice A108_4 ((rd_T41 l0 x4_1).f4).length c108_4] (by rfl) rfl rfl (z_22) ?_
         with_reducible refine (ih k2 (z_25) _ _ ((rd_T41 l0 x4_1).f4) t109 _ ?side1 ?side2 A9.out).mono ?_
         (case side1 => repeat (first | exact (Kd.C_below HR108_4.out HB.out) | (with_reducible refine Kd.C_alloc ?_ _) | (with_reducible refine Kd.C_drewN ?_ _) | (with_reducible refine Kd.C_drew ?_)))
         (case side2 => exact HC108_4.out)
         rintro e w12 ⟨rfl, hb⟩; refine ⟨_, rfl, ?_⟩; have n0_ := A_0 (xbs (z_12) hb); clear HB; have HB := n0_; clear n0_
         (try clear hb)
         (try clear hb2)
         (try clear hk)
         (try clear hi)
         refine hK.out _ _ ⟨((HB.out.cell (xqb w _ hw108_0)).trans hw108_0), ((HB.out.cell (xqb w _ hw108_1)).trans hw108_1), ((HB.out.cell (xqb w _ hw108_2)).trans hw108_2), ((HB.out.cell (xqb w _ hw108_3)).trans hw108_3), ((HB.out.cell (xqb w _ hw108_4)).trans hw108_4), ((HB.out.cell (xqb w _ hw108_5)).trans hw108_5), ((HB.out.cell (xqb w _ hw110_0)).trans hw110_0), ((HB.out.cell (xqb w _ hw110_1)).trans hw110_1), ((HB.out.cell (xqb w _ hw110_2)).trans hw110_2), ((HB.out.cell (xqb w _ hw110_3)).trans hw110_3), ((HB.out.cell (xqb w _ hw110_4)).trans hw110_4), ((HB.out.cell (xqb w _ hw110_5)).trans hw110_5)⟩ (fun hHeld => ?_)
         clear hK K; refine norm_ (a' := ?_) ?_ ?_
         rotate_left
         ·show Act.put _ (some 41) _ = _
          simp only [Act.put, List.setIfInBounds_toArray, List.set_cons_zero, List.set_cons_succ, i64_w, i32_w]
          rfl
         refine one_ (i := 12) (N := some 47) #[true, true, true, true, true, true, true, true, true, true, true, true, true, false, false, false] rfl rfl (one_of HT_.out (by kernel_rfl)) (by decide) (fun K hK => ?_)
         refine goes_ Try.func35 (by kernel_rfl) rfl #[.slice A108_5 ((rd_T41 l0 x4_1).f5).length c108_5] (by rfl) rfl rfl (z_22) ?_
         with_reducible refine (ih k2 (z_25) _ _ ((rd_T41 l0 x4_1).f5) t111 _ ?side1 ?side2 A10.out).mono ?_
         (case side1 => repeat (first | exact (Kd.C_below HR110_5.out HB.out) | (with_reducible refine Kd.C_alloc ?_ _) | (with_reducible refine Kd.C_drewN ?_ _) | (with_reducible refine Kd.C_drew ?_)))
         (case side2 => exact HC110_5.out)
         rintro e w13 ⟨rfl, hb⟩; refine ⟨_, rfl, ?_⟩; have n0_ := A_0 (xbs (z_12) hb); clear HB; have HB := n0_; clear n0_
         (try clear hb)
         (try clear hb2)
         (try clear hk)
         (try clear hi)
         refine hK.out _ _ ⟨((HB.out.cell (xqb w _ hw108_0)).trans hw108_0), ((HB.out.cell (xqb w _ hw108_1)).trans hw108_1), ((HB.out.cell (xqb w _ hw108_2)).trans hw108_2), ((HB.out.cell (xqb w _ hw108_3)).trans hw108_3), ((HB.out.cell (xqb w _ hw108_4)).trans hw108_4), ((HB.out.cell (xqb w _ hw108_5)).trans hw108_5), ((HB.out.cell (xqb w _ hw110_0)).trans hw110_0), ((HB.out.cell (xqb w _ hw110_1)).trans hw110_1), ((HB.out.cell (xqb w _ hw110_2)).trans hw110_2), ((HB.out.cell (xqb w _ hw110_3)).trans hw110_3), ((HB.out.cell (xqb w _ hw110_4)).trans hw110_4), ((HB.out.cell (xqb w _ hw110_5)).trans hw110_5)⟩ (fun hHeld => ?_)
         clear hK K; refine norm_ (a' := ?_) ?_ ?_
         rotate_left
         ·show Act.put _ (some 47) _ = _
          simp only [Act.put, List.setIfInBounds_toArray, List.set_cons_zero, List.set_cons_succ, i64_w, i32_w]
          rfl
         refine pure_ (i := 13) (N := some 48) (v := ?_) (a' := ?_) #[true, true, true, true, true, true, true, true, true, true, true, true, true, true, false, false] rfl rfl (any_of HT_.out (by kernel_rfl)) (fun _ _ _ h => h) (Or.inl ⟨by rfl, ?_⟩) ?_ ?_
         rotate_left
         ·intro w'
          go_simp
          with_reducible rfl
         rotate_left
         ·simp only [Act.put, List.setIfInBounds_toArray, List.set_cons_zero, List.set_cons_succ, i64_w, i32_w]
          rfl
         refine pure_ (i := 14) (N := some 49) (v := ?_) (a' := ?_) #[true, true, true, true, true, true, true, true, true, true, true, true, true, true, true, false] rfl rfl (any_of HT_.out (by kernel_rfl)) (fun _ _ _ h => h) (Or.inl ⟨by rfl, ?_⟩) ?_ ?_
         rotate_left
         ·intro w'
          go_simp
          with_reducible rfl
         rotate_left
         ·simp only [Act.put, List.setIfInBounds_toArray, List.set_cons_zero, List.set_cons_succ, i64_w, i32_w]
          rfl
         refine pure_ (i := 15) (N := some 3) (v := ?_) (a' := ?_) #[true, true, true, true, true, true, true, true, true, true, true, true, true, true, true, true] rfl rfl (any_of HT_.out (by kernel_rfl)) (fun _ _ _ h => h) (Or.inl ⟨by rfl, ?_⟩) ?_ ?_
         rotate_left
         ·intro w'
          go_simp
          with_reducible rfl
         rotate_left
         ·simp only [Act.put, List.setIfInBounds_toArray, List.set_cons_zero, List.set_cons_succ, i64_w, i32_w]
          rfl
         refine done_ (done_of HT_.out (by kernel_rfl)) ?_
         try go_wp2
         go_roundg k2
         case measure => have := HK1.out; have := HK2.out; omega
         case rel => exact ⟨(wrap64 (x3_2 + (wrap64 (t109 + t111)))), (wrap64 (x4_1 + 1)), (z_18), (z_18), H', ⟨z_25⟩, ⟨z_12⟩⟩
       ·rw [if_neg c4] at H
        exact z_23
      ·rw [if_neg c3] at H
       exact z_23
   ·rw [if_neg c2] at H
    have c2b0 := xdf c2; clear c2; obtain rfl := xsi H
    go_wp2
    go_ret
    exact ⟨z_24, z_12⟩
def outriderlaw04_Great.f (k : Nat) (l0 : List (S41)) : Option (Bool) := (outriderref04_Nodes.f k l0).bind fun t112 => (some (decide (t112 > 5000)))
theorem outriderlaw04_Great.calls (k : Nat) (A0 : Option Addr) (c0 : Nat) (l0 : List (S41)) (r : Bool) (w : World) (hr0 : Kd.C k41 w A0 l0.length l0) (hc0 : l0.length ≤ c0) (h : outriderlaw04_Great.f k l0 = some r) :
  Calls Try.prog 15 #[.slice A0 l0.length c0] w fun e w' => e = .returned (.bool r) ∧ Below w.heap.size w w' := by
 have HR0 := A_0 hr0; have HC0 := A_0 hc0; clear hr0 hc0; have HB := A_0 (xbr w.heap.size w); have H : ((outriderref04_Nodes.f k l0).bind fun t112 => (some (decide (t112 > 5000)))) = some r := h; clear h; replace H := Option.bind_eq_some_iff.mp H; obtain ⟨t112, A20, H⟩ := H; replace H : (some (decide (t112 > 5000))) = some r := H; have A2 := A_0 A20; clear A20; obtain rfl := xsi H
 go_enter Try.func15, Try.ntmps15
 go_wp2_with (first | ((with_reducible refine gate_callee (f := 35) rfl ?_); refine goesL_ (some 4) rfl rfl Try.func35 (by kernel_rfl) rfl #[.slice A0 l0.length c0] rfl (z_22) ?_; (with_reducible refine (outriderref04_Nodes.calls k _ _ l0 t112 _ ?side1 ?side2 A2.out).mono ?_); (case side1 => repeat (first | exact HR0.out | (with_reducible refine Kd.C_alloc ?_ _) | (with_reducible refine Kd.C_drewN ?_ _) | (with_reducible refine Kd.C_drew ?_))); (case side2 => exact HC0.out); rintro e w3 ⟨rfl, hb⟩; refine ⟨_, rfl, ?_⟩; replace HB := A_0 (xbs (z_12) hb); (try clear hb); (try clear hb2); (try clear hk); (try clear hi)))
 go_ret
 exact ⟨z_24, z_12⟩
def IsS95 (w0 W : World) (g : Nat) (f0 : Int) : Prop := W.heap[g]? = some (.cells #[.int .i64 f0] 95 (0, 0)) ∧ w0.heap.size ≤ g
theorem IsS95.grown {w0 W : World} {g : Nat} {f0 : Int} {W1 : World} {row : Option Nat} (h : IsS95 w0 W g f0) (hw : W.grownBy W1 row) (hne : some g ≠ row) : IsS95 w0 W1 g f0 := by
 obtain ⟨hb, hg⟩ := h; exact ⟨blk_grown hb hw hne, hg⟩
theorem IsS95.fresh {w0 W : World} {g : Nat} {f0 : Int} (h : IsS95 w0 W g f0) : ∀ k, W.heap.size ≤ k → k ≠ g := by
 obtain ⟨hb, hg⟩ := h; exact Kd.freshB hb
theorem IsS95.kept {w0 W : World} {g : Nat} {f0 : Int} {W1 : World} {S : Nat → Prop} (h : IsS95 w0 W g f0) (hk : Kept W W1 S) (hne : ¬ S g) : IsS95 w0 W1 g f0 := by
 obtain ⟨hb, hg⟩ := h; exact ⟨blk_kept hb hk hne, hg⟩
theorem IsS95.below {w0 W : World} {g : Nat} {f0 : Int} {W1 : World} (h : IsS95 w0 W g f0) (hw : Below W.heap.size W W1) : IsS95 w0 W1 g f0 := h.grown (grown_of_below hw none) (by simp)
theorem IsS95.alloc {w0 W : World} {g : Nat} {f0 : Int} (h : IsS95 w0 W g f0) (o : Obj) : IsS95 w0 (W.alloc o) g f0 := h.below (below_alloc (xbr _ _) o)
theorem IsS95.drewN {w0 W : World} {g : Nat} {f0 : Int} (h : IsS95 w0 W g f0) (m : Nat) : IsS95 w0 (W.drewN m) g f0 := h
theorem IsS95.drew {w0 W : World} {g : Nat} {f0 : Int} (h : IsS95 w0 W g f0) : IsS95 w0 W.drew g f0 := h
theorem IsS95.at_ {w0 W : World} {g : Nat} {f0 : Int} {w' : World} {m : Nat} (hq : W.drewN m = w') (h : IsS95 w0 W g f0) : IsS95 w0 w' g f0 := by subst hq; exact IsS95.drewN h m
theorem IsS95.apart {w0 W : World} {g : Nat} {f0 : Int} {α : Type} {d : Kd α} {e : Nat} {base : Nat} {ok : Nat → Prop} {v : Value} {xs : List α} (h : IsS95 w0 W g f0) (ho : d.R e W base ok v xs) (ht : ∀ q, q ∈ e :: d.E → q ≠ 95) : d.R e W base (fun k => ok k ∧ k ≠ g) v xs := by
 obtain ⟨hb, hg⟩ := h; exact Kd.R_types ho hb ht
theorem IsS95.own_ne {w0 W : World} {g : Nat} {f0 : Int} {α : Type} {d : Kd α} {e : Nat} {base : Nat} {ok : Nat → Prop} {v : Value} {xs : List α} (h : IsS95 w0 W g f0) (ho : d.R e W base ok v xs) (ht : e ≠ 95) : some g ≠ v.ownBlock := by
 obtain ⟨hb, hg⟩ := h; exact Kd.R_ne ho hb ht
theorem IsS95.lt {w0 W : World} {g : Nat} {f0 : Int} (h : IsS95 w0 W g f0) : g < W.heap.size := by
 obtain ⟨hb, hg⟩ := h; exact blk_lt hb
theorem IsS95.ge {w0 W : World} {g : Nat} {f0 : Int} (h : IsS95 w0 W g f0) : w0.heap.size ≤ g := by
 obtain ⟨hb, hg⟩ := h; exact hg
theorem IsS95.ne_blk {w0 W : World} {g : Nat} {f0 : Int} {a : Nat} {cs : Array Value} {t : TypeId} {fr : Nat × Nat} (h : IsS95 w0 W g f0) (hb2 : W.heap[a]? = some (.cells cs t fr)) (ht : t ≠ 95) : g ≠ a := by
 obtain ⟨hb, hg⟩ := h; rintro rfl; rw [hb] at hb2; injection hb2 with hb2; injection hb2 with _ ht2; exact ht ht2.symm
theorem IsS95.far {w0 W : World} {g : Nat} {f0 : Int} {p : Addr} (h : IsS95 w0 W g f0) (hne : g ≠ p.block) (u : Value) : IsS95 w0 (W.setCell p u) g f0 := by
 obtain ⟨hb, hg⟩ := h; exact ⟨blk_far hb hne u, hg⟩
theorem cellS95_0 {W : World} {g : Nat} {f0 : Int} (h : W.heap[g]? = some (.cells #[.int .i64 f0] 95 (0, 0))) : W.cell? ⟨g, 0, none⟩ = some (.int .i64 f0) := (xbc h 0).trans rfl
theorem IsS95.set_0 {w0 W : World} {g : Nat} {f0 : Int} (h : IsS95 w0 W g f0) (x : Int) : IsS95 w0 (W.setCell ⟨g, 0, none⟩ (.int .i64 x)) g x := by
 obtain ⟨hb, hg⟩ := h; exact ⟨by simpa using blk_set hb 0 (.int .i64 x), hg⟩
def tree_counter_one.f (s0_0 : Int) : Option (Bool × Int) := some (decide ((wrap64 (s0_0 + 1)) ≤ 600), wrap64 (s0_0 + 1))
theorem tree_counter_one.calls (g : Nat) (s0_0 : Int) (r1 : Bool) (r2 : Int) (w0 w : World) (hI : IsS95 w0 w g s0_0) (hB : Below w0.heap.size w0 w) (h : tree_counter_one.f s0_0 = some (r1, r2)) :
  Calls Try.prog 93 #[.pointer (some ⟨g, 0, none⟩)] w fun e w' => e = .returned (.bool r1) ∧ IsS95 w0 w' g r2 ∧ Below w0.heap.size w0 w' ∧ KeepBut w w' g none := by
 have HI0 := A_0 hI; have HK := A_0 (KeepBut.refl w g none); have HL := A_0 hB.size; clear hI; have HW0 := A_0 hB.size; have HB := A_0 hB; clear hB; have H : (some (decide ((wrap64 (s0_0 + 1)) ≤ 600), wrap64 (s0_0 + 1))) = some (r1, r2) := h; clear h; simp only [Option.some.injEq, Prod.mk.injEq] at H; obtain ⟨rfl, rfl⟩ := H; obtain ⟨HGz2, hgz2⟩ := HI0.out; have hcz2_0 := cellS95_0 HGz2; have hfz2_0 := xbz HGz2 0; clear HGz2 hgz2
 go_enter Try.func93, Try.ntmps93
 go_wp2
 go_ret
 exact ⟨z_24, by repeat (first | (with_reducible first | exact HI0.out | apply IsS95.alloc | apply IsS95.drewN | apply IsS95.drew | apply IsS95.set_0) | exact HI0.out), by repeat (first | (with_reducible first | exact HB.out | apply below_alloc | apply pw_below_drewN | apply below_drew1 | refine below_set ?_ (IsS95.ge HI0.out)) | exact HB.out), z_26⟩
def lex_digit.f (a0 : Int) : Option (Bool) := if a0 ≥ 48 then (some (decide (a0 ≤ 57))) else (some false)
theorem lex_digit.calls (a0 : Int) (r : Bool) (w : World) (h : lex_digit.f a0 = some r) :
  Calls Try.prog 96 #[.int .u8 a0] w fun e w' => e = .returned (.bool r) ∧ Drawn0 w w' := by
 have H : (if a0 ≥ 48 then (some (decide (a0 ≤ 57))) else (some false)) = some r := h; clear h; by_cases c2 : a0 ≥ 48
 ·rw [if_pos c2] at H
  have c2b0 := xdt c2; clear c2; obtain rfl := xsi H
  go_enter Try.func96, Try.ntmps96
  go_wp2
  go_ret
  exact z_27
 ·rw [if_neg c2] at H
  have c2b0 := xdf c2; clear c2; obtain rfl := xsi H
  go_enter Try.func96, Try.ntmps96
  go_wp2
  go_ret
  exact z_27
def lex_letter.f (a0 : Int) : Option (Bool) := if a0 ≥ 97 then (if a0 ≤ 122 then (some true) else (if a0 ≥ 65 then (if a0 ≤ 90 then (some true) else (some (a0 == 95))) else (some (a0 == 95)))) else (if a0 ≥ 65 then (if a0 ≤ 90 then (some true) else (some (a0 == 95))) else (some (a0 == 95)))
theorem lex_letter.calls (a0 : Int) (r : Bool) (w : World) (h : lex_letter.f a0 = some r) :
  Calls Try.prog 98 #[.int .u8 a0] w fun e w' => e = .returned (.bool r) ∧ Drawn0 w w' := by
 have H : (if a0 ≥ 97 then (if a0 ≤ 122 then (some true) else (if a0 ≥ 65 then (if a0 ≤ 90 then (some true) else (some (a0 == 95))) else (some (a0 == 95)))) else (if a0 ≥ 65 then (if a0 ≤ 90 then (some true) else (some (a0 == 95))) else (some (a0 == 95)))) = some r := h; clear h; by_cases c2 : a0 ≥ 97
 ·rw [if_pos c2] at H
  have c2b0 := xdt c2; clear c2; by_cases c3 : a0 ≤ 122
  ·rw [if_pos c3] at H
   have c3b0 := xdt c3; clear c3; obtain rfl := xsi H
   go_enter Try.func98, Try.ntmps98
   go_wp2
   go_ret
   exact z_27
  ·rw [if_neg c3] at H
   have c3b0 := xdf c3; clear c3; by_cases c4 : a0 ≥ 65
   ·rw [if_pos c4] at H
    have c4b0 := xdt c4; clear c4; by_cases c5 : a0 ≤ 90
    ·rw [if_pos c5] at H
     have c5b0 := xdt c5; clear c5; obtain rfl := xsi H
     go_enter Try.func98, Try.ntmps98
     go_wp2
     go_ret
     exact z_27
    ·rw [if_neg c5] at H
     have c5b0 := xdf c5; clear c5; obtain rfl := xsi H
     go_enter Try.func98, Try.ntmps98
     go_wp2
     go_ret
     exact z_27
   ·rw [if_neg c4] at H
    have c4b0 := xdf c4; clear c4; obtain rfl := xsi H
    go_enter Try.func98, Try.ntmps98
    go_wp2
    go_ret
    exact z_27
 ·rw [if_neg c2] at H
  have c2b0 := xdf c2; clear c2; by_cases c6 : a0 ≥ 65
  ·rw [if_pos c6] at H
   have c6b0 := xdt c6; clear c6; by_cases c7 : a0 ≤ 90
   ·rw [if_pos c7] at H
    have c7b0 := xdt c7; clear c7; obtain rfl := xsi H
    go_enter Try.func98, Try.ntmps98
    go_wp2
    go_ret
    exact z_27
   ·rw [if_neg c7] at H
    have c7b0 := xdf c7; clear c7; obtain rfl := xsi H
    go_enter Try.func98, Try.ntmps98
    go_wp2
    go_ret
    exact z_27
  ·rw [if_neg c6] at H
   have c6b0 := xdf c6; clear c6; obtain rfl := xsi H
   go_enter Try.func98, Try.ntmps98
   go_wp2
   go_ret
   exact z_27
end Go.Proofs.Ytobkdmmnbnpemaa.K
