/- Texts of the claim, one behind the other. -/
import Derived.Test.YtobkdmmnbnpemaaProg
import Derived.Below
import Derived.Deep.Draws
import Derived.Deep.AppendLies
import Derived.Maps.AppendAt
import Derived.OwnWalk
import Derived.Laws.BytesArg
import Derived.Laws.MakeOwn
import Derived.Laws.OwnMore
import Derived.Deep.OwnRows
import Derived.Tactics
import Derived.Lib.ConvBytes
import Derived.Laws.Slices
import Derived.WalkKit
import Derived.KernelRfl
import Derived.RowKit3
import Derived.Deep.LoopGhost
import Derived.Deep.QuietTactic
import Derived.BigQuiet
import Derived.WideLaws
import Derived.Deep.DeepCutAuto
import Derived.Deep.CutBlock
import Derived.Deep.RegionHeld3
import Derived.Laws.Rows
import Derived.Lib.AppendStr
import Derived.ArgAppend
import Derived.Laws.IdiomCopy
import Derived.OrdersHeld
import Derived.Laws.BitsLemmas
import Derived.RowKit
import Derived.Test.YtobkdmmnbnpemaaXIW
set_option maxHeartbeats 16000000
set_option maxRecDepth 100000
namespace Go.Proofs.Ytobkdmmnbnpemaa.K
open Go.RowKit Go.Proofs.YtobkdmmnbnpemaaW.PrintWords Go.Proofs.YtobkdmmnbnpemaaW.PrintLast Go.Proofs.YtobkdmmnbnpemaaW.PrintMore
attribute [local go_sem] max2_int min2_int max_two min_two max_three min_three max_four min_four
set_option linter.unusedVariables false
set_option linter.unusedSimpArgs false
def errW : Option Int → Value
 | none => .nilIface
 | some c => .iface 0 (.int .i64 c)
theorem errW_none : errW none = .nilIface := rfl
theorem errW_some (c : Int) : errW (some c) = .iface 0 (.int .i64 c) := rfl
theorem info70 : (Try.prog.info? 70).map (fun i => (i.zero, i.size, i.bytes)) = some (some (.agg #[(.string ⟨#[]⟩), (.int .i64 0)]), 2, 24) := by kernel_rfl
structure S38 where
 f0 : Int
 f1 : Int
 f2 : ByteArray
 f3 : Int
 f4 : (List S38)
def z38 : S38 := ⟨(0 : Int), (0 : Int), (⟨#[]⟩ : ByteArray), (0 : Int), ([] : List S38)⟩
def F38 (d : Kd S38) : Kd S38 := Kd.iso (Kd.pair (Kd.int .i64) (Kd.pair (Kd.int .i64) (Kd.pair Kd.string (Kd.pair (Kd.int .i64) (Kd.slice 38 d))))) (fun x : S38 => (x.f0, x.f1, x.f2, x.f3, x.f4))
theorem mono38 : Kd.Mono F38 := Kd.mono_iso _ (Kd.mono_pair (Kd.mono_const _) (Kd.mono_pair (Kd.mono_const _) (Kd.mono_pair (Kd.mono_const _) (Kd.mono_pair (Kd.mono_const _) (Kd.mono_slice 38 Kd.mono_id)))))
theorem sub38 : Kd.Sub F38 [38] := Kd.sub_iso _ (Kd.sub_pair (Kd.sub_const _ (by decide)) (Kd.sub_pair (Kd.sub_const _ (by decide)) (Kd.sub_pair (Kd.sub_const _ (by decide)) (Kd.sub_pair (Kd.sub_const _ (by decide)) (Kd.sub_slice 38 (by decide) Kd.sub_id)))))
theorem sz38 : ∀ n, (Kd.upto F38 5 [38] n).sz = 5 := Kd.upto_sz (fun _ => rfl)
def k38 : Kd S38 := Kd.fix F38 5 [38] sz38 (Kd.upto_E sub38)
theorem k38_open {w : World} {x : S38} {cs : List Value} (h : k38.K w x cs) : ∃ A4 c4, cs = [.int .i64 x.f0, .int .i64 x.f1, .string x.f2, .int .i64 x.f3, .slice A4 x.f4.length c4] ∧ x.f4.length ≤ c4 ∧ k38.C w A4 x.f4.length x.f4 := by
 obtain ⟨n, h⟩ := h; cases n with
 | zero => exact h.elim
 | succ n =>
  obtain ⟨_, _, rfl, rfl, ⟨_, _, rfl, rfl, ⟨_, _, rfl, rfl, ⟨_, _, rfl, rfl, ⟨A4, c4, rfl, l4, g4⟩⟩⟩⟩⟩ := h; exact ⟨A4, c4, rfl, l4, Kd.fix_C g4⟩
theorem k38_mk (w : World) (x : S38) {A4 : Option Addr} {c4 : Nat} (l4 : x.f4.length ≤ c4) (g4 : k38.C w A4 x.f4.length x.f4) : k38.K w x [.int .i64 x.f0, .int .i64 x.f1, .string x.f2, .int .i64 x.f3, .slice A4 x.f4.length c4] := by
 obtain ⟨n4, q4⟩ := Kd.fix_C_back mono38 g4; have r4 := Kd.upto_C_le mono38 sz38 (show n4 ≤ n4 by omega) q4
 exact ⟨n4 + 1, ⟨[.int .i64 x.f0], [.int .i64 x.f1, .string x.f2, .int .i64 x.f3, .slice A4 x.f4.length c4], rfl, rfl, ⟨[.int .i64 x.f1], [.string x.f2, .int .i64 x.f3, .slice A4 x.f4.length c4], rfl, rfl, ⟨[.string x.f2], [.int .i64 x.f3, .slice A4 x.f4.length c4], rfl, rfl, ⟨[.int .i64 x.f3], [.slice A4 x.f4.length c4], rfl, rfl, ⟨A4, c4, rfl, l4, r4⟩⟩⟩⟩⟩⟩
def rd_T38 (xs : List S38) (i : Int) : S38 := xs.getD i.toNat z38
theorem at_T38 {w : World} {A : Option Addr} {n : Nat} {xs : List S38} (h : Kd.C k38 w A n xs) (i : Int) (h0 : 0 ≤ i) (h1 : i < n) : ∃ ad A4 c4, A = some ad ∧ w.cell? (ad.add (i.toNat * 5)) = some (.int .i64 (rd_T38 xs i).f0) ∧ w.cell? ⟨(ad.add (i.toNat * 5)).block, (ad.add (i.toNat * 5)).off + 1, none⟩ = some (.int .i64 (rd_T38 xs i).f1) ∧ w.cell? ⟨(ad.add (i.toNat * 5)).block, (ad.add (i.toNat * 5)).off + 2, none⟩ = some (.string (rd_T38 xs i).f2) ∧ w.cell? ⟨(ad.add (i.toNat * 5)).block, (ad.add (i.toNat * 5)).off + 3, none⟩ = some (.int .i64 (rd_T38 xs i).f3) ∧ w.cell? ⟨(ad.add (i.toNat * 5)).block, (ad.add (i.toNat * 5)).off + 4, none⟩ = some (.slice A4 (rd_T38 xs i).f4.length c4) ∧ (rd_T38 xs i).f4.length ≤ c4 ∧ k38.C w A4 (rd_T38 xs i).f4.length (rd_T38 xs i).f4 := by
 obtain ⟨ad, c, e, _, hK, hc0⟩ := Kd.C_get h z38 i h0 h1; have hc : ∀ j u, c[j]? = some u → w.cell? (ad.add (i.toNat * 5 + j)) = some u := hc0; obtain ⟨A4, c4, rfl, l4, g4⟩ := k38_open hK; exact ⟨ad, A4, c4, e, hc 0 _ rfl, z_14, z_15, z_16, by rw [← add_field _ _ 4 (by omega)]; exact hc 4 _ rfl, l4, g4⟩
structure S41 where
 f0 : Int
 f1 : ByteArray
 f2 : Int
 f3 : (List S38)
 f4 : (List S41)
 f5 : (List S41)
def z41 : S41 := ⟨(0 : Int), (⟨#[]⟩ : ByteArray), (0 : Int), ([] : List S38), ([] : List S41), ([] : List S41)⟩
def F41 (d : Kd S41) : Kd S41 := Kd.iso (Kd.pair (Kd.int .i64) (Kd.pair Kd.string (Kd.pair (Kd.int .i64) (Kd.pair (Kd.slice 38 k38) (Kd.pair (Kd.slice 41 d) (Kd.slice 41 d)))))) (fun x : S41 => (x.f0, x.f1, x.f2, x.f3, x.f4, x.f5))
theorem mono41 : Kd.Mono F41 := Kd.mono_iso _ (Kd.mono_pair (Kd.mono_const _) (Kd.mono_pair (Kd.mono_const _) (Kd.mono_pair (Kd.mono_const _) (Kd.mono_pair (Kd.mono_const _) (Kd.mono_pair (Kd.mono_slice 41 Kd.mono_id) (Kd.mono_slice 41 Kd.mono_id))))))
theorem sub41 : Kd.Sub F41 [38, 41] := Kd.sub_iso _ (Kd.sub_pair (Kd.sub_const _ (by decide)) (Kd.sub_pair (Kd.sub_const _ (by decide)) (Kd.sub_pair (Kd.sub_const _ (by decide)) (Kd.sub_pair (Kd.sub_const _ (by decide)) (Kd.sub_pair (Kd.sub_slice 41 (by decide) Kd.sub_id) (Kd.sub_slice 41 (by decide) Kd.sub_id))))))
theorem sz41 : ∀ n, (Kd.upto F41 6 [38, 41] n).sz = 6 := Kd.upto_sz (fun _ => rfl)
def k41 : Kd S41 := Kd.fix F41 6 [38, 41] sz41 (Kd.upto_E sub41)
theorem k41_open {w : World} {x : S41} {cs : List Value} (h : k41.K w x cs) : ∃ A3 c3 A4 c4 A5 c5, cs = [.int .i64 x.f0, .string x.f1, .int .i64 x.f2, .slice A3 x.f3.length c3, .slice A4 x.f4.length c4, .slice A5 x.f5.length c5] ∧ x.f3.length ≤ c3 ∧ k38.C w A3 x.f3.length x.f3 ∧ x.f4.length ≤ c4 ∧ k41.C w A4 x.f4.length x.f4 ∧ x.f5.length ≤ c5 ∧ k41.C w A5 x.f5.length x.f5 := by
 obtain ⟨n, h⟩ := h; cases n with
 | zero => exact h.elim
 | succ n =>
  obtain ⟨_, _, rfl, rfl, ⟨_, _, rfl, rfl, ⟨_, _, rfl, rfl, ⟨_, _, rfl, ⟨A3, c3, rfl, l3, g3⟩, ⟨_, _, rfl, ⟨A4, c4, rfl, l4, g4⟩, ⟨A5, c5, rfl, l5, g5⟩⟩⟩⟩⟩⟩ := h; exact ⟨A3, c3, A4, c4, A5, c5, rfl, l3, g3, l4, Kd.fix_C g4, l5, Kd.fix_C g5⟩
theorem k41_mk (w : World) (x : S41) {A3 : Option Addr} {c3 : Nat} (l3 : x.f3.length ≤ c3) (g3 : k38.C w A3 x.f3.length x.f3) {A4 : Option Addr} {c4 : Nat} (l4 : x.f4.length ≤ c4) (g4 : k41.C w A4 x.f4.length x.f4) {A5 : Option Addr} {c5 : Nat} (l5 : x.f5.length ≤ c5) (g5 : k41.C w A5 x.f5.length x.f5) : k41.K w x [.int .i64 x.f0, .string x.f1, .int .i64 x.f2, .slice A3 x.f3.length c3, .slice A4 x.f4.length c4, .slice A5 x.f5.length c5] := by
 obtain ⟨n4, q4⟩ := Kd.fix_C_back mono41 g4; obtain ⟨n5, q5⟩ := Kd.fix_C_back mono41 g5; have r4 := Kd.upto_C_le mono41 sz41 (show n4 ≤ (max n4 n5) by omega) q4
 have r5 := Kd.upto_C_le mono41 sz41 (show n5 ≤ (max n4 n5) by omega) q5
 exact ⟨(max n4 n5) + 1, ⟨[.int .i64 x.f0], [.string x.f1, .int .i64 x.f2, .slice A3 x.f3.length c3, .slice A4 x.f4.length c4, .slice A5 x.f5.length c5], rfl, rfl, ⟨[.string x.f1], [.int .i64 x.f2, .slice A3 x.f3.length c3, .slice A4 x.f4.length c4, .slice A5 x.f5.length c5], rfl, rfl, ⟨[.int .i64 x.f2], [.slice A3 x.f3.length c3, .slice A4 x.f4.length c4, .slice A5 x.f5.length c5], rfl, rfl, ⟨[.slice A3 x.f3.length c3], [.slice A4 x.f4.length c4, .slice A5 x.f5.length c5], rfl, ⟨A3, c3, rfl, l3, g3⟩, ⟨[.slice A4 x.f4.length c4], [.slice A5 x.f5.length c5], rfl, ⟨A4, c4, rfl, l4, r4⟩, ⟨A5, c5, rfl, l5, r5⟩⟩⟩⟩⟩⟩⟩
def rd_T41 (xs : List S41) (i : Int) : S41 := xs.getD i.toNat z41
theorem at_T41 {w : World} {A : Option Addr} {n : Nat} {xs : List S41} (h : Kd.C k41 w A n xs) (i : Int) (h0 : 0 ≤ i) (h1 : i < n) : ∃ ad A3 c3 A4 c4 A5 c5, A = some ad ∧ w.cell? (ad.add (i.toNat * 6)) = some (.int .i64 (rd_T41 xs i).f0) ∧ w.cell? ⟨(ad.add (i.toNat * 6)).block, (ad.add (i.toNat * 6)).off + 1, none⟩ = some (.string (rd_T41 xs i).f1) ∧ w.cell? ⟨(ad.add (i.toNat * 6)).block, (ad.add (i.toNat * 6)).off + 2, none⟩ = some (.int .i64 (rd_T41 xs i).f2) ∧ w.cell? ⟨(ad.add (i.toNat * 6)).block, (ad.add (i.toNat * 6)).off + 3, none⟩ = some (.slice A3 (rd_T41 xs i).f3.length c3) ∧ w.cell? ⟨(ad.add (i.toNat * 6)).block, (ad.add (i.toNat * 6)).off + 4, none⟩ = some (.slice A4 (rd_T41 xs i).f4.length c4) ∧ w.cell? ⟨(ad.add (i.toNat * 6)).block, (ad.add (i.toNat * 6)).off + 5, none⟩ = some (.slice A5 (rd_T41 xs i).f5.length c5) ∧ (rd_T41 xs i).f3.length ≤ c3 ∧ k38.C w A3 (rd_T41 xs i).f3.length (rd_T41 xs i).f3 ∧ (rd_T41 xs i).f4.length ≤ c4 ∧ k41.C w A4 (rd_T41 xs i).f4.length (rd_T41 xs i).f4 ∧ (rd_T41 xs i).f5.length ≤ c5 ∧ k41.C w A5 (rd_T41 xs i).f5.length (rd_T41 xs i).f5 := by
 obtain ⟨ad, c, e, _, hK, hc0⟩ := Kd.C_get h z41 i h0 h1; have hc : ∀ j u, c[j]? = some u → w.cell? (ad.add (i.toNat * 6 + j)) = some u := hc0; obtain ⟨A3, c3, A4, c4, A5, c5, rfl, l3, g3, l4, g4, l5, g5⟩ := k41_open hK; exact ⟨ad, A3, c3, A4, c4, A5, c5, e, hc 0 _ rfl, z_14, z_15, z_16, by rw [← add_field _ _ 4 (by omega)]; exact hc 4 _ rfl, by rw [← add_field _ _ 5 (by omega)]; exact hc 5 _ rfl, l3, g3, l4, g4, l5, g5⟩
structure S70 where
 f0 : ByteArray
 f1 : Int
def z70 : S70 := ⟨(⟨#[]⟩ : ByteArray), (0 : Int)⟩
def k70 : Kd S70 := Kd.iso (Kd.pair Kd.string (Kd.int .i64)) (fun x : S70 => (x.f0, x.f1))
theorem k70_open {w : World} {x : S70} {cs : List Value} (h : k70.K w x cs) : cs = [.string x.f0, .int .i64 x.f1] := by
 obtain ⟨_, _, rfl, rfl, rfl⟩ := h; exact rfl
theorem k70_mkM (w : World) (base : Nat) (ok : Nat → Prop) (x : S70)  : k70.M w base ok x [.string x.f0, .int .i64 x.f1] := ⟨[.string x.f0], [.int .i64 x.f1], rfl, rfl, rfl⟩
def rd_T70 (xs : List S70) (i : Int) : S70 := xs.getD i.toNat z70
theorem at_T70 {w : World} {A : Option Addr} {n : Nat} {xs : List S70} (h : Kd.C k70 w A n xs) (i : Int) (h0 : 0 ≤ i) (h1 : i < n) : ∃ ad , A = some ad ∧ w.cell? (ad.add (i.toNat * 2)) = some (.string (rd_T70 xs i).f0) ∧ w.cell? ⟨(ad.add (i.toNat * 2)).block, (ad.add (i.toNat * 2)).off + 1, none⟩ = some (.int .i64 (rd_T70 xs i).f1) := by
 obtain ⟨ad, c, e, _, hK, hc0⟩ := Kd.C_get h z70 i h0 h1; have hc : ∀ j u, c[j]? = some u → w.cell? (ad.add (i.toNat * 2 + j)) = some u := hc0; obtain rfl := k70_open hK; exact ⟨ad, e, hc 0 _ rfl, z_14⟩
def IsS95 (w0 W : World) (g : Nat) (f0 : Int) : Prop := W.heap[g]? = some (.cells #[.int .i64 f0] 95 (0, 0)) ∧ w0.heap.size ≤ g
theorem IsS95.grown {w0 W : World} {g : Nat} {f0 : Int} {W1 : World} {row : Option Nat} (h : IsS95 w0 W g f0) (hw : W.grownBy W1 row) (hne : some g ≠ row) : IsS95 w0 W1 g f0 := by
 obtain ⟨hb, hg⟩ := h; exact ⟨blk_grown hb hw hne, hg⟩
theorem IsS95.fresh {w0 W : World} {g : Nat} {f0 : Int} (h : IsS95 w0 W g f0) : ∀ k, W.heap.size ≤ k → k ≠ g := by
 obtain ⟨hb, hg⟩ := h; exact Kd.freshB hb
theorem IsS95.kept {w0 W : World} {g : Nat} {f0 : Int} {W1 : World} {S : Nat → Prop} (h : IsS95 w0 W g f0) (hk : Kept W W1 S) (hne : ¬ S g) : IsS95 w0 W1 g f0 := by
 obtain ⟨hb, hg⟩ := h; exact ⟨blk_kept hb hk hne, hg⟩
theorem IsS95.below {w0 W : World} {g : Nat} {f0 : Int} {W1 : World} (h : IsS95 w0 W g f0) (hw : Below W.heap.size W W1) : IsS95 w0 W1 g f0 := h.grown (grown_of_below hw none) (by simp)
theorem IsS95.alloc {w0 W : World} {g : Nat} {f0 : Int} (h : IsS95 w0 W g f0) (o : Obj) : IsS95 w0 (W.alloc o) g f0 := h.below (below_alloc (xbr _ _) o)
theorem IsS95.drewN {w0 W : World} {g : Nat} {f0 : Int} (h : IsS95 w0 W g f0) (m : Nat) : IsS95 w0 (W.drewN m) g f0 := h
theorem IsS95.drew {w0 W : World} {g : Nat} {f0 : Int} (h : IsS95 w0 W g f0) : IsS95 w0 W.drew g f0 := h
theorem IsS95.at_ {w0 W : World} {g : Nat} {f0 : Int} {w' : World} {m : Nat} (hq : W.drewN m = w') (h : IsS95 w0 W g f0) : IsS95 w0 w' g f0 := by subst hq; exact IsS95.drewN h m
theorem IsS95.apart {w0 W : World} {g : Nat} {f0 : Int} {α : Type} {d : Kd α} {e : Nat} {base : Nat} {ok : Nat → Prop} {v : Value} {xs : List α} (h : IsS95 w0 W g f0) (ho : d.R e W base ok v xs) (ht : ∀ q, q ∈ e :: d.E → q ≠ 95) : d.R e W base (fun k => ok k ∧ k ≠ g) v xs := by
 obtain ⟨hb, hg⟩ := h; exact Kd.R_types ho hb ht
theorem IsS95.own_ne {w0 W : World} {g : Nat} {f0 : Int} {α : Type} {d : Kd α} {e : Nat} {base : Nat} {ok : Nat → Prop} {v : Value} {xs : List α} (h : IsS95 w0 W g f0) (ho : d.R e W base ok v xs) (ht : e ≠ 95) : some g ≠ v.ownBlock := by
 obtain ⟨hb, hg⟩ := h; exact Kd.R_ne ho hb ht
theorem IsS95.lt {w0 W : World} {g : Nat} {f0 : Int} (h : IsS95 w0 W g f0) : g < W.heap.size := by
 obtain ⟨hb, hg⟩ := h; exact blk_lt hb
theorem IsS95.ge {w0 W : World} {g : Nat} {f0 : Int} (h : IsS95 w0 W g f0) : w0.heap.size ≤ g := by
 obtain ⟨hb, hg⟩ := h; exact hg
theorem IsS95.ne_blk {w0 W : World} {g : Nat} {f0 : Int} {a : Nat} {cs : Array Value} {t : TypeId} {fr : Nat × Nat} (h : IsS95 w0 W g f0) (hb2 : W.heap[a]? = some (.cells cs t fr)) (ht : t ≠ 95) : g ≠ a := by
 obtain ⟨hb, hg⟩ := h; rintro rfl; rw [hb] at hb2; injection hb2 with hb2; injection hb2 with _ ht2; exact ht ht2.symm
theorem IsS95.far {w0 W : World} {g : Nat} {f0 : Int} {p : Addr} (h : IsS95 w0 W g f0) (hne : g ≠ p.block) (u : Value) : IsS95 w0 (W.setCell p u) g f0 := by
 obtain ⟨hb, hg⟩ := h; exact ⟨blk_far hb hne u, hg⟩
theorem cellS95_0 {W : World} {g : Nat} {f0 : Int} (h : W.heap[g]? = some (.cells #[.int .i64 f0] 95 (0, 0))) : W.cell? ⟨g, 0, none⟩ = some (.int .i64 f0) := (xbc h 0).trans rfl
theorem IsS95.set_0 {w0 W : World} {g : Nat} {f0 : Int} (h : IsS95 w0 W g f0) (x : Int) : IsS95 w0 (W.setCell ⟨g, 0, none⟩ (.int .i64 x)) g x := by
 obtain ⟨hb, hg⟩ := h; exact ⟨by simpa using blk_set hb 0 (.int .i64 x), hg⟩
def tree_counter_one.f (s0_0 : Int) : Option (Bool × Int) := some (decide ((wrap64 (s0_0 + 1)) ≤ 600), wrap64 (s0_0 + 1))
theorem tree_counter_one.calls (g : Nat) (s0_0 : Int) (r1 : Bool) (r2 : Int) (w0 w : World) (hI : IsS95 w0 w g s0_0) (hB : Below w0.heap.size w0 w) (h : tree_counter_one.f s0_0 = some (r1, r2)) :
  Calls Try.prog 93 #[.pointer (some ⟨g, 0, none⟩)] w fun e w' => e = .returned (.bool r1) ∧ IsS95 w0 w' g r2 ∧ Below w0.heap.size w0 w' ∧ KeepBut w w' g none := by
 have HI0 := A_0 hI; have HK := A_0 (KeepBut.refl w g none); have HL := A_0 hB.size; clear hI; have HW0 := A_0 hB.size; have HB := A_0 hB; clear hB; have H : (some (decide ((wrap64 (s0_0 + 1)) ≤ 600), wrap64 (s0_0 + 1))) = some (r1, r2) := h; clear h; simp only [Option.some.injEq, Prod.mk.injEq] at H; obtain ⟨rfl, rfl⟩ := H; obtain ⟨HGz2, hgz2⟩ := HI0.out; have hcz2_0 := cellS95_0 HGz2; have hfz2_0 := xbz HGz2 0; clear HGz2 hgz2
 go_enter Try.func93, Try.ntmps93
 go_wp2
 go_ret
 exact ⟨z_17, by repeat (first | (with_reducible first | exact HI0.out | apply IsS95.alloc | apply IsS95.drewN | apply IsS95.drew | apply IsS95.set_0) | exact HI0.out), by repeat (first | (with_reducible first | exact HB.out | apply below_alloc | apply pw_below_drewN | apply below_drew1 | refine below_set ?_ (IsS95.ge HI0.out)) | exact HB.out), z_18⟩
def lex_digit.f (a0 : Int) : Option (Bool) := if a0 ≥ 48 then (some (decide (a0 ≤ 57))) else (some false)
theorem lex_digit.calls (a0 : Int) (r : Bool) (w : World) (h : lex_digit.f a0 = some r) :
  Calls Try.prog 96 #[.int .u8 a0] w fun e w' => e = .returned (.bool r) ∧ Drawn0 w w' := by
 have H : (if a0 ≥ 48 then (some (decide (a0 ≤ 57))) else (some false)) = some r := h; clear h; by_cases c2 : a0 ≥ 48
 ·rw [if_pos c2] at H
  have c2b0 := xdt c2; clear c2; obtain rfl := xsi H
  go_enter Try.func96, Try.ntmps96
  go_wp2
  go_ret
  exact z_19
 ·rw [if_neg c2] at H
  have c2b0 := xdf c2; clear c2; obtain rfl := xsi H
  go_enter Try.func96, Try.ntmps96
  go_wp2
  go_ret
  exact z_19
def lex_letter.f (a0 : Int) : Option (Bool) := if a0 ≥ 97 then (if a0 ≤ 122 then (some true) else (if a0 ≥ 65 then (if a0 ≤ 90 then (some true) else (some (a0 == 95))) else (some (a0 == 95)))) else (if a0 ≥ 65 then (if a0 ≤ 90 then (some true) else (some (a0 == 95))) else (some (a0 == 95)))
theorem lex_letter.calls (a0 : Int) (r : Bool) (w : World) (h : lex_letter.f a0 = some r) :
  Calls Try.prog 98 #[.int .u8 a0] w fun e w' => e = .returned (.bool r) ∧ Drawn0 w w' := by
 have H : (if a0 ≥ 97 then (if a0 ≤ 122 then (some true) else (if a0 ≥ 65 then (if a0 ≤ 90 then (some true) else (some (a0 == 95))) else (some (a0 == 95)))) else (if a0 ≥ 65 then (if a0 ≤ 90 then (some true) else (some (a0 == 95))) else (some (a0 == 95)))) = some r := h; clear h; by_cases c2 : a0 ≥ 97
 ·rw [if_pos c2] at H
  have c2b0 := xdt c2; clear c2; by_cases c3 : a0 ≤ 122
  ·rw [if_pos c3] at H
   have c3b0 := xdt c3; clear c3; obtain rfl := xsi H
   go_enter Try.func98, Try.ntmps98
   go_wp2
   go_ret
   exact z_19
  ·rw [if_neg c3] at H
   have c3b0 := xdf c3; clear c3; by_cases c4 : a0 ≥ 65
   ·rw [if_pos c4] at H
    have c4b0 := xdt c4; clear c4; by_cases c5 : a0 ≤ 90
    ·rw [if_pos c5] at H
     have c5b0 := xdt c5; clear c5; obtain rfl := xsi H
     go_enter Try.func98, Try.ntmps98
     go_wp2
     go_ret
     exact z_19
    ·rw [if_neg c5] at H
     have c5b0 := xdf c5; clear c5; obtain rfl := xsi H
     go_enter Try.func98, Try.ntmps98
     go_wp2
     go_ret
     exact z_19
   ·rw [if_neg c4] at H
    have c4b0 := xdf c4; clear c4; obtain rfl := xsi H
    go_enter Try.func98, Try.ntmps98
    go_wp2
    go_ret
    exact z_19
 ·rw [if_neg c2] at H
  have c2b0 := xdf c2; clear c2; by_cases c6 : a0 ≥ 65
  ·rw [if_pos c6] at H
   have c6b0 := xdt c6; clear c6; by_cases c7 : a0 ≤ 90
   ·rw [if_pos c7] at H
    have c7b0 := xdt c7; clear c7; obtain rfl := xsi H
    go_enter Try.func98, Try.ntmps98
    go_wp2
    go_ret
    exact z_19
   ·rw [if_neg c7] at H
    have c7b0 := xdf c7; clear c7; obtain rfl := xsi H
    go_enter Try.func98, Try.ntmps98
    go_wp2
    go_ret
    exact z_19
  ·rw [if_neg c6] at H
   have c6b0 := xdf c6; clear c6; obtain rfl := xsi H
   go_enter Try.func98, Try.ntmps98
   go_wp2
   go_ret
   exact z_19
def lex_Words.f (a0 : ByteArray) : Option (Bool) := if a0.toList = ([118, 97, 114] : List UInt8) then (some true) else (if a0.toList = ([105, 102] : List UInt8) then (some true) else (if a0.toList = ([101, 108, 115, 101] : List UInt8) then (some true) else (if a0.toList = ([119, 104, 105, 108, 101] : List UInt8) then (some true) else (if a0.toList = ([101, 109, 105, 116] : List UInt8) then (some true) else (if a0.toList = ([105, 110, 116, 111] : List UInt8) then (some true) else (if a0.toList = ([102, 97, 105, 108] : List UInt8) then (some true) else (if a0.toList = ([115, 116, 111, 112] : List UInt8) then (some true) else (if a0.toList = ([109] : List UInt8) then (some true) else (if a0.toList = ([109, 105, 110] : List UInt8) then (some true) else (if a0.toList = ([109, 97, 120] : List UInt8) then (some true) else (some false)))))))))))
theorem lex_Words.calls (a0 : ByteArray) (r : Bool) (w : World) (h : lex_Words.f a0 = some r) :
  Calls Try.prog 124 #[.string a0] w fun e w' => e = .returned (.bool r) ∧ Drawn0 w w' := by
 have H : (if a0.toList = ([118, 97, 114] : List UInt8) then (some true) else (if a0.toList = ([105, 102] : List UInt8) then (some true) else (if a0.toList = ([101, 108, 115, 101] : List UInt8) then (some true) else (if a0.toList = ([119, 104, 105, 108, 101] : List UInt8) then (some true) else (if a0.toList = ([101, 109, 105, 116] : List UInt8) then (some true) else (if a0.toList = ([105, 110, 116, 111] : List UInt8) then (some true) else (if a0.toList = ([102, 97, 105, 108] : List UInt8) then (some true) else (if a0.toList = ([115, 116, 111, 112] : List UInt8) then (some true) else (if a0.toList = ([109] : List UInt8) then (some true) else (if a0.toList = ([109, 105, 110] : List UInt8) then (some true) else (if a0.toList = ([109, 97, 120] : List UInt8) then (some true) else (some false)))))))))))) = some r := h; clear h; by_cases c2 : a0.toList = ([118, 97, 114] : List UInt8)
 ·rw [if_pos c2] at H
  obtain ⟨c2b0, c2b1⟩ := xbq c2; clear c2; obtain rfl := xsi H
  go_enter Try.func124, Try.ntmps124
  go_wp2
  go_ret
  exact z_19
 ·rw [if_neg c2] at H
  obtain ⟨c2b0, c2b1⟩ := xnq c2; by_cases c3 : a0.toList = ([105, 102] : List UInt8)
  ·rw [if_pos c3] at H
   obtain ⟨c3b0, c3b1⟩ := xbq c3; clear c3; obtain rfl := xsi H
   go_enter Try.func124, Try.ntmps124
   go_wp2
   go_ret
   exact z_19
  ·rw [if_neg c3] at H
   obtain ⟨c3b0, c3b1⟩ := xnq c3; by_cases c4 : a0.toList = ([101, 108, 115, 101] : List UInt8)
   ·rw [if_pos c4] at H
    obtain ⟨c4b0, c4b1⟩ := xbq c4; clear c4; obtain rfl := xsi H
    go_enter Try.func124, Try.ntmps124
    go_wp2
    go_ret
    exact z_19
   ·rw [if_neg c4] at H
    obtain ⟨c4b0, c4b1⟩ := xnq c4; by_cases c5 : a0.toList = ([119, 104, 105, 108, 101] : List UInt8)
    ·rw [if_pos c5] at H
     obtain ⟨c5b0, c5b1⟩ := xbq c5; clear c5; obtain rfl := xsi H
     go_enter Try.func124, Try.ntmps124
     go_wp2
     go_ret
     exact z_19
    ·rw [if_neg c5] at H
     obtain ⟨c5b0, c5b1⟩ := xnq c5; by_cases c6 : a0.toList = ([101, 109, 105, 116] : List UInt8)
     ·rw [if_pos c6] at H
      obtain ⟨c6b0, c6b1⟩ := xbq c6; clear c6; obtain rfl := xsi H
      go_enter Try.func124, Try.ntmps124
      go_wp2
      go_ret
      exact z_19
     ·rw [if_neg c6] at H
      obtain ⟨c6b0, c6b1⟩ := xnq c6; by_cases c7 : a0.toList = ([105, 110, 116, 111] : List UInt8)
      ·rw [if_pos c7] at H
       obtain ⟨c7b0, c7b1⟩ := xbq c7; clear c7; obtain rfl := xsi H
       go_enter Try.func124, Try.ntmps124
       go_wp2
       go_ret
       exact z_19
      ·rw [if_neg c7] at H
       obtain ⟨c7b0, c7b1⟩ := xnq c7; by_cases c8 : a0.toList = ([102, 97, 105, 108] : List UInt8)
       ·rw [if_pos c8] at H
        obtain ⟨c8b0, c8b1⟩ := xbq c8; clear c8; obtain rfl := xsi H
        go_enter Try.func124, Try.ntmps124
        go_wp2
        go_ret
        exact z_19
       ·rw [if_neg c8] at H
        obtain ⟨c8b0, c8b1⟩ := xnq c8; by_cases c9 : a0.toList = ([115, 116, 111, 112] : List UInt8)
        ·rw [if_pos c9] at H
         obtain ⟨c9b0, c9b1⟩ := xbq c9; clear c9; obtain rfl := xsi H
         go_enter Try.func124, Try.ntmps124
         go_wp2
         go_ret
         exact z_19
        ·rw [if_neg c9] at H
         obtain ⟨c9b0, c9b1⟩ := xnq c9; by_cases c10 : a0.toList = ([109] : List UInt8)
         ·rw [if_pos c10] at H
          obtain ⟨c10b0, c10b1⟩ := xbq c10; clear c10; obtain rfl := xsi H
          go_enter Try.func124, Try.ntmps124
          go_wp2
          go_ret
          exact z_19
         ·rw [if_neg c10] at H
          obtain ⟨c10b0, c10b1⟩ := xnq c10; by_cases c11 : a0.toList = ([109, 105, 110] : List UInt8)
          ·rw [if_pos c11] at H
           obtain ⟨c11b0, c11b1⟩ := xbq c11; clear c11; obtain rfl := xsi H
           go_enter Try.func124, Try.ntmps124
           go_wp2
           go_ret
           exact z_19
          ·rw [if_neg c11] at H
           obtain ⟨c11b0, c11b1⟩ := xnq c11; by_cases c12 : a0.toList = ([109, 97, 120] : List UInt8)
           ·rw [if_pos c12] at H
            obtain ⟨c12b0, c12b1⟩ := xbq c12; clear c12; obtain rfl := xsi H
            go_enter Try.func124, Try.ntmps124
            go_wp2
            go_ret
            exact z_19
           ·rw [if_neg c12] at H
            obtain ⟨c12b0, c12b1⟩ := xnq c12; obtain rfl := xsi H
            go_enter Try.func124, Try.ntmps124
            go_wp2
            go_ret
            exact z_19
mutual
def lex_Name.j0 : Nat → ByteArray → Bool → Option (Bool)
 | 0, _, _ => none
 | k + 1, x0, x20 => if x20 = true then (some false) else (lex_Name.l0 k x0 (x0.size : Int) 0)
def lex_Name.l0 : Nat → ByteArray → Int → Int → Option (Bool)
 | 0, _, _, _ => none
 | k + 1, x0, x22, x23 => if x23 < x22 then (if 0 ≤ x23 then (if x23 < (x0.size : Int) then ((lex_letter.f (bt x0 x23)).bind fun t115 => (if t115 = true then (lex_Name.l0 k x0 x22 (wrap64 (x23 + 1))) else ((lex_digit.f (bt x0 x23)).bind fun t116 => (if t116 = true then (lex_Name.l0 k x0 x22 (wrap64 (x23 + 1))) else (some false))))) else (none)) else (none)) else (some true)
end
def lex_Name.f (k : Nat) (a0 : ByteArray) : Option (Bool) := if a0.toList = ([] : List UInt8) then (lex_Name.j0 k a0 true) else (if (a0.size : Int) > 12 then (lex_Name.j0 k a0 true) else (if 0 < (a0.size : Int) then ((lex_letter.f (bt a0 0)).bind fun t113 => (if t113 = true then ((lex_Words.f a0).bind fun t114 => (lex_Name.j0 k a0 t114)) else (lex_Name.j0 k a0 true))) else (none)))
theorem lex_Name.mono_l : ∀ k, (∀ y0 y1, LeO (lex_Name.j0 k y0 y1) (lex_Name.j0 (k + 1) y0 y1)) ∧ (∀ y0 y1 y2, LeO (lex_Name.l0 k y0 y1 y2) (lex_Name.l0 (k + 1) y0 y1 y2))
 | 0 => ⟨fun _ _ r h => by simp [lex_Name.j0] at h, fun _ _ _ r h => by simp [lex_Name.l0] at h⟩
 | k + 1 => by
  obtain ⟨ih0, ih1⟩ := lex_Name.mono_l k; refine ⟨?_, ?_⟩
  ·intro y0 y1
   unfold lex_Name.j0
   repeat' first
   | (with_reducible exact ih0 _ _)
   | (with_reducible exact ih1 _ _ _)
   | (with_reducible exact LeO.refl _)
   | (with_reducible exact LeO.none _)
   | (with_reducible refine LeO.ite ?_ ?_)
   | (with_reducible refine LeO.bind ?_ (fun _ => ?_))
   | exact ih0 _ _
   | exact ih1 _ _ _
   | exact LeO.none _
   | refine LeO.ite ?_ ?_
   | refine LeO.bind ?_ (fun _ => ?_)
  ·intro y0 y1 y2
   unfold lex_Name.l0
   repeat' first
   | (with_reducible exact ih0 _ _)
   | (with_reducible exact ih1 _ _ _)
   | (with_reducible exact LeO.refl _)
   | (with_reducible exact LeO.none _)
   | (with_reducible refine LeO.ite ?_ ?_)
   | (with_reducible refine LeO.bind ?_ (fun _ => ?_))
   | exact ih0 _ _
   | exact ih1 _ _ _
   | exact LeO.none _
   | refine LeO.ite ?_ ?_
   | refine LeO.bind ?_ (fun _ => ?_)
theorem lex_Name.mono : ∀ a0 k, LeO (lex_Name.f k a0) (lex_Name.f (k + 1) a0) := by
 intro a0 k; obtain ⟨ih0, ih1⟩ := lex_Name.mono_l k; unfold lex_Name.f
 repeat' first
   | (with_reducible exact ih0 _ _)
   | (with_reducible exact ih1 _ _ _)
   | (with_reducible exact LeO.refl _)
   | (with_reducible exact LeO.none _)
   | (with_reducible refine LeO.ite ?_ ?_)
   | (with_reducible refine LeO.bind ?_ (fun _ => ?_))
   | exact ih0 _ _
   | exact ih1 _ _ _
   | exact LeO.none _
   | refine LeO.ite ?_ ?_
   | refine LeO.bind ?_ (fun _ => ?_)
theorem lex_Name.calls (k : Nat) (a0 : ByteArray) (r : Bool) (w : World) (h : lex_Name.f k a0 = some r) :
  Calls Try.prog 119 #[.string a0] w fun e w' => e = .returned (.bool r) ∧ Drawn0 w w' := by
 have H : (if a0.toList = ([] : List UInt8) then (lex_Name.j0 k a0 true) else (if (a0.size : Int) > 12 then (lex_Name.j0 k a0 true) else (if 0 < (a0.size : Int) then ((lex_letter.f (bt a0 0)).bind fun t113 => (if t113 = true then ((lex_Words.f a0).bind fun t114 => (lex_Name.j0 k a0 t114)) else (lex_Name.j0 k a0 true))) else (none)))) = some r := h; clear h; have HC2 := A_0 H; clear H
 go_enter Try.func119, Try.ntmps119
 go_upto_region 1 with (fail)
 go_cut [20] (fun v20 wc => ∃ (kq : Nat) (x20_1 : Bool), v20 = .bool x20_1 ∧ Aside0 (lex_Name.j0 kq a0 x20_1 = some r) ∧ Aside0 (kq ≤ k) ∧ Drawn0 w wc)
 case first =>
  have H := HC2.out; clear HC2; by_cases c3 : a0.toList = ([] : List UInt8)
  ·rw [if_pos c3] at H
   obtain ⟨c3b0, c3b1⟩ := xbq c3; clear c3
   (first | rw [c3b0] | (simp only [i64_w, i32_w]; rw [c3b0]) | skip)
   have H' := A_0 H; clear H
   go_wp2
   go_meet
   case rel => exact ⟨_, (true), (z_20), H', ⟨z_21⟩, z_22⟩
  ·rw [if_neg c3] at H
   obtain ⟨c3b0, c3b1⟩ := xnq c3
   (first | rw [c3b0] | (simp only [i64_w, i32_w]; rw [c3b0]) | skip)
   by_cases c4 : (a0.size : Int) > 12
   ·rw [if_pos c4] at H
    have c4b0 := xdt c4; have c4b1 : decide (12 < a0.size) = true := xdt (by omega); clear c4; have H' := A_0 H; clear H
    go_wp2
    go_meet
    case rel => exact ⟨_, (true), (z_20), H', ⟨z_21⟩, z_22⟩
   ·rw [if_neg c4] at H
    have c4b0 := xdf c4; have c4b1 : decide (12 < a0.size) = false := xdf (by omega); clear c4; by_cases c5 : 0 < (a0.size : Int)
    ·rw [if_pos c5] at H
     have c5b0 := xdt c5; have c5b1 : decide (0 < a0.size) = true := xdt (by omega); clear c5; replace H := Option.bind_eq_some_iff.mp H; obtain ⟨t113, A70, H⟩ := H; replace H : (if t113 = true then ((lex_Words.f a0).bind fun t114 => (lex_Name.j0 k a0 t114)) else (lex_Name.j0 k a0 true)) = some r := H; have A7 := A_0 A70; clear A70; by_cases c8 : t113 = true
     ·subst c8
      have H1 : ((lex_Words.f a0).bind fun t114 => (lex_Name.j0 k a0 t114)) = some r := z_23; clear H; have H := H1; clear H1; replace H := Option.bind_eq_some_iff.mp H; obtain ⟨t114, A90, H⟩ := H; replace H : (lex_Name.j0 k a0 t114) = some r := H; have A9 := A_0 A90; clear A90; have H' := A_0 H; clear H; have p6 : 0 ≤ (0 : Int) := (by omega); have q6 : 0 < a0.size := (z_24); have hx6 : ∀ h : 0 < a0.size, ((a0[0]'h).toNat : Int) = bt a0 0 := bt_at a0 0; clear p6; have qi6 : (0 < (a0.size : Int)) = True := eq_true (xod (z_25)); replace q6 := eq_true q6
      go_wp2_with (first | (go_at_call 98; (with_reducible refine (lex_letter.calls (bt a0 0) true _ A7.out).mono ?_); rintro e w' ⟨rfl, ⟨nd, rfl⟩⟩) | (go_at_call 124; (with_reducible refine (lex_Words.calls a0 t114 _ A9.out).mono ?_); rintro e w' ⟨rfl, ⟨nd, rfl⟩⟩))
      go_meet
      case rel => exact ⟨_, (t114), (z_20), H', ⟨z_21⟩, z_22⟩
     ·replace c8 := Bool.eq_false_iff.mpr c8
      subst c8; have H1 : (lex_Name.j0 k a0 true) = some r := z_26; clear H; have H := H1; clear H1; have H' := A_0 H; clear H; have p6 : 0 ≤ (0 : Int) := (by omega); have q6 : 0 < a0.size := (z_24); have hx6 : ∀ h : 0 < a0.size, ((a0[0]'h).toNat : Int) = bt a0 0 := bt_at a0 0; clear p6; have qi6 : (0 < (a0.size : Int)) = True := eq_true (xod (z_25)); replace q6 := eq_true q6
      go_wp2_with (first | (go_at_call 98; (with_reducible refine (lex_letter.calls (bt a0 0) false _ A7.out).mono ?_); rintro e w' ⟨rfl, ⟨nd, rfl⟩⟩))
      go_meet
      case rel => exact ⟨_, (true), (z_20), H', ⟨z_21⟩, z_22⟩
    ·rw [if_neg c5] at H
     exact z_27
 case rest =>
  clear HC2; obtain ⟨kq, x20_1, rfl, HA, HJ1, ⟨mc1, rfl⟩⟩ := hcut; cases kq with
  | zero => exact absurd HA.out (by simp [lex_Name.j0])
  | succ kj1 =>
   have H := HA.out; clear HA; simp only [lex_Name.j0] at H; by_cases c10 : x20_1 = true
   ·subst c10
    have H1 : (some false) = some r := z_23; clear H; have H := H1; clear H1; obtain rfl := xsi H
    go_wp2
    go_ret
    exact z_19
   ·replace c10 := Bool.eq_false_iff.mpr c10
    subst c10; have H1 : (lex_Name.l0 kj1 a0 (a0.size : Int) 0) = some r := z_26; clear H; have H := H1; clear H1; have H' := A_0 H; clear H
    go_wp2
    go_loopg [23] kj1 (fun kq v23 w' => ∃ (x23_2 : Int), v23 = .int .i64 x23_2 ∧ Aside0 (lex_Name.l0 kq a0 (a0.size : Int) x23_2 = some r) ∧ Aside0 (kq ≤ kj1) ∧ Drawn0 w w')
    case atStart => exact ⟨(0), (z_20), H', ⟨xlr _⟩, z_22⟩
    case round =>
     clear H'; obtain ⟨x23_2, rfl, HA, HK2, ⟨m2, rfl⟩⟩ := hrel; cases gk with
     | zero => exact absurd HA.out (by simp [lex_Name.l0])
     | succ k2 =>
      have H := HA.out; clear HA; simp only [lex_Name.l0] at H; by_cases c11 : x23_2 < (a0.size : Int)
      ·rw [if_pos c11] at H
       have c11b0 := xdt c11; clear c11; by_cases c12 : 0 ≤ x23_2
       ·rw [if_pos c12] at H
        have c12b0 := xdt c12; clear c12; by_cases c13 : x23_2 < (a0.size : Int)
        ·rw [if_pos c13] at H
         have c13b0 := xdt c13; clear c13; replace H := Option.bind_eq_some_iff.mp H; obtain ⟨t115, A150, H⟩ := H; replace H : (if t115 = true then (lex_Name.l0 k2 a0 (a0.size : Int) (wrap64 (x23_2 + 1))) else ((lex_digit.f (bt a0 x23_2)).bind fun t116 => (if t116 = true then (lex_Name.l0 k2 a0 (a0.size : Int) (wrap64 (x23_2 + 1))) else (some false)))) = some r := H; have A15 := A_0 A150; clear A150; by_cases c16 : t115 = true
         ·subst c16
          have H1 : (lex_Name.l0 k2 a0 (a0.size : Int) (wrap64 (x23_2 + 1))) = some r := z_23; clear H; have H := H1; clear H1; have H' := A_0 H; clear H; have p14 : 0 ≤ (x23_2 : Int) := xod (z_25); have q14 : x23_2 < (a0.size : Int) := xod (z_25); have hx14 := bt_at a0 x23_2; replace p14 := eq_true p14; replace q14 := eq_true q14
          go_wp2_with (first | ((with_reducible refine gate_callee (f := 98) rfl ?_); refine goesL_ (some 29) rfl rfl Try.func98 (by kernel_rfl) rfl #[.int .u8 (bt a0 x23_2)] rfl (z_28) ?_; (with_reducible refine (lex_letter.calls (bt a0 x23_2) true _ A15.out).mono ?_); rintro e w' ⟨rfl, ⟨nd, rfl⟩⟩; refine ⟨_, rfl, ?_⟩))
          go_roundg k2
          case measure => have := HJ1.out; have := HK2.out; omega
          case rel => exact ⟨(wrap64 (x23_2 + 1)), (z_20), H', ⟨by have := HJ1.out; have := HK2.out; omega⟩, z_22⟩
         ·replace c16 := Bool.eq_false_iff.mpr c16
          subst c16; have H1 : ((lex_digit.f (bt a0 x23_2)).bind fun t116 => (if t116 = true then (lex_Name.l0 k2 a0 (a0.size : Int) (wrap64 (x23_2 + 1))) else (some false))) = some r := z_26; clear H; have H := H1; clear H1; replace H := Option.bind_eq_some_iff.mp H; obtain ⟨t116, A180, H⟩ := H; replace H : (if t116 = true then (lex_Name.l0 k2 a0 (a0.size : Int) (wrap64 (x23_2 + 1))) else (some false)) = some r := H; have A18 := A_0 A180; clear A180; by_cases c19 : t116 = true
          ·subst c19
           have H1 : (lex_Name.l0 k2 a0 (a0.size : Int) (wrap64 (x23_2 + 1))) = some r := z_23; clear H; have H := H1; clear H1; have H' := A_0 H; clear H; have p14 : 0 ≤ (x23_2 : Int) := xod (z_25); have q14 : x23_2 < (a0.size : Int) := xod (z_25); have hx14 := bt_at a0 x23_2; replace p14 := eq_true p14; replace q14 := eq_true q14
           go_wp2_with (first | ((with_reducible refine gate_callee (f := 98) rfl ?_); refine goesL_ (some 29) rfl rfl Try.func98 (by kernel_rfl) rfl #[.int .u8 (bt a0 x23_2)] rfl (z_28) ?_; (with_reducible refine (lex_letter.calls (bt a0 x23_2) false _ A15.out).mono ?_); rintro e w' ⟨rfl, ⟨nd, rfl⟩⟩; refine ⟨_, rfl, ?_⟩; have p17 : 0 ≤ (x23_2 : Int) := xod (z_25); have q17 : x23_2 < (a0.size : Int) := xod (z_25); have hx17 := bt_at a0 x23_2; replace p17 := eq_true p17; replace q17 := eq_true q17) | (go_at_call 96; (with_reducible refine (lex_digit.calls (bt a0 x23_2) true _ A18.out).mono ?_); rintro e w' ⟨rfl, ⟨nd, rfl⟩⟩))
           go_roundg k2
           case measure => have := HJ1.out; have := HK2.out; omega
           case rel => exact ⟨(wrap64 (x23_2 + 1)), (z_20), H', ⟨by have := HJ1.out; have := HK2.out; omega⟩, z_22⟩
          ·replace c19 := Bool.eq_false_iff.mpr c19
           subst c19; have H1 : (some false) = some r := z_26; clear H; have H := H1; clear H1; obtain rfl := xsi H; have p14 : 0 ≤ (x23_2 : Int) := xod (z_25); have q14 : x23_2 < (a0.size : Int) := xod (z_25); have hx14 := bt_at a0 x23_2; replace p14 := eq_true p14; replace q14 := eq_true q14
           go_wp2_with (first | ((with_reducible refine gate_callee (f := 98) rfl ?_); refine goesL_ (some 29) rfl rfl Try.func98 (by kernel_rfl) rfl #[.int .u8 (bt a0 x23_2)] rfl (z_28) ?_; (with_reducible refine (lex_letter.calls (bt a0 x23_2) false _ A15.out).mono ?_); rintro e w' ⟨rfl, ⟨nd, rfl⟩⟩; refine ⟨_, rfl, ?_⟩; have p17 : 0 ≤ (x23_2 : Int) := xod (z_25); have q17 : x23_2 < (a0.size : Int) := xod (z_25); have hx17 := bt_at a0 x23_2; replace p17 := eq_true p17; replace q17 := eq_true q17) | (go_at_call 96; (with_reducible refine (lex_digit.calls (bt a0 x23_2) false _ A18.out).mono ?_); rintro e w' ⟨rfl, ⟨nd, rfl⟩⟩))
           go_ret
           exact z_19
        ·rw [if_neg c13] at H
         exact z_27
       ·rw [if_neg c12] at H
        exact z_27
      ·rw [if_neg c11] at H
       have c11b0 := xdf c11; clear c11; obtain rfl := xsi H
       go_wp2
       go_ret
       exact z_19
mutual
def tree_fields.j0 : Nat → Bool → Int → Int → ByteArray → Int → List (S38) → Option (Bool)
 | 0, _, _, _, _, _, _ => none
 | k + 1, x3, x118000, x118001, x118002, x118003, x118004 => if x118000 = 2 then ((lex_Name.f k x118002).bind fun t118 => (if t118 = true then (tree_fields.j1 k x3 true x118000 x118001 x118002 x118003 x118004) else (tree_fields.j1 k x3 false x118000 x118001 x118002 x118003 x118004))) else (tree_fields.j1 k x3 (x118002.toList == ([] : List UInt8)) x118000 x118001 x118002 x118003 x118004)
def tree_fields.j1 : Nat → Bool → Bool → Int → Int → ByteArray → Int → List (S38) → Option (Bool)
 | 0, _, _, _, _, _, _, _ => none
 | k + 1, x3, x4, x118000, x118001, x118002, x118003, x118004 => if x118000 = 4 then (if x118003 ≥ 19 then (if x3 = true then (if x4 = true then (some (decide (x118003 ≤ 21))) else (some false)) else (some false)) else (if x3 = true then (if x4 = true then (some false) else (some false)) else (some false))) else (if x118000 = 5 then (if x118003 ≥ 1 then (if x3 = true then (if x4 = true then (some (decide (x118003 ≤ 18))) else (some false)) else (some false)) else (if x3 = true then (if x4 = true then (some false) else (some false)) else (some false))) else (if x3 = true then (if x4 = true then (some (x118003 == 0)) else (some false)) else (some false)))
end
def tree_fields.f (k : Nat) (a0_0 : Int) (a0_1 : Int) (a0_2 : ByteArray) (a0_3 : Int) (l0_4 : List (S38)) : Option (Bool) := if a0_0 = 1 then (if a0_1 ≥ 0 then (tree_fields.j0 k true a0_0 a0_1 a0_2 a0_3 l0_4) else (tree_fields.j0 k false a0_0 a0_1 a0_2 a0_3 l0_4)) else (tree_fields.j0 k (a0_1 == 0) a0_0 a0_1 a0_2 a0_3 l0_4)
theorem tree_fields.calls (k : Nat) (a0_0 : Int) (a0_1 : Int) (a0_2 : ByteArray) (a0_3 : Int) (A0_4 : Option Addr) (c0_4 : Nat) (l0_4 : List (S38)) (r : Bool) (w : World) (hr0_4 : Kd.C k38 w A0_4 l0_4.length l0_4) (hc0_4 : l0_4.length ≤ c0_4) (h : tree_fields.f k a0_0 a0_1 a0_2 a0_3 l0_4 = some r) :
  Calls Try.prog 136 #[.agg #[.int .i64 a0_0, .int .i64 a0_1, .string a0_2, .int .i64 a0_3, .slice A0_4 l0_4.length c0_4]] w fun e w' => e = .returned (.bool r) ∧ Below w.heap.size w w' := by
 have hu38 := Try.underlying38; have HR0_4 := A_0 hr0_4; have HC0_4 := A_0 hc0_4; clear hr0_4 hc0_4; have HB := A_0 (xbr w.heap.size w); have H : (if a0_0 = 1 then (if a0_1 ≥ 0 then (tree_fields.j0 k true a0_0 a0_1 a0_2 a0_3 l0_4) else (tree_fields.j0 k false a0_0 a0_1 a0_2 a0_3 l0_4)) else (tree_fields.j0 k (a0_1 == 0) a0_0 a0_1 a0_2 a0_3 l0_4)) = some r := h; clear h; have HC2 := A_0 H; clear H
 go_enter Try.func136, Try.ntmps136
 go_upto_region 1 with (first | ((with_reducible refine gate_dst (N := 1) rfl ?_); refine bx (a38 a0_0 a0_1 a0_2 a0_3 A0_4 l0_4.length c0_4) 38 ?_; intro gb117 hg w3 hbox hb; have BK117 := A_0 (hbox); have GW117 := A_0 ((z_29 : w.heap.size ≤ gb117)); have GE117 := A_0 ((z_29 : w.heap.size ≤ gb117)); replace HB := A_0 (xbs (z_12) hb); clear hb hbox hg))
 (try simp only [Act.put, List.setIfInBounds_toArray, List.set_cons_zero, List.set_cons_succ])
 go_cut [3] (fun v3 wc => ∃ (kq : Nat) (x3_1 : Bool), v3 = .bool x3_1 ∧ Aside0 (tree_fields.j0 kq x3_1 a0_0 a0_1 a0_2 a0_3 l0_4 = some r) ∧ Aside0 (kq ≤ k) ∧ Aside0 (wc.heap[gb117]? = some (.cells #[.int .i64 a0_0, .int .i64 a0_1, .string a0_2, .int .i64 a0_3, (.slice A0_4 l0_4.length c0_4)] 38 (0, 0))) ∧ Aside0 (Below w.heap.size w wc))
 case first =>
  have H := HC2.out; clear HC2; by_cases c4 : a0_0 = 1
  ·rw [if_pos c4] at H
   obtain ⟨c4b0, c4b1⟩ := xbq c4; clear c4
   (first | rw [c4b0] | (simp only [i64_w, i32_w]; rw [c4b0]) | skip)
   by_cases c5 : a0_1 ≥ 0
   ·rw [if_pos c5] at H
    have c5b0 := xdt c5; clear c5; have H' := A_0 H; clear H; obtain ⟨hcz6_0, hcz6_1, hcz6_2, hcz6_3, hcz6_4⟩ := blkc5 BK117.out; obtain ⟨hfz6_0, hfz6_1, hfz6_2, hfz6_3, hfz6_4⟩ := blkf5 BK117.out
    go_wp2
    go_meet
    case rel => exact ⟨_, (true), (z_20), H', ⟨z_21⟩, ⟨z_30⟩, ⟨z_31⟩⟩
   ·rw [if_neg c5] at H
    have c5b0 := xdf c5; clear c5; have H' := A_0 H; clear H; obtain ⟨hcz7_0, hcz7_1, hcz7_2, hcz7_3, hcz7_4⟩ := blkc5 BK117.out; obtain ⟨hfz7_0, hfz7_1, hfz7_2, hfz7_3, hfz7_4⟩ := blkf5 BK117.out
    go_wp2
    go_meet
    case rel => exact ⟨_, (false), (z_20), H', ⟨z_21⟩, ⟨z_30⟩, ⟨z_31⟩⟩
  ·rw [if_neg c4] at H
   obtain ⟨c4b0, c4b1⟩ := xnq c4
   (first | rw [c4b0] | (simp only [i64_w, i32_w]; rw [c4b0]) | skip)
   have H' := A_0 H; clear H; obtain ⟨hcz8_0, hcz8_1, hcz8_2, hcz8_3, hcz8_4⟩ := blkc5 BK117.out; obtain ⟨hfz8_0, hfz8_1, hfz8_2, hfz8_3, hfz8_4⟩ := blkf5 BK117.out
   go_wp2
   go_meet
   case rel => exact ⟨_, ((a0_1 == 0)), (z_20), H', ⟨z_21⟩, ⟨z_30⟩, ⟨z_31⟩⟩
 case rest =>
  clear HC2; obtain ⟨kq, x3_1, rfl, HA, HJ1, BK117, HB⟩ := hcut; cases kq with
  | zero => exact absurd HA.out (by simp [tree_fields.j0])
  | succ kj1 =>
   have H := HA.out; clear HA; simp only [tree_fields.j0] at H; have HC9 := A_0 H; clear H; go_upto_region 2 with (fail)
   go_cut [4] (fun v4 wc => ∃ (kq : Nat) (x4_8 : Bool), v4 = .bool x4_8 ∧ Aside0 (tree_fields.j1 kq x3_1 x4_8 a0_0 a0_1 a0_2 a0_3 l0_4 = some r) ∧ Aside0 (kq ≤ kj1) ∧ Aside0 (wc.heap[gb117]? = some (.cells #[.int .i64 a0_0, .int .i64 a0_1, .string a0_2, .int .i64 a0_3, (.slice A0_4 l0_4.length c0_4)] 38 (0, 0))) ∧ Aside0 (Below w.heap.size w wc))
   case first =>
    have H := HC9.out; clear HC9; by_cases c10 : a0_0 = 2
    ·rw [if_pos c10] at H
     obtain ⟨c10b0, c10b1⟩ := xbq c10; clear c10
     (first | rw [c10b0] | (simp only [i64_w, i32_w]; rw [c10b0]) | skip)
     replace H := Option.bind_eq_some_iff.mp H; obtain ⟨t118, A110, H⟩ := H; replace H : (if t118 = true then (tree_fields.j1 kj1 x3_1 true a0_0 a0_1 a0_2 a0_3 l0_4) else (tree_fields.j1 kj1 x3_1 false a0_0 a0_1 a0_2 a0_3 l0_4)) = some r := H; have A11 := A_0 A110; clear A110; by_cases c12 : t118 = true
     ·subst c12
      have H1 : (tree_fields.j1 kj1 x3_1 true a0_0 a0_1 a0_2 a0_3 l0_4) = some r := z_23; clear H; have H := H1; clear H1; have H' := A_0 H; clear H; obtain ⟨hcz13_0, hcz13_1, hcz13_2, hcz13_3, hcz13_4⟩ := blkc5 BK117.out; obtain ⟨hfz13_0, hfz13_1, hfz13_2, hfz13_3, hfz13_4⟩ := blkf5 BK117.out
      go_wp2_with (first | (go_at_call 119; (with_reducible refine (lex_Name.calls kj1 a0_2 true _ A11.out).mono ?_); rintro e w' ⟨rfl, ⟨nd, rfl⟩⟩))
      go_meet
      case rel => exact ⟨_, (true), (z_20), H', ⟨z_32⟩, ⟨z_30⟩, ⟨z_31⟩⟩
     ·replace c12 := Bool.eq_false_iff.mpr c12
      subst c12; have H1 : (tree_fields.j1 kj1 x3_1 false a0_0 a0_1 a0_2 a0_3 l0_4) = some r := z_26; clear H; have H := H1; clear H1; have H' := A_0 H; clear H; obtain ⟨hcz14_0, hcz14_1, hcz14_2, hcz14_3, hcz14_4⟩ := blkc5 BK117.out; obtain ⟨hfz14_0, hfz14_1, hfz14_2, hfz14_3, hfz14_4⟩ := blkf5 BK117.out
      go_wp2_with (first | (go_at_call 119; (with_reducible refine (lex_Name.calls kj1 a0_2 false _ A11.out).mono ?_); rintro e w' ⟨rfl, ⟨nd, rfl⟩⟩))
      go_meet
      case rel => exact ⟨_, (false), (z_20), H', ⟨z_32⟩, ⟨z_30⟩, ⟨z_31⟩⟩
    ·rw [if_neg c10] at H
     obtain ⟨c10b0, c10b1⟩ := xnq c10
     (first | rw [c10b0] | (simp only [i64_w, i32_w]; rw [c10b0]) | skip)
     have H' := A_0 H; clear H; obtain ⟨hcz15_0, hcz15_1, hcz15_2, hcz15_3, hcz15_4⟩ := blkc5 BK117.out; obtain ⟨hfz15_0, hfz15_1, hfz15_2, hfz15_3, hfz15_4⟩ := blkf5 BK117.out
     go_wp2
     go_meet
     case rel => exact ⟨_, ((a0_2.toList == ([] : List UInt8))), (z_20), H', ⟨z_32⟩, ⟨z_30⟩, ⟨z_31⟩⟩
   case rest =>
    clear HC9; obtain ⟨kq, x4_8, rfl, HA, HJ8, BK117, HB⟩ := hcut; cases kq with
    | zero => exact absurd HA.out (by simp [tree_fields.j1])
    | succ kj8 =>
     have H := HA.out; clear HA; simp only [tree_fields.j1] at H; by_cases c16 : a0_0 = 4
     ·rw [if_pos c16] at H
      obtain ⟨c16b0, c16b1⟩ := xbq c16; clear c16; by_cases c17 : a0_3 ≥ 19
      ·rw [if_pos c17] at H
       have c17b0 := xdt c17; clear c17; by_cases c18 : x3_1 = true
       ·subst c18
        have H1 : (if x4_8 = true then (some (decide (a0_3 ≤ 21))) else (some false)) = some r := z_23; clear H; have H := H1; clear H1; by_cases c19 : x4_8 = true
        ·subst c19
         have H1 : (some (decide (a0_3 ≤ 21))) = some r := z_23; clear H; have H := H1; clear H1; obtain rfl := xsi H; obtain ⟨hcz20_0, hcz20_1, hcz20_2, hcz20_3, hcz20_4⟩ := blkc5 BK117.out; obtain ⟨hfz20_0, hfz20_1, hfz20_2, hfz20_3, hfz20_4⟩ := blkf5 BK117.out
         go_wp2
         go_ret
         exact ⟨z_17, z_31⟩
        ·replace c19 := Bool.eq_false_iff.mpr c19
         subst c19; have H1 : (some false) = some r := z_26; clear H; have H := H1; clear H1; obtain rfl := xsi H; obtain ⟨hcz21_0, hcz21_1, hcz21_2, hcz21_3, hcz21_4⟩ := blkc5 BK117.out; obtain ⟨hfz21_0, hfz21_1, hfz21_2, hfz21_3, hfz21_4⟩ := blkf5 BK117.out
         go_wp2
         go_ret
         exact ⟨z_17, z_31⟩
       ·replace c18 := Bool.eq_false_iff.mpr c18
        subst c18; have H1 : (some false) = some r := z_26; clear H; have H := H1; clear H1; obtain rfl := xsi H; obtain ⟨hcz22_0, hcz22_1, hcz22_2, hcz22_3, hcz22_4⟩ := blkc5 BK117.out; obtain ⟨hfz22_0, hfz22_1, hfz22_2, hfz22_3, hfz22_4⟩ := blkf5 BK117.out
        go_wp2
        go_ret
        exact ⟨z_17, z_31⟩
      ·rw [if_neg c17] at H
       have c17b0 := xdf c17; clear c17; by_cases c23 : x3_1 = true
       ·subst c23
        have H1 : (if x4_8 = true then (some false) else (some false)) = some r := z_23; clear H; have H := H1; clear H1; by_cases c24 : x4_8 = true
        ·subst c24
         have H1 : (some false) = some r := z_23; clear H; have H := H1; clear H1; obtain rfl := xsi H; obtain ⟨hcz25_0, hcz25_1, hcz25_2, hcz25_3, hcz25_4⟩ := blkc5 BK117.out; obtain ⟨hfz25_0, hfz25_1, hfz25_2, hfz25_3, hfz25_4⟩ := blkf5 BK117.out
         go_wp2
         go_ret
         exact ⟨z_17, z_31⟩
        ·replace c24 := Bool.eq_false_iff.mpr c24
         subst c24; have H1 : (some false) = some r := z_26; clear H; have H := H1; clear H1; obtain rfl := xsi H; obtain ⟨hcz26_0, hcz26_1, hcz26_2, hcz26_3, hcz26_4⟩ := blkc5 BK117.out; obtain ⟨hfz26_0, hfz26_1, hfz26_2, hfz26_3, hfz26_4⟩ := blkf5 BK117.out
         go_wp2
         go_ret
         exact ⟨z_17, z_31⟩
       ·replace c23 := Bool.eq_false_iff.mpr c23
        subst c23; have H1 : (some false) = some r := z_26; clear H; have H := H1; clear H1; obtain rfl := xsi H; obtain ⟨hcz27_0, hcz27_1, hcz27_2, hcz27_3, hcz27_4⟩ := blkc5 BK117.out; obtain ⟨hfz27_0, hfz27_1, hfz27_2, hfz27_3, hfz27_4⟩ := blkf5 BK117.out
        go_wp2
        go_ret
        exact ⟨z_17, z_31⟩
     ·rw [if_neg c16] at H
      obtain ⟨c16b0, c16b1⟩ := xnq c16; by_cases c28 : a0_0 = 5
      ·rw [if_pos c28] at H
       obtain ⟨c28b0, c28b1⟩ := xbq c28; clear c28; by_cases c29 : a0_3 ≥ 1
       ·rw [if_pos c29] at H
        have c29b0 := xdt c29; clear c29; by_cases c30 : x3_1 = true
        ·subst c30
         have H1 : (if x4_8 = true then (some (decide (a0_3 ≤ 18))) else (some false)) = some r := z_23; clear H; have H := H1; clear H1; by_cases c31 : x4_8 = true
         ·subst c31
          have H1 : (some (decide (a0_3 ≤ 18))) = some r := z_23; clear H; have H := H1; clear H1; obtain rfl := xsi H; obtain ⟨hcz32_0, hcz32_1, hcz32_2, hcz32_3, hcz32_4⟩ := blkc5 BK117.out; obtain ⟨hfz32_0, hfz32_1, hfz32_2, hfz32_3, hfz32_4⟩ := blkf5 BK117.out
          go_wp2
          go_ret
          exact ⟨z_17, z_31⟩
         ·replace c31 := Bool.eq_false_iff.mpr c31
          subst c31; have H1 : (some false) = some r := z_26; clear H; have H := H1; clear H1; obtain rfl := xsi H; obtain ⟨hcz33_0, hcz33_1, hcz33_2, hcz33_3, hcz33_4⟩ := blkc5 BK117.out; obtain ⟨hfz33_0, hfz33_1, hfz33_2, hfz33_3, hfz33_4⟩ := blkf5 BK117.out
          go_wp2
          go_ret
          exact ⟨z_17, z_31⟩
        ·replace c30 := Bool.eq_false_iff.mpr c30
         subst c30; have H1 : (some false) = some r := z_26; clear H; have H := H1; clear H1; obtain rfl := xsi H; obtain ⟨hcz34_0, hcz34_1, hcz34_2, hcz34_3, hcz34_4⟩ := blkc5 BK117.out; obtain ⟨hfz34_0, hfz34_1, hfz34_2, hfz34_3, hfz34_4⟩ := blkf5 BK117.out
         go_wp2
         go_ret
         exact ⟨z_17, z_31⟩
       ·rw [if_neg c29] at H
        have c29b0 := xdf c29; clear c29; by_cases c35 : x3_1 = true
        ·subst c35
         have H1 : (if x4_8 = true then (some false) else (some false)) = some r := z_23; clear H; have H := H1; clear H1; by_cases c36 : x4_8 = true
         ·subst c36
          have H1 : (some false) = some r := z_23; clear H; have H := H1; clear H1; obtain rfl := xsi H; obtain ⟨hcz37_0, hcz37_1, hcz37_2, hcz37_3, hcz37_4⟩ := blkc5 BK117.out; obtain ⟨hfz37_0, hfz37_1, hfz37_2, hfz37_3, hfz37_4⟩ := blkf5 BK117.out
          go_wp2
          go_ret
          exact ⟨z_17, z_31⟩
         ·replace c36 := Bool.eq_false_iff.mpr c36
          subst c36; have H1 : (some false) = some r := z_26; clear H; have H := H1; clear H1; obtain rfl := xsi H; obtain ⟨hcz38_0, hcz38_1, hcz38_2, hcz38_3, hcz38_4⟩ := blkc5 BK117.out; obtain ⟨hfz38_0, hfz38_1, hfz38_2, hfz38_3, hfz38_4⟩ := blkf5 BK117.out
          go_wp2
          go_ret
          exact ⟨z_17, z_31⟩
        ·replace c35 := Bool.eq_false_iff.mpr c35
         subst c35; have H1 : (some false) = some r := z_26; clear H; have H := H1; clear H1; obtain rfl := xsi H; obtain ⟨hcz39_0, hcz39_1, hcz39_2, hcz39_3, hcz39_4⟩ := blkc5 BK117.out; obtain ⟨hfz39_0, hfz39_1, hfz39_2, hfz39_3, hfz39_4⟩ := blkf5 BK117.out
         go_wp2
         go_ret
         exact ⟨z_17, z_31⟩
      ·rw [if_neg c28] at H
       obtain ⟨c28b0, c28b1⟩ := xnq c28; by_cases c40 : x3_1 = true
       ·subst c40
        have H1 : (if x4_8 = true then (some (a0_3 == 0)) else (some false)) = some r := z_23; clear H; have H := H1; clear H1; by_cases c41 : x4_8 = true
        ·subst c41
         have H1 : (some (a0_3 == 0)) = some r := z_23; clear H; have H := H1; clear H1; obtain rfl := xsi H; obtain ⟨hcz42_0, hcz42_1, hcz42_2, hcz42_3, hcz42_4⟩ := blkc5 BK117.out; obtain ⟨hfz42_0, hfz42_1, hfz42_2, hfz42_3, hfz42_4⟩ := blkf5 BK117.out
         go_wp2
         go_ret
         exact ⟨z_17, z_31⟩
        ·replace c41 := Bool.eq_false_iff.mpr c41
         subst c41; have H1 : (some false) = some r := z_26; clear H; have H := H1; clear H1; obtain rfl := xsi H; obtain ⟨hcz43_0, hcz43_1, hcz43_2, hcz43_3, hcz43_4⟩ := blkc5 BK117.out; obtain ⟨hfz43_0, hfz43_1, hfz43_2, hfz43_3, hfz43_4⟩ := blkf5 BK117.out
         go_wp2
         go_ret
         exact ⟨z_17, z_31⟩
       ·replace c40 := Bool.eq_false_iff.mpr c40
        subst c40; have H1 : (some false) = some r := z_26; clear H; have H := H1; clear H1; obtain rfl := xsi H; obtain ⟨hcz44_0, hcz44_1, hcz44_2, hcz44_3, hcz44_4⟩ := blkc5 BK117.out; obtain ⟨hfz44_0, hfz44_1, hfz44_2, hfz44_3, hfz44_4⟩ := blkf5 BK117.out
        go_wp2
        go_ret
        exact ⟨z_17, z_31⟩
def num_size.f (a0 : Int) : Option (Int) := if a0 < 0 then (some (IntKind.u64.wrap (-(IntKind.u64.wrap (a0))))) else (some (IntKind.u64.wrap (a0)))
theorem num_size.calls (a0 : Int) (r : Int) (w : World) (h : num_size.f a0 = some r) :
  Calls Try.prog 101 #[.int .i64 a0] w fun e w' => e = .returned (.int .u64 r) ∧ Drawn0 w w' := by
 have H : (if a0 < 0 then (some (IntKind.u64.wrap (-(IntKind.u64.wrap (a0))))) else (some (IntKind.u64.wrap (a0)))) = some r := h; clear h; by_cases c2 : a0 < 0
 ·rw [if_pos c2] at H
  have c2b0 := xdt c2; clear c2; obtain rfl := xsi H
  go_enter Try.func101, Try.ntmps101
  go_wp2
  go_ret
  exact z_19
 ·rw [if_neg c2] at H
  have c2b0 := xdf c2; clear c2; obtain rfl := xsi H
  go_enter Try.func101, Try.ntmps101
  go_wp2
  go_ret
  exact z_19
def show_one.f (a0 : Int) : Option (ByteArray) := if a0 = 19 then (some (⟨#[45]⟩ : ByteArray)) else (if a0 = 20 then (some (⟨#[126]⟩ : ByteArray)) else (some (⟨#[33]⟩ : ByteArray)))
theorem show_one.calls (a0 : Int) (r : ByteArray) (w : World) (h : show_one.f a0 = some r) :
  Calls Try.prog 67 #[.int .i64 a0] w fun e w' => e = .returned (.string r) ∧ Drawn0 w w' := by
 have H : (if a0 = 19 then (some (⟨#[45]⟩ : ByteArray)) else (if a0 = 20 then (some (⟨#[126]⟩ : ByteArray)) else (some (⟨#[33]⟩ : ByteArray)))) = some r := h; clear h; by_cases c2 : a0 = 19
 ·rw [if_pos c2] at H
  obtain ⟨c2b0, c2b1⟩ := xbq c2; clear c2; obtain rfl := xsi H
  go_enter Try.func67, Try.ntmps67
  go_wp2
  go_ret
  exact z_19
 ·rw [if_neg c2] at H
  obtain ⟨c2b0, c2b1⟩ := xnq c2; by_cases c3 : a0 = 20
  ·rw [if_pos c3] at H
   obtain ⟨c3b0, c3b1⟩ := xbq c3; clear c3; obtain rfl := xsi H
   go_enter Try.func67, Try.ntmps67
   go_wp2
   go_ret
   exact z_19
  ·rw [if_neg c3] at H
   obtain ⟨c3b0, c3b1⟩ := xnq c3; obtain rfl := xsi H
   go_enter Try.func67, Try.ntmps67
   go_wp2
   go_ret
   exact z_19
def tree_Rank.f (a0 : ByteArray) : Option (Int × Int) := if a0.toList = ([124] : List UInt8) then (some (1, 7)) else (if a0.toList = ([94] : List UInt8) then (some (2, 8)) else (if a0.toList = ([38] : List UInt8) then (some (3, 6)) else (if a0.toList = ([61, 61] : List UInt8) then (some (4, 11)) else (if a0.toList = ([33, 61] : List UInt8) then (some (4, 12)) else (if a0.toList = ([60] : List UInt8) then (some (5, 13)) else (if a0.toList = ([60, 61] : List UInt8) then (some (5, 14)) else (if a0.toList = ([62] : List UInt8) then (some (5, 15)) else (if a0.toList = ([62, 61] : List UInt8) then (some (5, 16)) else (if a0.toList = ([60, 60] : List UInt8) then (some (6, 9)) else (if a0.toList = ([62, 62] : List UInt8) then (some (6, 10)) else (if a0.toList = ([43] : List UInt8) then (some (7, 1)) else (if a0.toList = ([45] : List UInt8) then (some (7, 2)) else (if a0.toList = ([42] : List UInt8) then (some (8, 3)) else (if a0.toList = ([47] : List UInt8) then (some (8, 4)) else (if a0.toList = ([37] : List UInt8) then (some (8, 5)) else (some (0, 0)))))))))))))))))
theorem tree_Rank.calls (a0 : ByteArray) (r1 : Int) (r2 : Int) (w : World) (h : tree_Rank.f a0 = some (r1, r2)) :
  Calls Try.prog 21 #[.string a0] w fun e w' => e = .returned (.tuple #[.int .i64 r1, .int .i64 r2]) ∧ Drawn0 w w' := by
 have H : (if a0.toList = ([124] : List UInt8) then (some (1, 7)) else (if a0.toList = ([94] : List UInt8) then (some (2, 8)) else (if a0.toList = ([38] : List UInt8) then (some (3, 6)) else (if a0.toList = ([61, 61] : List UInt8) then (some (4, 11)) else (if a0.toList = ([33, 61] : List UInt8) then (some (4, 12)) else (if a0.toList = ([60] : List UInt8) then (some (5, 13)) else (if a0.toList = ([60, 61] : List UInt8) then (some (5, 14)) else (if a0.toList = ([62] : List UInt8) then (some (5, 15)) else (if a0.toList = ([62, 61] : List UInt8) then (some (5, 16)) else (if a0.toList = ([60, 60] : List UInt8) then (some (6, 9)) else (if a0.toList = ([62, 62] : List UInt8) then (some (6, 10)) else (if a0.toList = ([43] : List UInt8) then (some (7, 1)) else (if a0.toList = ([45] : List UInt8) then (some (7, 2)) else (if a0.toList = ([42] : List UInt8) then (some (8, 3)) else (if a0.toList = ([47] : List UInt8) then (some (8, 4)) else (if a0.toList = ([37] : List UInt8) then (some (8, 5)) else (some (0, 0)))))))))))))))))) = some (r1, r2) := h; clear h; by_cases c2 : a0.toList = ([124] : List UInt8)
 ·rw [if_pos c2] at H
  obtain ⟨c2b0, c2b1⟩ := xbq c2; clear c2; simp only [Option.some.injEq, Prod.mk.injEq] at H; obtain ⟨rfl, rfl⟩ := H
  go_enter Try.func21, Try.ntmps21
  go_wp2
  go_ret2
  exact z_19
 ·rw [if_neg c2] at H
  obtain ⟨c2b0, c2b1⟩ := xnq c2; by_cases c3 : a0.toList = ([94] : List UInt8)
  ·rw [if_pos c3] at H
   obtain ⟨c3b0, c3b1⟩ := xbq c3; clear c3; simp only [Option.some.injEq, Prod.mk.injEq] at H; obtain ⟨rfl, rfl⟩ := H
   go_enter Try.func21, Try.ntmps21
   go_wp2
   go_ret2
   exact z_19
  ·rw [if_neg c3] at H
   obtain ⟨c3b0, c3b1⟩ := xnq c3; by_cases c4 : a0.toList = ([38] : List UInt8)
   ·rw [if_pos c4] at H
    obtain ⟨c4b0, c4b1⟩ := xbq c4; clear c4; simp only [Option.some.injEq, Prod.mk.injEq] at H; obtain ⟨rfl, rfl⟩ := H
    go_enter Try.func21, Try.ntmps21
    go_wp2
    go_ret2
    exact z_19
   ·rw [if_neg c4] at H
    obtain ⟨c4b0, c4b1⟩ := xnq c4; by_cases c5 : a0.toList = ([61, 61] : List UInt8)
    ·rw [if_pos c5] at H
     obtain ⟨c5b0, c5b1⟩ := xbq c5; clear c5; simp only [Option.some.injEq, Prod.mk.injEq] at H; obtain ⟨rfl, rfl⟩ := H
     go_enter Try.func21, Try.ntmps21
     go_wp2
     go_ret2
     exact z_19
    ·rw [if_neg c5] at H
     obtain ⟨c5b0, c5b1⟩ := xnq c5; by_cases c6 : a0.toList = ([33, 61] : List UInt8)
     ·rw [if_pos c6] at H
      obtain ⟨c6b0, c6b1⟩ := xbq c6; clear c6; simp only [Option.some.injEq, Prod.mk.injEq] at H; obtain ⟨rfl, rfl⟩ := H
      go_enter Try.func21, Try.ntmps21
      go_wp2
      go_ret2
      exact z_19
     ·rw [if_neg c6] at H
      obtain ⟨c6b0, c6b1⟩ := xnq c6; by_cases c7 : a0.toList = ([60] : List UInt8)
      ·rw [if_pos c7] at H
       obtain ⟨c7b0, c7b1⟩ := xbq c7; clear c7; simp only [Option.some.injEq, Prod.mk.injEq] at H; obtain ⟨rfl, rfl⟩ := H
       go_enter Try.func21, Try.ntmps21
       go_wp2
       go_ret2
       exact z_19
      ·rw [if_neg c7] at H
       obtain ⟨c7b0, c7b1⟩ := xnq c7; by_cases c8 : a0.toList = ([60, 61] : List UInt8)
       ·rw [if_pos c8] at H
        obtain ⟨c8b0, c8b1⟩ := xbq c8; clear c8; simp only [Option.some.injEq, Prod.mk.injEq] at H; obtain ⟨rfl, rfl⟩ := H
        go_enter Try.func21, Try.ntmps21
        go_wp2
        go_ret2
        exact z_19
       ·rw [if_neg c8] at H
        obtain ⟨c8b0, c8b1⟩ := xnq c8; by_cases c9 : a0.toList = ([62] : List UInt8)
        ·rw [if_pos c9] at H
         obtain ⟨c9b0, c9b1⟩ := xbq c9; clear c9; simp only [Option.some.injEq, Prod.mk.injEq] at H; obtain ⟨rfl, rfl⟩ := H
         go_enter Try.func21, Try.ntmps21
         go_wp2
         go_ret2
         exact z_19
        ·rw [if_neg c9] at H
         obtain ⟨c9b0, c9b1⟩ := xnq c9; by_cases c10 : a0.toList = ([62, 61] : List UInt8)
         ·rw [if_pos c10] at H
          obtain ⟨c10b0, c10b1⟩ := xbq c10; clear c10; simp only [Option.some.injEq, Prod.mk.injEq] at H; obtain ⟨rfl, rfl⟩ := H
          go_enter Try.func21, Try.ntmps21
          go_wp2
          go_ret2
          exact z_19
         ·rw [if_neg c10] at H
          obtain ⟨c10b0, c10b1⟩ := xnq c10; by_cases c11 : a0.toList = ([60, 60] : List UInt8)
          ·rw [if_pos c11] at H
           obtain ⟨c11b0, c11b1⟩ := xbq c11; clear c11; simp only [Option.some.injEq, Prod.mk.injEq] at H; obtain ⟨rfl, rfl⟩ := H
           go_enter Try.func21, Try.ntmps21
           go_wp2
           go_ret2
           exact z_19
          ·rw [if_neg c11] at H
           obtain ⟨c11b0, c11b1⟩ := xnq c11; by_cases c12 : a0.toList = ([62, 62] : List UInt8)
           ·rw [if_pos c12] at H
            obtain ⟨c12b0, c12b1⟩ := xbq c12; clear c12; simp only [Option.some.injEq, Prod.mk.injEq] at H; obtain ⟨rfl, rfl⟩ := H
            go_enter Try.func21, Try.ntmps21
            go_wp2
            go_ret2
            exact z_19
           ·rw [if_neg c12] at H
            obtain ⟨c12b0, c12b1⟩ := xnq c12; by_cases c13 : a0.toList = ([43] : List UInt8)
            ·rw [if_pos c13] at H
             obtain ⟨c13b0, c13b1⟩ := xbq c13; clear c13; simp only [Option.some.injEq, Prod.mk.injEq] at H; obtain ⟨rfl, rfl⟩ := H
             go_enter Try.func21, Try.ntmps21
             go_wp2
             go_ret2
             exact z_19
            ·rw [if_neg c13] at H
             obtain ⟨c13b0, c13b1⟩ := xnq c13; by_cases c14 : a0.toList = ([45] : List UInt8)
             ·rw [if_pos c14] at H
              obtain ⟨c14b0, c14b1⟩ := xbq c14; clear c14; simp only [Option.some.injEq, Prod.mk.injEq] at H; obtain ⟨rfl, rfl⟩ := H
              go_enter Try.func21, Try.ntmps21
              go_wp2
              go_ret2
              exact z_19
             ·rw [if_neg c14] at H
              obtain ⟨c14b0, c14b1⟩ := xnq c14; by_cases c15 : a0.toList = ([42] : List UInt8)
              ·rw [if_pos c15] at H
               obtain ⟨c15b0, c15b1⟩ := xbq c15; clear c15; simp only [Option.some.injEq, Prod.mk.injEq] at H; obtain ⟨rfl, rfl⟩ := H
               go_enter Try.func21, Try.ntmps21
               go_wp2
               go_ret2
               exact z_19
              ·rw [if_neg c15] at H
               obtain ⟨c15b0, c15b1⟩ := xnq c15; by_cases c16 : a0.toList = ([47] : List UInt8)
               ·rw [if_pos c16] at H
                obtain ⟨c16b0, c16b1⟩ := xbq c16; clear c16; simp only [Option.some.injEq, Prod.mk.injEq] at H; obtain ⟨rfl, rfl⟩ := H
                go_enter Try.func21, Try.ntmps21
                go_wp2
                go_ret2
                exact z_19
               ·rw [if_neg c16] at H
                obtain ⟨c16b0, c16b1⟩ := xnq c16; by_cases c17 : a0.toList = ([37] : List UInt8)
                ·rw [if_pos c17] at H
                 obtain ⟨c17b0, c17b1⟩ := xbq c17; clear c17; simp only [Option.some.injEq, Prod.mk.injEq] at H; obtain ⟨rfl, rfl⟩ := H
                 go_enter Try.func21, Try.ntmps21
                 go_wp2
                 go_ret2
                 exact z_19
                ·rw [if_neg c17] at H
                 obtain ⟨c17b0, c17b1⟩ := xnq c17; simp only [Option.some.injEq, Prod.mk.injEq] at H; obtain ⟨rfl, rfl⟩ := H
                 go_enter Try.func21, Try.ntmps21
                 go_wp2
                 go_ret2
                 exact z_19
def show_Sign.l0 : Nat → Int → List ByteArray → Int → Int → Option (ByteArray × Int)
 | 0, _, _, _, _ => none
 | k + 1, x0, x8, x9, x10 => if x10 < x9 then (if 0 ≤ x10 then (if x10 < (x8.length : Int) then ((tree_Rank.f (rdOf ByteArray.empty x8 x10)).bind fun bt139 => (if bt139.2 = x0 then (some (rdOf ByteArray.empty x8 x10, bt139.1)) else (show_Sign.l0 k x0 x8 x9 (wrap64 (x10 + 1))))) else (none)) else (none)) else (some ((⟨#[]⟩ : ByteArray), 0))
def show_Sign.f (k : Nat) (a0 : Int) : Option (ByteArray × Int) := (some (([(⟨#[124]⟩ : ByteArray), (⟨#[94]⟩ : ByteArray), (⟨#[38]⟩ : ByteArray), (⟨#[61, 61]⟩ : ByteArray), (⟨#[33, 61]⟩ : ByteArray), (⟨#[60]⟩ : ByteArray), (⟨#[60, 61]⟩ : ByteArray), (⟨#[62]⟩ : ByteArray), (⟨#[62, 61]⟩ : ByteArray), (⟨#[60, 60]⟩ : ByteArray), (⟨#[62, 62]⟩ : ByteArray), (⟨#[43]⟩ : ByteArray), (⟨#[45]⟩ : ByteArray), (⟨#[42]⟩ : ByteArray), (⟨#[47]⟩ : ByteArray), (⟨#[37]⟩ : ByteArray)] : List ByteArray) : List ByteArray)).bind fun y135 => (show_Sign.l0 k a0 y135 (y135.length : Int) 0)
theorem show_Sign.mono_l : ∀ k, (∀ y0 y1 y2 y3, LeO (show_Sign.l0 k y0 y1 y2 y3) (show_Sign.l0 (k + 1) y0 y1 y2 y3))
 | 0 => fun _ _ _ _ r h => by simp [show_Sign.l0] at h
 | k + 1 => by
  have ih0 := show_Sign.mono_l k
  ·intro y0 y1 y2 y3
   unfold show_Sign.l0
   repeat' first
   | (with_reducible exact ih0 _ _ _ _)
   | (with_reducible exact LeO.refl _)
   | (with_reducible exact LeO.none _)
   | (with_reducible refine LeO.ite ?_ ?_)
   | (with_reducible refine LeO.bind ?_ (fun _ => ?_))
   | exact ih0 _ _ _ _
   | exact LeO.none _
   | refine LeO.ite ?_ ?_
   | refine LeO.bind ?_ (fun _ => ?_)
theorem show_Sign.mono : ∀ a0 k, LeO (show_Sign.f k a0) (show_Sign.f (k + 1) a0) := by
 intro a0 k; have ih0 := show_Sign.mono_l k; unfold show_Sign.f
 repeat' first
   | (with_reducible exact ih0 _ _ _ _)
   | (with_reducible exact LeO.refl _)
   | (with_reducible exact LeO.none _)
   | (with_reducible refine LeO.ite ?_ ?_)
   | (with_reducible refine LeO.bind ?_ (fun _ => ?_))
   | exact ih0 _ _ _ _
   | exact LeO.none _
   | refine LeO.ite ?_ ?_
   | refine LeO.bind ?_ (fun _ => ?_)
theorem show_Sign.calls (k : Nat) (a0 : Int) (r1 : ByteArray) (r2 : Int) (w : World) (h : show_Sign.f k a0 = some (r1, r2)) :
  Calls Try.prog 19 #[.int .i64 a0] w fun e w' => e = .returned (.tuple #[.string r1, .int .i64 r2]) ∧ Below w.heap.size w w' := by
 have HB := A_0 (xbr w.heap.size w); have H : ((some (([(⟨#[124]⟩ : ByteArray), (⟨#[94]⟩ : ByteArray), (⟨#[38]⟩ : ByteArray), (⟨#[61, 61]⟩ : ByteArray), (⟨#[33, 61]⟩ : ByteArray), (⟨#[60]⟩ : ByteArray), (⟨#[60, 61]⟩ : ByteArray), (⟨#[62]⟩ : ByteArray), (⟨#[62, 61]⟩ : ByteArray), (⟨#[60, 60]⟩ : ByteArray), (⟨#[62, 62]⟩ : ByteArray), (⟨#[43]⟩ : ByteArray), (⟨#[45]⟩ : ByteArray), (⟨#[42]⟩ : ByteArray), (⟨#[47]⟩ : ByteArray), (⟨#[37]⟩ : ByteArray)] : List ByteArray) : List ByteArray)).bind fun y135 => (show_Sign.l0 k a0 y135 (y135.length : Int) 0)) = some (r1, r2) := h; clear h; obtain ⟨y135, hy135⟩ : ∃ y_ : List ByteArray, y_ = (([(⟨#[124]⟩ : ByteArray), (⟨#[94]⟩ : ByteArray), (⟨#[38]⟩ : ByteArray), (⟨#[61, 61]⟩ : ByteArray), (⟨#[33, 61]⟩ : ByteArray), (⟨#[60]⟩ : ByteArray), (⟨#[60, 61]⟩ : ByteArray), (⟨#[62]⟩ : ByteArray), (⟨#[62, 61]⟩ : ByteArray), (⟨#[60, 60]⟩ : ByteArray), (⟨#[62, 62]⟩ : ByteArray), (⟨#[43]⟩ : ByteArray), (⟨#[45]⟩ : ByteArray), (⟨#[42]⟩ : ByteArray), (⟨#[47]⟩ : ByteArray), (⟨#[37]⟩ : ByteArray)] : List ByteArray)) := ⟨_, rfl⟩; replace H : (show_Sign.l0 k a0 y135 (y135.length : Int) 0) = some (r1, r2) := by first | (rw [hy135]; with_reducible exact H) | (have H2_ := (Option.bind_some _ _).symm.trans H; rw [hy135]; with_reducible exact H2_) | (have H2_ := (Option.bind_some _ _).symm.trans H; with_reducible exact H2_) | with_reducible exact H | (rw [hy135]; exact H) | exact H
 have Ny135 := A_0 hy135; clear hy135; have H' := A_0 H; clear H
 go_enter Try.func19, Try.ntmps19
 go_wp2_with (first | ((with_reducible refine gate_dst (N := 8) rfl ?_); refine Kd.R_lit Kd.string _ 9 ?hg (N := 8) ?hd (xs := ([(⟨#[124]⟩ : ByteArray), (⟨#[94]⟩ : ByteArray), (⟨#[38]⟩ : ByteArray), (⟨#[61, 61]⟩ : ByteArray), (⟨#[33, 61]⟩ : ByteArray), (⟨#[60]⟩ : ByteArray), (⟨#[60, 61]⟩ : ByteArray), (⟨#[62]⟩ : ByteArray), (⟨#[62, 61]⟩ : ByteArray), (⟨#[60, 60]⟩ : ByteArray), (⟨#[62, 62]⟩ : ByteArray), (⟨#[43]⟩ : ByteArray), (⟨#[45]⟩ : ByteArray), (⟨#[42]⟩ : ByteArray), (⟨#[47]⟩ : ByteArray), (⟨#[37]⟩ : ByteArray)] : List ByteArray)) (inner := [.string (⟨#[124]⟩ : ByteArray), .string (⟨#[94]⟩ : ByteArray), .string (⟨#[38]⟩ : ByteArray), .string (⟨#[61, 61]⟩ : ByteArray), .string (⟨#[33, 61]⟩ : ByteArray), .string (⟨#[60]⟩ : ByteArray), .string (⟨#[60, 61]⟩ : ByteArray), .string (⟨#[62]⟩ : ByteArray), .string (⟨#[62, 61]⟩ : ByteArray), .string (⟨#[60, 60]⟩ : ByteArray), .string (⟨#[62, 62]⟩ : ByteArray), .string (⟨#[43]⟩ : ByteArray), .string (⟨#[45]⟩ : ByteArray), .string (⟨#[42]⟩ : ByteArray), .string (⟨#[47]⟩ : ByteArray), .string (⟨#[37]⟩ : ByteArray)]) (ok := fun _ => True) (okp := fun _ => True) ?hr ?hp (fun _ hk => hk) trivial (xbr _ _) (xlr _) (by simp) ?_; (case hd => rfl); (case hg => rfl); (case hr => first | (go_simp; done) | (go_simp; rfl)); (case hp => exact (Reps.one (show Kd.M Kd.string _ _ _ (⟨#[124]⟩ : ByteArray) [.string (⟨#[124]⟩ : ByteArray)] from rfl) (Reps.one (show Kd.M Kd.string _ _ _ (⟨#[94]⟩ : ByteArray) [.string (⟨#[94]⟩ : ByteArray)] from rfl) (Reps.one (show Kd.M Kd.string _ _ _ (⟨#[38]⟩ : ByteArray) [.string (⟨#[38]⟩ : ByteArray)] from rfl) (Reps.one (show Kd.M Kd.string _ _ _ (⟨#[61, 61]⟩ : ByteArray) [.string (⟨#[61, 61]⟩ : ByteArray)] from rfl) (Reps.one (show Kd.M Kd.string _ _ _ (⟨#[33, 61]⟩ : ByteArray) [.string (⟨#[33, 61]⟩ : ByteArray)] from rfl) (Reps.one (show Kd.M Kd.string _ _ _ (⟨#[60]⟩ : ByteArray) [.string (⟨#[60]⟩ : ByteArray)] from rfl) (Reps.one (show Kd.M Kd.string _ _ _ (⟨#[60, 61]⟩ : ByteArray) [.string (⟨#[60, 61]⟩ : ByteArray)] from rfl) (Reps.one (show Kd.M Kd.string _ _ _ (⟨#[62]⟩ : ByteArray) [.string (⟨#[62]⟩ : ByteArray)] from rfl) (Reps.one (show Kd.M Kd.string _ _ _ (⟨#[62, 61]⟩ : ByteArray) [.string (⟨#[62, 61]⟩ : ByteArray)] from rfl) (Reps.one (show Kd.M Kd.string _ _ _ (⟨#[60, 60]⟩ : ByteArray) [.string (⟨#[60, 60]⟩ : ByteArray)] from rfl) (Reps.one (show Kd.M Kd.string _ _ _ (⟨#[62, 62]⟩ : ByteArray) [.string (⟨#[62, 62]⟩ : ByteArray)] from rfl) (Reps.one (show Kd.M Kd.string _ _ _ (⟨#[43]⟩ : ByteArray) [.string (⟨#[43]⟩ : ByteArray)] from rfl) (Reps.one (show Kd.M Kd.string _ _ _ (⟨#[45]⟩ : ByteArray) [.string (⟨#[45]⟩ : ByteArray)] from rfl) (Reps.one (show Kd.M Kd.string _ _ _ (⟨#[42]⟩ : ByteArray) [.string (⟨#[42]⟩ : ByteArray)] from rfl) (Reps.one (show Kd.M Kd.string _ _ _ (⟨#[47]⟩ : ByteArray) [.string (⟨#[47]⟩ : ByteArray)] from rfl) (Reps.one (show Kd.M Kd.string _ _ _ (⟨#[37]⟩ : ByteArray) [.string (⟨#[37]⟩ : ByteArray)] from rfl) (Reps.none _ _)))))))))))))))))); intro v136 w2 ho3 hb hg_ hnew_; clear hg_ hnew_; (first | rw [← Ny135.out] at ho3 | (simp only [Int.reduceToNat] at ho3; rw [← Ny135.out] at ho3)); have HO137 := A_0 (Kd.R_lower ho3 (below_size (z_12))); replace HB := A_0 (xbs (z_12) hb); clear hb ho3; obtain ⟨Ao4, co4, eo4⟩ := Kd.R_slice HO137.out; subst eo4))
 go_loopg [10] k (fun kq v10 w' => ∃ (x10_1 : Int), v10 = .int .i64 x10_1 ∧ Aside0 (show_Sign.l0 kq a0 y135 (y135.length : Int) x10_1 = some (r1, r2)) ∧ Aside0 (kq ≤ k) ∧ Aside0 (Kd.R Kd.string 9 w' w.heap.size (fun _ => True) (.slice Ao4 y135.length co4) y135) ∧ Aside0 (Below w.heap.size w w'))
 case atStart => exact ⟨(0), (z_20), H', ⟨xlr _⟩, ⟨by (with_reducible repeat (first | apply Kd.R_alloc | apply Kd.R_drewN | apply Kd.R_drew)); exact HO137.out⟩, ⟨z_12⟩⟩
 case round =>
  clear H'
  try clear c1
  try clear p2
  obtain ⟨x10_1, rfl, HA, HK1, HO_8, HB⟩ := hrel; cases gk with
  | zero => exact absurd HA.out (by simp [show_Sign.l0])
  | succ k1 =>
   have H := HA.out; clear HA; simp only [show_Sign.l0] at H; by_cases c5 : x10_1 < (y135.length : Int)
   ·rw [if_pos c5] at H
    have c5b0 := xdt c5; clear c5; by_cases c6 : 0 ≤ x10_1
    ·rw [if_pos c6] at H
     have c6b0 := xdt c6; clear c6; by_cases c7 : x10_1 < (y135.length : Int)
     ·rw [if_pos c7] at H
      have c7b0 := xdt c7; clear c7; replace H := Option.bind_eq_some_iff.mp H; obtain ⟨⟨t139, t140⟩, A80, H⟩ := H; replace H : (if t140 = a0 then (some (rdOf ByteArray.empty y135 x10_1, t139)) else (show_Sign.l0 k1 a0 y135 (y135.length : Int) (wrap64 (x10_1 + 1)))) = some (r1, r2) := H; have A8 := A_0 A80; clear A80; by_cases c9 : t140 = a0
      ·rw [if_pos c9] at H
       obtain ⟨c9b0, c9b1⟩ := xbq c9; clear c9; simp only [Option.some.injEq, Prod.mk.injEq] at H; obtain ⟨rfl, rfl⟩ := H; have p138 : 0 ≤ (x10_1 : Int) := xod (z_25); have q138 : x10_1 < (y135.length : Int) := xod (z_25); obtain ⟨ad138, e138, hx138_0⟩ := Kd.at_string (Kd.R_reads' HO_8.out).2.2 x10_1 p138 q138; cases e138; replace p138 := eq_true p138; replace q138 := eq_true q138
       go_wp2_with (first | ((with_reducible refine gate_callee (f := 21) rfl ?_); refine goesL_ (some 16) rfl rfl Try.func21 (by kernel_rfl) rfl #[.string (rdOf ByteArray.empty y135 x10_1)] rfl (z_28) ?_; (with_reducible refine (tree_Rank.calls (rdOf ByteArray.empty y135 x10_1) t139 t140 _ A8.out).mono ?_); rintro e w' ⟨rfl, ⟨nd, rfl⟩⟩; refine ⟨_, rfl, ?_⟩))
       go_ret2
       exact ⟨z_17, z_12⟩
      ·rw [if_neg c9] at H
       obtain ⟨c9b0, c9b1⟩ := xnq c9; have H' := A_0 H; clear H; have p138 : 0 ≤ (x10_1 : Int) := xod (z_25); have q138 : x10_1 < (y135.length : Int) := xod (z_25); obtain ⟨ad138, e138, hx138_0⟩ := Kd.at_string (Kd.R_reads' HO_8.out).2.2 x10_1 p138 q138; cases e138; replace p138 := eq_true p138; replace q138 := eq_true q138
       go_wp2_with (first | ((with_reducible refine gate_callee (f := 21) rfl ?_); refine goesL_ (some 16) rfl rfl Try.func21 (by kernel_rfl) rfl #[.string (rdOf ByteArray.empty y135 x10_1)] rfl (z_28) ?_; (with_reducible refine (tree_Rank.calls (rdOf ByteArray.empty y135 x10_1) t139 t140 _ A8.out).mono ?_); rintro e w' ⟨rfl, ⟨nd, rfl⟩⟩; refine ⟨_, rfl, ?_⟩))
       go_roundg k1
       case measure => have := HK1.out; omega
       case rel => exact ⟨(wrap64 (x10_1 + 1)), (z_20), H', ⟨by have := HK1.out; omega⟩, ⟨by (with_reducible repeat (first | apply Kd.R_alloc | apply Kd.R_drewN | apply Kd.R_drew)); exact HO_8.out⟩, ⟨z_12⟩⟩
     ·rw [if_neg c7] at H
      exact z_27
    ·rw [if_neg c6] at H
     exact z_27
   ·rw [if_neg c5] at H
    have c5b0 := xdf c5; clear c5; simp only [Option.some.injEq, Prod.mk.injEq] at H; obtain ⟨rfl, rfl⟩ := H
    go_wp2
    go_ret2
    exact ⟨z_17, z_12⟩
end Go.Proofs.Ytobkdmmnbnpemaa.K
