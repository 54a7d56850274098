/- The parser's reader in memory. -/
import Derived.Test.YtobkdmmnbnpemaaXJK1
import Derived.Lib.Hide
import Derived.Deep.RegionHeld3
import Derived.Outline
import Derived.WalkSmall
namespace Go.Proofs.Ytobkdmmnbnpemaa.K
open Go.RowKit Go.Proofs.YtobkdmmnbnpemaaW.PrintWords Go.Proofs.YtobkdmmnbnpemaaW.PrintLast Go.Proofs.YtobkdmmnbnpemaaW.PrintMore
attribute [local go_sem] max2_int min2_int max_two min_two max_three min_three max_four min_four
set_option linter.unusedVariables false
set_option linter.unusedSimpArgs false
def KeepBut (w w' : World) (g : Nat) (row : Option Nat) : Prop := (w'.os = w.os ∧ w'.tape = w.tape ∧ w'.output = w.output ∧ w.heap.size ≤ w'.heap.size) ∧ ∀ i, i < w.heap.size → i ≠ g → some i ≠ row → w'.heap[i]? = w.heap[i]?
theorem KeepBut.size {w w1 : World} {g : Nat} {row : Option Nat} (h : KeepBut w w1 g row) : w.heap.size ≤ w1.heap.size := h.1.2.2.2
theorem KeepBut.refl (w : World) (g : Nat) (row : Option Nat) : KeepBut w w g row := ⟨⟨rfl, rfl, rfl, Nat.le_refl _⟩, fun _ _ _ _ => rfl⟩
theorem KeepBut.of_grown {w w1 : World} {row : Option Nat} (h : w.grownBy w1 row) (g : Nat) : KeepBut w w1 g row := ⟨⟨h.os, h.tape, h.output, h.size⟩, fun i hi _ hr => h.block i hi hr⟩
theorem KeepBut.of_below {w w1 : World} (h : Below w.heap.size w w1) (g : Nat) (row : Option Nat) : KeepBut w w1 g row := ⟨⟨h.os, h.tape, h.output, h.size⟩, fun i hi _ _ => h.block i hi⟩
theorem KeepBut.set_ {w w1 : World} {g : Nat} {row : Option Nat} (h : KeepBut w w1 g row) (j : Nat) (u : Value) : KeepBut w (w1.setCell ⟨g, j, none⟩ u) g row :=
  ⟨⟨h.1.1, h.1.2.1, h.1.2.2.1, by simpa [World.setCell] using h.size⟩, fun i hi hg hr => (Below.heap_setCell w1 ⟨g, j, none⟩ u i hg).trans (h.2 i hi hg hr)⟩
theorem KeepBut.trans {w w1 w2 : World} {g : Nat} {row row1 : Option Nat} (h : KeepBut w w1 g row) (k : KeepBut w1 w2 g row1) (hr : row1 = row ∨ ∃ b, row1 = some b ∧ w.heap.size ≤ b) : KeepBut w w2 g row :=
  ⟨⟨k.1.1.trans h.1.1, k.1.2.1.trans h.1.2.1, k.1.2.2.1.trans h.1.2.2.1, Nat.le_trans h.size k.size⟩, fun i hi hg hn => by
    refine (k.2 i (Nat.lt_of_lt_of_le hi h.size) hg ?_).trans (h.2 i hi hg hn)
    rcases hr with rfl | ⟨b, rfl, hb⟩
    · exact hn
    · intro e
      injection e with e
      omega⟩
theorem KeepBut.blk {w w1 : World} {g g' : Nat} {row : Option Nat} {o : Obj} (h : KeepBut w w1 g row) (hb : w.heap[g']? = some o) (hg : g' ≠ g) (hr : some g' ≠ row) : w1.heap[g']? = some o := (h.2 g' (blk_lt hb) hg hr).trans hb
theorem keep_drewN {w W : World} {g : Nat} {row : Option Nat} (h : KeepBut w W g row) (m : Nat) : KeepBut w (W.drewN m) g row := h
theorem keep_drew {w W : World} {g : Nat} {row : Option Nat} (h : KeepBut w W g row) : KeepBut w W.drew g row := h
theorem keep_alloc {w W : World} {g : Nat} (h : KeepBut w W g none) (o : Obj) : KeepBut w (W.alloc o) g none := h.trans (KeepBut.of_grown (World.grownBy_alloc W o none) g) (.inl rfl)
theorem keep_size {w W : World} {g : Nat} {row : Option Nat} (h : KeepBut w W g row) : w.heap.size ≤ W.heap.size := h.size
theorem keep_far {w W : World} {g : Nat} {row : Option Nat} (h : KeepBut w W g row) {p : Addr} (hp : w.heap.size ≤ p.block) (u : Value) : KeepBut w (W.setCell p u) g row :=
  ⟨⟨h.1.1, h.1.2.1, h.1.2.2.1, by simpa [World.setCell] using h.size⟩, fun i hi hg hr => (Below.heap_setCell W p u i (by omega)).trans (h.2 i hi hg hr)⟩
theorem Kd.F_keep {α : Type} {d : Kd α} {W W1 : World} {g n : Nat} {ok : Nat → Prop} {A : Option Addr} {xs : List α} (h : Kd.F d W ok A n xs) (hk : KeepBut W W1 g none) (hg : ∀ k, ok k → k ≠ g) : Kd.F d W1 ok A n xs := Kd.F_step h (fun k ho hl => hk.2 k hl (hg k ho) (by simp))
structure S58 where
  f0 : Int
  f1 : ByteArray
  f2 : Int
  f3 : Int
def z58 : S58 := ⟨0, (⟨#[]⟩ : ByteArray), 0, 0⟩
def k58 : Kd S58 := Kd.iso (Kd.pair (Kd.int .i64) (Kd.pair Kd.string (Kd.pair (Kd.int .i64) (Kd.int .i64)))) (fun x : S58 => (x.f0, x.f1, x.f2, x.f3))
theorem k58_open {w : World} {x : S58} {cs : List Value} (h : k58.K w x cs) : cs = [.int .i64 x.f0, .string x.f1, .int .i64 x.f2, .int .i64 x.f3] := by
  obtain ⟨_, _, rfl, rfl, _, _, rfl, rfl, _, _, rfl, rfl, rfl⟩ := h; exact rfl
theorem k58_mk (w : World) (x : S58) : k58.K w x [.int .i64 x.f0, .string x.f1, .int .i64 x.f2, .int .i64 x.f3] := ⟨[.int .i64 x.f0], _, rfl, rfl, ⟨[.string x.f1], _, rfl, rfl, ⟨[.int .i64 x.f2], [.int .i64 x.f3], rfl, rfl, rfl⟩⟩⟩
def rd_T58 (xs : List S58) (i : Int) : S58 := xs.getD i.toNat z58
theorem at_T58 {w : World} {A : Option Addr} {n : Nat} {xs : List S58} (h : Kd.C k58 w A n xs) (i : Int) (h0 : 0 ≤ i) (h1 : i < n) : ∃ ad, A = some ad ∧ w.cell? (ad.add (i.toNat * 4)) = some (.int .i64 (rd_T58 xs i).f0) ∧ w.cell? ⟨(ad.add (i.toNat * 4)).block, (ad.add (i.toNat * 4)).off + 1, none⟩ = some (.string (rd_T58 xs i).f1) ∧ w.cell? ⟨(ad.add (i.toNat * 4)).block, (ad.add (i.toNat * 4)).off + 2, none⟩ = some (.int .i64 (rd_T58 xs i).f2) ∧ w.cell? ⟨(ad.add (i.toNat * 4)).block, (ad.add (i.toNat * 4)).off + 3, none⟩ = some (.int .i64 (rd_T58 xs i).f3) := by
  obtain ⟨ad, c, e, _, hK, hc0⟩ := Kd.C_get h z58 i h0 h1; have hc : ∀ j u, c[j]? = some u → w.cell? (ad.add (i.toNat * 4 + j)) = some u := hc0; obtain rfl := k58_open hK; exact ⟨ad, e, hc 0 _ rfl, z_1, z_2, z_3⟩
structure PSt where
  at_ : Int
  nodes : Int
  op : Int
  bl : Int
structure RD (W : World) (g : Nat) (A : Option Addr) (c : Nat) (T : List S58) (s : PSt) : Prop where
  bk : W.heap[g]? = some (.cells #[.slice A T.length c, .int .i64 s.at_, .int .i64 s.nodes, .int .i64 s.op, .int .i64 s.bl] 79 (0, 0))
  tk : Kd.F k58 W (fun k => k ≠ g) A T.length T
theorem RD.below {W W1 : World} {g : Nat} {A : Option Addr} {c : Nat} {T : List S58} {s : PSt} (h : RD W g A c T s) (b : Below W.heap.size W W1) : RD W1 g A c T s :=
  ⟨blk_below h.bk b, Kd.F_below h.tk b⟩
def stopV (er at_ : Int) : PanicEntry := { v := .iface 75 (.agg #[.int .i64 er, .int .i64 at_]), recovered := false }
def tokV (t : S58) : Value := .agg #[.int .i64 t.f0, .string t.f1, .int .i64 t.f2, .int .i64 t.f3]
set_option maxHeartbeats 4000000 in
set_option maxRecDepth 100000 in
theorem give_L (er : Int) (t : S58) (w : World) : Calls Try.prog 76 #[.int .i64 er, tokV t] w fun e w' => e = .panicked [stopV er t.f3] ∧ Below w.heap.size w w' := by
  have HB := A_0 (Below.refl w.heap.size w); unfold tokV stopV
  go_enter Try.func76, Try.ntmps76
  go_wp2
  exact ⟨rfl, rfl, below_alloc HB.out _⟩
set_option maxHeartbeats 4000000 in
set_option maxRecDepth 100000 in
theorem now_L (g : Nat) (A : Option Addr) (c : Nat) (T : List S58) (s : PSt) (w : World) (h : RD w g A c T s) (h0 : 0 ≤ s.at_) (h1 : s.at_ < T.length) :
    Calls Try.prog 46 #[.pointer (some ⟨g, 0, none⟩)] w fun e w' => e = .returned (tokV (rd_T58 T s.at_)) ∧ Below w.heap.size w w' := by
  have HB := A_0 (Below.refl w.heap.size w); have hu58 : Try.prog.underlying 58 = _ := Try.underlying58; obtain ⟨ad, eA, hx0, hx1, hx2, hx3⟩ := at_T58 (Kd.F_now h.tk) s.at_ h0 h1; subst eA; have hz0 : w.cell? ⟨g, 0, none⟩ = some (.slice (some ad) T.length c) := (blk_cell h.bk 0).trans rfl; have hz1 : w.cell? ⟨g, 1, none⟩ = some (.int .i64 s.at_) := (blk_cell h.bk 1).trans rfl; have p1 := eq_true h0; have p2 := eq_true h1; clear h h0 h1; unfold tokV
  go_enter Try.func46, Try.ntmps46
  go_wp2
  go_region_held3 (fun w' => w'.cell? ⟨g, 0, none⟩ = some (.slice (some ad) T.length c) ∧ w'.cell? ⟨g, 1, none⟩ = some (.int .i64 s.at_) ∧ w'.cell? (ad.add (s.at_.toNat * 4)) = some (.int .i64 (rd_T58 T s.at_).f0) ∧ w'.cell? ⟨(ad.add (s.at_.toNat * 4)).block, (ad.add (s.at_.toNat * 4)).off + 1, none⟩ = some (.string (rd_T58 T s.at_).f1) ∧ w'.cell? ⟨(ad.add (s.at_.toNat * 4)).block, (ad.add (s.at_.toNat * 4)).off + 2, none⟩ = some (.int .i64 (rd_T58 T s.at_).f2) ∧ w'.cell? ⟨(ad.add (s.at_.toNat * 4)).block, (ad.add (s.at_.toNat * 4)).off + 3, none⟩ = some (.int .i64 (rd_T58 T s.at_).f3)) (go_keep) (fail)
  all_goals (go_wp2_with fail)
  refine bodyPost_ret (v := .agg #[.int .i64 (rd_T58 T s.at_).f0, .string (rd_T58 T s.at_).f1, .int .i64 (rd_T58 T s.at_).f2, .int .i64 (rd_T58 T s.at_).f3]) (by simp [results, Try.results46, go_sem]) rfl ⟨rfl, ?_⟩
  repeat (first | (with_reducible first | exact HB.out | apply below_alloc | apply pw_below_drewN | apply below_drew1) | exact HB.out)
end Go.Proofs.Ytobkdmmnbnpemaa.K
