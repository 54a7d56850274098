/- The writer in memory: its row of bytes, what calls keep. -/
import Derived.Test.YtobkdmmnbnpemaaXWK4e
import Derived.Lib.Hide
namespace Go.Proofs.Ytobkdmmnbnpemaa.K
open Go.RowKit Go.Proofs.YtobkdmmnbnpemaaW.PrintWords Go.Proofs.YtobkdmmnbnpemaaW.PrintLast Go.Proofs.YtobkdmmnbnpemaaW.PrintMore
set_option linter.unusedVariables false
set_option linter.unusedSimpArgs false
def KeepT (W W' : World) (g : Nat) : Prop := W.heap.size ≤ W'.heap.size ∧ ∀ i o, W.heap[i]? = some o → i ≠ g → (∀ cs, o ≠ .cells cs 5 (0, 0)) → W'.heap[i]? = some o
theorem KeepT.refl (W : World) (g : Nat) : KeepT W W g := ⟨Nat.le_refl _, fun _ _ h _ _ => h⟩
theorem KeepT.trans {W W1 W2 : World} {g : Nat} (h : KeepT W W1 g) (k : KeepT W1 W2 g) : KeepT W W2 g := ⟨Nat.le_trans h.1 k.1, fun i o hi hg ho => k.2 i o (h.2 i o hi hg ho) hg ho⟩
theorem KeepT.of_below {W W1 : World} (h : Below W.heap.size W W1) (g : Nat) : KeepT W W1 g := ⟨h.size, fun i o hi _ _ => (h.block i (blk_lt hi)).trans hi⟩
theorem KeepT.below {W W1 W2 : World} {g : Nat} (h : KeepT W W1 g) (k : Below W1.heap.size W1 W2) : KeepT W W2 g := h.trans (KeepT.of_below k g)
theorem KeepT.alloc {W W1 : World} {g : Nat} (h : KeepT W W1 g) (o : Obj) : KeepT W (W1.alloc o) g := h.below (below_alloc (Below.refl _ _) o)
theorem KeepT.drewN {W W1 : World} {g : Nat} (h : KeepT W W1 g) (m : Nat) : KeepT W (W1.drewN m) g := h
theorem KeepT.drew {W W1 : World} {g : Nat} (h : KeepT W W1 g) : KeepT W W1.drew g := h
theorem KeepT.set {W W1 : World} {g : Nat} (h : KeepT W W1 g) (j : Nat) (u : Value) : KeepT W (W1.setCell ⟨g, j, none⟩ u) g :=
  ⟨by simpa [World.setCell] using h.1, fun i o hi hg ho => (Below.heap_setCell W1 ⟨g, j, none⟩ u i hg).trans (h.2 i o hi hg ho)⟩
theorem KeepT.blk {W W1 : World} {g b : Nat} {cs : Array Value} {t : TypeId} (h : KeepT W W1 g) (hb : W.heap[b]? = some (.cells cs t (0, 0))) (hg : b ≠ g) (ht : t ≠ 5) : W1.heap[b]? = some (.cells cs t (0, 0)) :=
  h.2 b _ hb hg (fun cs' e => by injection e with _ e2; exact ht e2)
def WV (B : Nat) (W : World) (g : Nat) (v : Value) (t : List UInt8) (n : Int) : Prop :=
  W.heap[g]? = some (.cells #[v, .int .i64 n] 64 (0, 0)) ∧ B ≤ g ∧ W.ownsRow B 5 1 v (t.map c8).length (nums .u8 (t.map c8))
def IsW (B : Nat) (W : World) (g : Nat) (t : List UInt8) (n : Int) : Prop := ∃ v, WV B W g v t n
theorem WV.ne {B : Nat} {W : World} {g : Nat} {v : Value} {t : List UInt8} {n : Int} (h : WV B W g v t n) : some g ≠ v.ownBlock := by
  obtain ⟨h1, _, _, h3⟩ := h
  intro e
  rcases h3 with ⟨rfl, _⟩ | ⟨g', cap, cur, rfl, _, h4, _⟩
  · simp [Value.ownBlock] at e
  · have e2 : g = g' := by simpa [Value.ownBlock] using e
    subst e2
    rw [h1] at h4
    injection h4 with h4
    injection h4 with _ h5
    exact absurd h5 (by decide)
theorem WV.row {B : Nat} {W : World} {g : Nat} {v : Value} {t : List UInt8} {n : Int} (h : WV B W g v t n) (k : Nat) (hk : v.ownBlock = some k) : ∃ cs, W.heap[k]? = some (.cells cs 5 (0, 0)) := by
  obtain ⟨_, _, _, h3⟩ := h
  rcases h3 with ⟨rfl, _⟩ | ⟨g', cap, cur, rfl, _, h4, _⟩
  · simp [Value.ownBlock] at hk
  · have e2 : g' = k := by simpa [Value.ownBlock] using hk
    subst e2
    exact ⟨cur, h4⟩
theorem WV.below {B : Nat} {W W1 : World} {g : Nat} {v : Value} {t : List UInt8} {n : Int} (h : WV B W g v t n) (hb : Below W.heap.size W W1) : WV B W1 g v t n := by
  refine ⟨blk_below h.1 hb, h.2.1, ?_⟩
  exact h.2.2.kept (grown_of_below hb none) (by
    cases hv : v.ownBlock with
    | none => exact .inl rfl
    | some k => exact .inr (by simp))
theorem IsW.below {B : Nat} {W W1 : World} {g : Nat} {t : List UInt8} {n : Int} (h : IsW B W g t n) (hb : Below W.heap.size W W1) : IsW B W1 g t n := by
  obtain ⟨v, h⟩ := h; exact ⟨v, h.below hb⟩
theorem IsW.alloc {B : Nat} {W : World} {g : Nat} {t : List UInt8} {n : Int} (h : IsW B W g t n) (o : Obj) : IsW B (W.alloc o) g t n := h.below (below_alloc (Below.refl _ _) o)
theorem IsW.drewN {B : Nat} {W : World} {g : Nat} {t : List UInt8} {n : Int} (h : IsW B W g t n) (m : Nat) : IsW B (W.drewN m) g t n := h
theorem IsW.drew {B : Nat} {W : World} {g : Nat} {t : List UInt8} {n : Int} (h : IsW B W g t n) : IsW B W.drew g t n := h
theorem IsW.ge {B : Nat} {W : World} {g : Nat} {t : List UInt8} {n : Int} (h : IsW B W g t n) : B ≤ g := by obtain ⟨v, h⟩ := h; exact h.2.1
theorem IsW.lt {B : Nat} {W : World} {g : Nat} {t : List UInt8} {n : Int} (h : IsW B W g t n) : g < W.heap.size := by obtain ⟨v, h⟩ := h; exact blk_lt h.1
theorem IsW.fresh {B : Nat} {W : World} {g : Nat} {t : List UInt8} {n : Int} (h : IsW B W g t n) : ∀ k, W.heap.size ≤ k → k ≠ g := fun k hk e => by have := h.lt; omega
theorem IsW.ne_blk {B : Nat} {W : World} {g b : Nat} {t : List UInt8} {n : Int} {cs : Array Value} {ty : TypeId} (h : IsW B W g t n) (hb : W.heap[b]? = some (.cells cs ty (0, 0))) (ht : ty ≠ 64) : b ≠ g := by
  obtain ⟨v, h⟩ := h
  exact blk_ne hb h.1 ht
theorem WV.put {B : Nat} {W w1 : World} {g : Nat} {v v1 : Value} {t t1 : List UInt8} {n : Int} (h : WV B W g v t n) (ho : w1.ownsRow B 5 1 v1 (t1.map c8).length (nums .u8 (t1.map c8))) (hg : W.grownBy w1 v.ownBlock) :
    WV B (w1.setCell ⟨g, 0, none⟩ v1) g v1 t1 n := by
  have hb : w1.heap[g]? = some (.cells #[v, .int .i64 n] 64 (0, 0)) := blk_grown h.1 hg h.ne
  refine ⟨blk_put hb 0 v1 rfl, h.2.1, ?_⟩
  have hne : v1.ownBlock ≠ some g := by
    intro e
    obtain ⟨_, h3⟩ := ho
    rcases h3 with ⟨rfl, _⟩ | ⟨g', cap, cur, rfl, _, h4, _⟩
    · simp [Value.ownBlock] at e
    · have e2 : g' = g := by simpa [Value.ownBlock] using e
      subst e2
      rw [hb] at h4
      injection h4 with h4
      injection h4 with _ h5
      exact absurd h5 (by decide)
  exact own_setCell ho (fun e => hne e.symm) v1
theorem KeepT.grown {W W1 w1 : World} {g : Nat} {v : Value} {B : Nat} {t : List UInt8} {n : Int} (h : KeepT W W1 g) (hw : WV B W1 g v t n) (hg : W1.grownBy w1 v.ownBlock) : KeepT W w1 g := by
  refine h.trans ⟨hg.size, fun i o hi hig ho => (hg.block i (blk_lt hi) ?_).trans hi⟩
  intro e
  obtain ⟨cs, hc⟩ := hw.row i e.symm
  rw [hi] at hc
  exact ho cs (Option.some.inj hc)
theorem WV.dent {B : Nat} {W : World} {g : Nat} {v : Value} {t : List UInt8} {n : Int} (h : WV B W g v t n) (m : Int) : WV B (W.setCell ⟨g, 1, none⟩ (.int .i64 m)) g v t m :=
  ⟨blk_put h.1 1 _ rfl, h.2.1, own_setCell h.2.2 h.ne _⟩
theorem lst_bytesOf (y : ByteArray) : (lst y).map c8 = bytesOf y := by unfold lst bytesOf c8; rfl
theorem map_app (t : List UInt8) (y : ByteArray) : (t ++ lst y).map c8 = t.map c8 ++ bytesOf y := by rw [List.map_append, lst_bytesOf]
def lineB (n : Int) (parts : List ByteArray) : List UInt8 := List.replicate (2 * n.toNat) 32 ++ ((parts.map lst).flatten ++ [10])
end Go.Proofs.Ytobkdmmnbnpemaa.K
namespace Go.Proofs.Ytobkdmmnbnpemaa.K
open Go.RowKit Go.Proofs.YtobkdmmnbnpemaaW.PrintWords Go.Proofs.YtobkdmmnbnpemaaW.PrintLast Go.Proofs.YtobkdmmnbnpemaaW.PrintMore
attribute [local go_sem] max2_int min2_int max_two min_two max_three min_three max_four min_four
set_option linter.unusedVariables false
set_option linter.unusedSimpArgs false
def LPost (B : Nat) (g : Nat) (t : List UInt8) (n : Int) (w0 w : World) (e : Ending) (w' : World) : Prop := e = .returned (.tuple #[]) ∧ IsW B w' g t n ∧ Below w0.heap.size w0 w' ∧ KeepT w w' g
def L1Rel (t : List UInt8) (n : Int) (g : Nat) (w0 w : World) (v10 : Value) (w' : World) : Prop :=
  ∃ (i : Int) (v : Value), v10 = .int .i64 i ∧ 0 ≤ i ∧ i ≤ n ∧ Aside0 (WV w0.heap.size w' g v (t ++ List.replicate (2 * i.toNat) 32) n) ∧ Aside0 (Below w0.heap.size w0 w') ∧ Aside0 (KeepT w w' g)
def L2Rel (t : List UInt8) (n : Int) (parts : List ByteArray) (L : Nat) (g : Nat) (w0 w : World) (v23 : Value) (w' : World) : Prop :=
  ∃ (i : Int) (v : Value), v23 = .int .i64 i ∧ 0 ≤ i ∧ i ≤ (L : Int) ∧ Aside0 (WV w0.heap.size w' g v (t ++ List.replicate (2 * n.toNat) 32 ++ ((parts.take i.toNat).map lst).flatten) n) ∧ Aside0 (Below w0.heap.size w0 w') ∧ Aside0 (KeepT w w' g)
theorem flat_len : ∀ (ps : List ByteArray) (i : Nat), (((ps.take i).map lst).flatten).length ≤ ((ps.map lst).flatten).length
  | [], i => by simp
  | p :: ps, 0 => by simp
  | p :: ps, i + 1 => by
    have := flat_len ps i
    simp only [List.take_succ_cons, List.map_cons, List.flatten_cons, List.length_append]
    omega
theorem flat_at (ps : List ByteArray) (i : Nat) (h : i < ps.length) : ((ps.take i).map lst).flatten ++ lst (ps.getD i ⟨#[]⟩) = ((ps.take (i + 1)).map lst).flatten := by
  rw [List.take_succ_eq_append_getElem h, List.map_append, List.flatten_append, List.getD_eq_getElem?_getD, List.getElem?_eq_getElem h]
  simp
theorem sp_two (t : List UInt8) (i : Int) (h : 0 ≤ i) : t ++ List.replicate (2 * i.toNat) 32 ++ lst ⟨#[32, 32]⟩ = t ++ List.replicate (2 * (i + 1).toNat) 32 := by
  have e : 2 * (i + 1).toNat = 2 * i.toNat + 1 + 1 := by omega
  rw [e, List.replicate_succ', List.replicate_succ', List.append_assoc, List.append_assoc]
  rfl
theorem own_sl {W : World} {base : Nat} {e : TypeId} {size n : Nat} {v : Value} {xs : List Value} (h : W.ownsRow base e size v n xs) : ∃ A m c, v = .slice A m c := by
  rcases h.2 with ⟨rfl, _⟩ | ⟨g', cap, cur, rfl, _⟩
  · exact ⟨_, _, _, rfl⟩
  · exact ⟨_, _, _, rfl⟩
theorem map_ten (t : List UInt8) : (t ++ [10]).map c8 = t.map c8 ++ [10] := by simp [c8]
theorem info5b : (Try.prog.info? 5).map (fun i => (i.zero, i.size, i.bytes)) = some (some (.int .u8 0), 1, 1) := by kernel_rfl
set_option maxHeartbeats 8000000 in
set_option maxRecDepth 100000 in
theorem line_calls (t : List UInt8) (n : Int) (parts : List ByteArray) (b L g : Nat) (w0 w : World) (hn0 : 0 ≤ n) (hn1 : n ≤ 1000) (hL : parts.length = L) (hLs : L ≤ 10) (hW : IsW w0.heap.size w g t n) (hB : Below w0.heap.size w0 w)
    (hb : w.heap[b]? = some (.cells (parts.map Value.string).toArray 9 (0, 0))) (hs : t.length + ((parts.map lst).flatten).length ≤ 1000000000) :
    Calls Try.prog 59 #[.pointer (some ⟨g, 0, none⟩), .slice (some ⟨b, 0, none⟩) L L] w (LPost w0.heap.size g (t ++ lineB n parts) n w0 w) := by
  obtain ⟨v, hV⟩ := hW
  have hbg : b ≠ g := blk_ne hb hV.1 (by decide)
  have HBG := Aside0.mk hbg
  have HV := Aside0.mk hV
  have HB := Aside0.mk hB
  have HP := Aside0.mk hb
  have HL := Aside0.mk hL
  have HS := Aside0.mk hs
  have GE := Aside0.mk hV.2.1
  have HK := Aside0.mk (KeepT.refl w g)
  have hcg0 : w.cell? ⟨g, 0, none⟩ = some v := (blk_cell hV.1 0).trans rfl
  have hcg1 : w.cell? ⟨g, 1, none⟩ = some (.int .i64 n) := (blk_cell hV.1 1).trans rfl
  have hfg0 := blk_frozen hV.1 0
  have hfg1 := blk_frozen hV.1 1
  clear hV hB hb hL hs hbg
  go_enter Try.func59, Try.ntmps59
  go_wp2
  go_loopw [10] (fun v10 wr => L1Rel t n g w0 w v10 wr) (fun v10 _ => (n - intOf v10).toNat)
  case atStart => exact ⟨0, v, rfl, Int.le_refl _, hn0, ⟨by have := HV.out; simpa using this⟩, HB, HK⟩
  case round =>
    unfold L1Rel at hrel
    clear HV HB HK hcg0 hcg1 hfg0 hfg1
    obtain ⟨i, v, rfl, hi0, hi1, HV, HB, HK⟩ := hrel
    have hcg0 : wr.cell? ⟨g, 0, none⟩ = some v := (blk_cell HV.out.1 0).trans rfl
    have hcg1 : wr.cell? ⟨g, 1, none⟩ = some (.int .i64 n) := (blk_cell HV.out.1 1).trans rfl
    have hfg0 := blk_frozen HV.out.1 0
    have hfg1 := blk_frozen HV.out.1 1
    by_cases hlt : i < n
    · have hb0 : decide (i < n) = true := decide_eq_true hlt
      go_wp2_with (first | ((with_reducible refine gate_builtin (b := .append) (xs := #[.tmp 16, .const (.string ⟨#[32, 32]⟩)]) rfl ?_); at_builtin; refine print_append_str (w0 := w0) w0.heap.size rfl (.tmp 16) (.const (.string ⟨#[32, 32]⟩)) 62 9 5 rfl Try.underlying62 Try.underlying9 info5b v ((t ++ List.replicate (2 * i.toNat) 32).map c8) ⟨#[32, 32]⟩ rfl rfl HV.out.2.2 HB.out ?aS ?aL ?_; (case aS => exact below_size HB.out); (case aL => have := HS.out; simp only [List.length_map, List.length_append, List.length_replicate]; show _ + 2 ≤ _; omega); intro v1 w1 ho1 hb1 hg1; obtain ⟨A1, m1, c1, rfl⟩ := own_sl ho1; rw [← map_app, sp_two t i hi0] at ho1; have n0_ := Aside0.mk (WV.put HV.out ho1 hg1); have n1_ := Aside0.mk (below_set hb1 GE.out (j := 0) (v := .slice A1 m1 c1)); have n2_ := Aside0.mk ((KeepT.grown HK.out HV.out hg1).set 0 (.slice A1 m1 c1)); have hcn : w1.cell? ⟨g, 0, none⟩ = some v := (blk_cell (blk_grown HV.out.1 hg1 (WV.ne HV.out)) 0).trans rfl; have hfn := blk_frozen (blk_grown HV.out.1 hg1 (WV.ne HV.out)) 0; clear HV HB HK ho1 hb1 hg1 hcg0 hcg1 hfg0 hfg1; have HV := n0_; have HB := n1_; have HK := n2_; clear n0_ n1_ n2_))
      go_roundw
      case rel => exact ⟨i + 1, _, by go_num, by omega, by omega, HV, HB, HK⟩
      case measure => simp [intOf]; omega
    · have hb0 : decide (i < n) = false := decide_eq_false hlt
      have hin : i = n := by omega
      have HIN := Lib.hid hin
      clear hin
      go_wp2
      go_loopw [23] (fun v23 wr => L2Rel t n parts L g w0 w v23 wr) (fun v23 _ => L - (intOf v23).toNat)
      case atStart => exact ⟨0, v, rfl, Int.le_refl _, by omega, ⟨by have := HV.out; rw [HIN.out] at this; simpa using this⟩, HB, HK⟩
      case round =>
        unfold L2Rel at hrel
        clear HV HB HK hcg0 hcg1 hfg0 hfg1 HIN hi0 hi1 hlt hb0
        obtain ⟨k2, v2, rfl, hi0, hi1, HV, HB, HK⟩ := hrel
        have hcg0 : wr.cell? ⟨g, 0, none⟩ = some v2 := (blk_cell HV.out.1 0).trans rfl
        have hcg1 : wr.cell? ⟨g, 1, none⟩ = some (.int .i64 n) := (blk_cell HV.out.1 1).trans rfl
        have hfg0 := blk_frozen HV.out.1 0
        have hfg1 := blk_frozen HV.out.1 1
        by_cases hlt : k2 < (L : Int)
        · have hb0 : decide (k2 < (L : Int)) = true := decide_eq_true hlt
          have HLT := Aside0.mk (show k2.toNat < parts.length by rw [HL.out]; omega)
          have hcp : wr.cell? ⟨b, k2.toNat, none⟩ = some (.string (parts.getD k2.toNat ⟨#[]⟩)) := by
            refine (blk_cell (HK.out.blk HP.out HBG.out (by decide)) k2.toNat).trans ?_
            rw [List.getElem?_toArray, List.getElem?_map, List.getD_eq_getElem?_getD, List.getElem?_eq_getElem HLT.out]
            rfl
          have HLEN := Aside0.mk (show ((t ++ List.replicate (2 * n.toNat) 32 ++ ((parts.take k2.toNat).map lst).flatten).map c8).length + (parts.getD k2.toNat ⟨#[]⟩).size ≤ 140737488355328 by
            have h1 := flat_len parts (k2.toNat + 1)
            rw [← flat_at parts k2.toNat HLT.out, List.length_append, lst_len] at h1
            have := HS.out
            simp only [List.length_map, List.length_append, List.length_replicate] at h1 ⊢
            omega)
          have p1 := eq_true hi0
          have p2 := eq_true hlt
          go_wp2_with (first | ((with_reducible refine gate_builtin (b := .append) (xs := #[.tmp 31, .tmp 32]) rfl ?_); at_builtin; refine print_append_str (w0 := w0) w0.heap.size rfl (.tmp 31) (.tmp 32) 62 9 5 rfl Try.underlying62 Try.underlying9 info5b v2 ((t ++ List.replicate (2 * n.toNat) 32 ++ ((parts.take k2.toNat).map lst).flatten).map c8) (parts.getD k2.toNat ⟨#[]⟩) rfl rfl HV.out.2.2 HB.out ?aS ?aL ?_; (case aS => exact below_size HB.out); (case aL => exact HLEN.out); intro v1 w1 ho1 hb1 hg1; obtain ⟨A1, m1, c1, rfl⟩ := own_sl ho1; rw [← map_app, List.append_assoc, flat_at parts k2.toNat HLT.out] at ho1; have n0_ := Aside0.mk (WV.put HV.out ho1 hg1); have n1_ := Aside0.mk (below_set hb1 GE.out (j := 0) (v := .slice A1 m1 c1)); have n2_ := Aside0.mk ((KeepT.grown HK.out HV.out hg1).set 0 (.slice A1 m1 c1)); have hcn : w1.cell? ⟨g, 0, none⟩ = some v2 := (blk_cell (blk_grown HV.out.1 hg1 (WV.ne HV.out)) 0).trans rfl; have hfn := blk_frozen (blk_grown HV.out.1 hg1 (WV.ne HV.out)) 0; clear HV HB HK ho1 hb1 hg1 hcg0 hcg1 hfg0 hfg1; have HV := n0_; have HB := n1_; have HK := n2_; clear n0_ n1_ n2_))
          go_roundw
          case rel => exact ⟨k2 + 1, _, by go_num, by omega, by omega, ⟨by have := HV.out; rw [show (k2 + 1).toNat = k2.toNat + 1 by omega]; exact this⟩, HB, HK⟩
          case measure => simp [intOf]; omega
        · have hb0 : decide (k2 < (L : Int)) = false := decide_eq_false hlt
          obtain ⟨TT, hTT⟩ : ∃ TT, TT = t ++ List.replicate (2 * n.toNat) 32 ++ (parts.map lst).flatten := ⟨_, rfl⟩
          have hfull : t ++ List.replicate (2 * n.toNat) 32 ++ ((parts.take k2.toNat).map lst).flatten = TT := by rw [hTT, List.take_of_length_le (by have := HL.out; omega)]
          have HV2 := Aside0.mk (show WV w0.heap.size wr g v2 TT n by have := HV.out; rw [hfull] at this; exact this)
          have HLEN := Aside0.mk (show ((TT.map c8).length + 1) * 1 ≤ 140737488355328 by
            have := HS.out
            rw [hTT]
            simp only [List.length_map, List.length_append, List.length_replicate]
            omega)
          have HTT := Aside0.mk (show TT ++ [10] = t ++ lineB n parts by rw [hTT]; unfold lineB; simp only [List.append_assoc])
          clear hTT hfull HV
          have HV := HV2
          clear HV2
          go_wp2_with (first | ((with_reducible refine gate_builtin (b := .append) (xs := #[.tmp 41, .tmp 42]) rfl ?_); at_builtin; refine print_append_num (w0 := w0) w0.heap.size rfl (.tmp 41) (.tmp 42) 62 5 .u8 1 rfl Try.underlying62 info5b (by decide) v2 (TT.map c8) 10 rfl rfl HV.out.2.2 HB.out ?aS ?aL ?_; (case aS => exact below_size HB.out); (case aL => exact HLEN.out); intro v1 w1 ho1 hb1 hg1 _; obtain ⟨A1, m1, c1, rfl⟩ := own_sl ho1; rw [← map_ten] at ho1; have n0_ := Aside0.mk (WV.put HV.out ho1 hg1); have n1_ := Aside0.mk (below_set hb1 GE.out (j := 0) (v := .slice A1 m1 c1)); have n2_ := Aside0.mk ((KeepT.grown HK.out HV.out hg1).set 0 (.slice A1 m1 c1)); have hcn : w1.cell? ⟨g, 0, none⟩ = some v2 := (blk_cell (blk_grown HV.out.1 hg1 (WV.ne HV.out)) 0).trans rfl; have hfn := blk_frozen (blk_grown HV.out.1 hg1 (WV.ne HV.out)) 0; clear HV HB HK ho1 hb1 hg1 hcg0 hcg1 hfg0 hfg1; have HV := n0_; have HB := n1_; have HK := n2_; clear n0_ n1_ n2_))
          go_end0
          exact ⟨rfl, ⟨_, by rw [← HTT.out]; exact HV.out⟩, HB.out, HK.out⟩
end Go.Proofs.Ytobkdmmnbnpemaa.K
