/- ChunkDeals walked. -/
import Derived.Test.YtnhjneldjfdnfaaD5
import Derived.Test.YtnhjneldjfdnfaaLOnce
import Derived.Test.YtnhjneldjfdnfaaPureR
import Derived.BigQuiet
import Derived.Deep.RegionHeld3
namespace Go.Proofs.Ytnhjneldjfdnfaa.K
open Go.RowKit Go.Proofs.YtnhjneldjfdnfaaW.PrintWords Go.Proofs.YtnhjneldjfdnfaaW.PrintLast Go.Proofs.YtnhjneldjfdnfaaW.PrintMore
attribute [local go_sem] max2_int min2_int max_two min_two max_three min_three max_four min_four
set_option linter.unusedVariables false
set_option linter.unusedSimpArgs false

/-- The document's dealer's cells. -/
def rcells (p sz wk n nx : Int) (v : Value) : Array Value := #[.int .i64 p, .int .i64 sz, .int .i64 wk, .int .i64 n, .int .i64 nx, v]
def off (bt : Nat) (k : Nat) : Prop := k ≠ bt
/-- What the walk holds: the dealer (b, bt), the document's one (br, its turns v), the argument's box. -/
structure QS (w0 w : World) (bx b bt ct br : Nat) (bc : Array Value) (d : D) (v : Value) : Prop where
  hd : DH w w0.heap.size b bt ct d
  hv : Kd.R (Kd.int .i64) 3 w w0.heap.size (off bt) v d.tn
  hr : w.heap[br]? = some (.cells (rcells d.pol d.sz d.wk d.n d.nx v) 38 (0, 0))
  hx : w.heap[bx]? = some (.cells bc 25 (0, 0))
  hb : Below w0.heap.size w0 w
  lr : w0.heap.size ≤ br
section
variable {w0 w w' : World} {bx b bt ct br : Nat} {bc : Array Value} {d d' : D} {v : Value}
theorem row_mv {base : Nat} {ok : Nat → Prop} {xs : List Int} (h : Kd.R (Kd.int .i64) 3 w base ok v xs) (hm : ∀ k, v.ownBlock = some k → w'.heap[k]? = w.heap[k]?) : Kd.R (Kd.int .i64) 3 w' base ok v xs :=
  Kd.R_mono (Kd.R_step (Kd.R_tight2 rfl h) (fun k hk _ => hm k hk.1.symm)) (fun _ hk => hk.2)
theorem qs_below (h : QS w0 w bx b bt ct br bc d v) (hb : Below w.heap.size w w') : QS w0 w' bx b bt ct br bc d v :=
  ⟨dh_below h.hd hb, Kd.R_below h.hv hb, blk_below h.hr hb, blk_below h.hx hb, below_step h.hb hb, h.lr⟩
theorem qs_alloc (h : QS w0 w bx b bt ct br bc d v) (o : Obj) : QS w0 (w.alloc o) bx b bt ct br bc d v := qs_below h (below_alloc (Below.refl _ _) o)
theorem qs_drewN (h : QS w0 w bx b bt ct br bc d v) (n : Nat) : QS w0 (w.drewN n) bx b bt ct br bc d v := qs_below h (pw_below_drewN (Below.refl _ _) n)
theorem qs_drew (h : QS w0 w bx b bt ct br bc d v) : QS w0 w.drew bx b bt ct br bc d v := qs_below h (below_drew (Below.refl _ _))

/-- Behind the code's Next: the dealer has gone on, the document's one has not. -/
structure QM (w0 w : World) (bx b bt ct br : Nat) (bc : Array Value) (d d' : D) (v : Value) : Prop where
  hd : DH w w0.heap.size b bt ct d'
  hv : Kd.R (Kd.int .i64) 3 w w0.heap.size (off bt) v d.tn
  hr : w.heap[br]? = some (.cells (rcells d.pol d.sz d.wk d.n d.nx v) 38 (0, 0))
  hx : w.heap[bx]? = some (.cells bc 25 (0, 0))
  hb : Below w0.heap.size w0 w
  lr : w0.heap.size ≤ br
theorem qm_next (h : QS w0 w bx b bt ct br bc d v) (hd : DH w' w0.heap.size b bt ct d') (hf : Fr w w' b bt) : QM w0 w' bx b bt ct br bc d d' v := by
  refine ⟨hd, ?_, blk_fr h.hr h.hd hf (by decide) (by decide), blk_fr h.hx h.hd hf (by decide) (by decide), fr_below h.hb hf h.hd.low h.hd.lowt, h.lr⟩
  refine row_mv h.hv (fun k hk => hf.block k (Kd.R_lt h.hv k hk) ?_ (h.hv.1 k hk))
  intro e
  subst e
  exact Kd.R_ne h.hv h.hd.cells (by decide) hk.symm
theorem qm_below (h : QM w0 w bx b bt ct br bc d d' v) (hb : Below w.heap.size w w') : QM w0 w' bx b bt ct br bc d d' v :=
  ⟨dh_below h.hd hb, Kd.R_below h.hv hb, blk_below h.hr hb, blk_below h.hx hb, below_step h.hb hb, h.lr⟩
theorem qm_alloc (h : QM w0 w bx b bt ct br bc d d' v) (o : Obj) : QM w0 (w.alloc o) bx b bt ct br bc d d' v := qm_below h (below_alloc (Below.refl _ _) o)
theorem qm_drewN (h : QM w0 w bx b bt ct br bc d d' v) (n : Nat) : QM w0 (w.drewN n) bx b bt ct br bc d d' v := qm_below h (pw_below_drewN (Below.refl _ _) n)
end

/-- Behind the document's Next. -/
structure RN (w0 w' : World) (bx b bt ct br bs : Nat) (bc : Array Value) (d d' : D) (v : Value) (f t : Int) (A5 : Option Addr) (c5 : Nat) (A6 : Option Addr) (c6 : Nat) (ag : List Int) : Prop where
  hd : DH w' w0.heap.size b bt ct d'
  hv : Kd.R (Kd.int .i64) 3 w' w0.heap.size (off bt) (.slice A5 d'.tn.length c5) d'.tn
  h6 : Kd.R (Kd.int .i64) 3 w' w0.heap.size (off bt) (.slice A6 ag.length c6) ag
  hr : w'.heap[br]? = some (.cells (rcells d.pol d.sz d.wk d.n d.nx v) 38 (0, 0))
  hx : w'.heap[bx]? = some (.cells bc 25 (0, 0))
  hs : w'.heap[bs]? = some (.cells #[.int .i64 f, .int .i64 t] 32 (0, 0))
  hb : Below w0.heap.size w0 w'
  lr : w0.heap.size ≤ br
def RNPost (w0 : World) (bx b bt ct br bs : Nat) (bc : Array Value) (d d' : D) (v : Value) (f t : Int) (ag : List Int) (e : Ending) (w' : World) : Prop :=
  ∃ A5 c5 A6 c6, e = .returned (.tuple #[.agg #[.int .i64 d.pol, .int .i64 d.sz, .int .i64 d.wk, .int .i64 d.n, .int .i64 d'.nx, .slice A5 d'.tn.length c5], .slice A6 ag.length c6]) ∧ RN w0 w' bx b bt ct br bs bc d d' v f t A5 c5 A6 c6 ag
theorem rnext_calls (w0 w : World) (bx b bt ct br bs : Nat) (bc : Array Value) (d d' : D) (Av : Option Addr) (cv : Nat) (f t q : Int) (ag : List Int) (kr : Nat) (h : QM w0 w bx b bt ct br bc d d' (.slice Av d.tn.length cv)) (hs : w.heap[bs]? = some (.cells #[.int .i64 f, .int .i64 t] 32 (0, 0)))
    (hk : outriderref16_Next.f kr d.pol d.sz d.wk d.n d.nx d.tn q = some (d.pol, d.sz, d.wk, d.n, d'.nx, d'.tn, ag)) :
    Calls Try.prog 11 #[.agg #[.int .i64 d.pol, .int .i64 d.sz, .int .i64 d.wk, .int .i64 d.n, .int .i64 d.nx, .slice Av d.tn.length cv], .int .i64 q] w (RNPost w0 bx b bt ct br bs bc d d' (.slice Av d.tn.length cv) f t ag) := by
  refine (outriderref16_Next.calls kr d.pol d.sz d.wk d.n d.nx (fun k => some k = (Value.slice Av d.tn.length cv).ownBlock) _ d.tn q d.pol d.sz d.wk d.n d'.nx d'.tn ag w0 w h.hb (Kd.R_tight rfl h.hv) hk).mono ?_
  intro e w' hp
  obtain ⟨v5, v6, he, h5, h6, hb, hkept⟩ := hp
  obtain ⟨A5, c5, rfl⟩ := Kd.R_slice h5
  obtain ⟨A6, c6, rfl⟩ := Kd.R_slice h6
  have far : ∀ k, k < w.heap.size → some k ≠ (Value.slice Av d.tn.length cv).ownBlock → w'.heap[k]? = w.heap[k]? := fun k hk hn => hkept.2 k hk (fun e => hn e)
  have nt : some bt ≠ (Value.slice Av d.tn.length cv).ownBlock := fun e => h.hv.1 bt e.symm rfl
  have nb := Kd.R_ne h.hv h.hd.cells (by decide)
  have nr := Kd.R_ne h.hv h.hr (by decide)
  have nx := Kd.R_ne h.hv h.hx (by decide)
  have ns := Kd.R_ne h.hv hs (by decide)
  have hlt := dh_lt h.hd
  have offs : ∀ k, (some k = (Value.slice Av d.tn.length cv).ownBlock ∨ w.heap.size ≤ k) → off bt k := by
    intro k hk e
    subst e
    rcases hk with hk | hk
    · exact nt hk
    · have := hlt.2.1; omega
  exact ⟨A5, c5, A6, c6, he, dh_step h.hd (far _ hlt.1 nb) (far _ hlt.2.1 nt), Kd.R_mono h5 (fun k hk => offs k hk.1), Kd.R_mono h6 (fun k hk => offs k hk.1), (far _ (blk_lt h.hr) nr).trans h.hr, (far _ (blk_lt h.hx) nx).trans h.hx, (far _ (blk_lt hs) ns).trans hs, hb, h.lr⟩

section
variable {w0 w : World} {bx b bt ct br bs : Nat} {bc : Array Value} {d d' : D} {v : Value} {f t : Int} {A5 A6 : Option Addr} {c5 c6 : Nat} {ag : List Int}
/-- The document's dealer stored. -/
def stored (w : World) (br : Nat) (a0 a1 a2 a3 a4 : Int) (v : Value) : World :=
  (((((w.setCell ⟨br, 0, none⟩ (.int .i64 a0)).setCell ⟨br, 1, none⟩ (.int .i64 a1)).setCell ⟨br, 2, none⟩ (.int .i64 a2)).setCell ⟨br, 3, none⟩ (.int .i64 a3)).setCell ⟨br, 4, none⟩ (.int .i64 a4)).setCell ⟨br, 5, none⟩ v
theorem stored_far (w : World) (br : Nat) (a0 a1 a2 a3 a4 : Int) (v : Value) (k : Nat) (hk : k ≠ br) : (stored w br a0 a1 a2 a3 a4 v).heap[k]? = w.heap[k]? := by
  unfold stored
  rw [Below.heap_setCell _ ⟨br, 5, none⟩ _ k hk, Below.heap_setCell _ ⟨br, 4, none⟩ _ k hk, Below.heap_setCell _ ⟨br, 3, none⟩ _ k hk, Below.heap_setCell _ ⟨br, 2, none⟩ _ k hk, Below.heap_setCell _ ⟨br, 1, none⟩ _ k hk, Below.heap_setCell _ ⟨br, 0, none⟩ _ k hk]
theorem stored_below {w0 w : World} {br : Nat} (h : Below w0.heap.size w0 w) (hl : w0.heap.size ≤ br) (a0 a1 a2 a3 a4 : Int) (v : Value) : Below w0.heap.size w0 (stored w br a0 a1 a2 a3 a4 v) :=
  below_set (below_set (below_set (below_set (below_set (below_set h hl) hl) hl) hl) hl) hl
theorem stored_blk {w : World} {br : Nat} {b0 b1 b2 b3 b4 : Int} {u : Value} (h : w.heap[br]? = some (.cells (rcells b0 b1 b2 b3 b4 u) 38 (0, 0))) (a0 a1 a2 a3 a4 : Int) (v : Value) : (stored w br a0 a1 a2 a3 a4 v).heap[br]? = some (.cells (rcells a0 a1 a2 a3 a4 v) 38 (0, 0)) := by
  unfold stored rcells at *
  exact blk_put (blk_put (blk_put (blk_put (blk_put (blk_put h 0 _ rfl) 1 _ rfl) 2 _ rfl) 3 _ rfl) 4 _ rfl) 5 _ rfl
theorem qs_stored (h : RN w0 w bx b bt ct br bs bc d d' v f t A5 c5 A6 c6 ag) (hs : Same4 d d') : QS w0 (stored w br d.pol d.sz d.wk d.n d'.nx (.slice A5 d'.tn.length c5)) bx b bt ct br bc d' (.slice A5 d'.tn.length c5) := by
  obtain ⟨e1, e2, e3, e4⟩ := hs
  have fr := stored_far w br d.pol d.sz d.wk d.n d'.nx (.slice A5 d'.tn.length c5)
  have hne : ∀ {k t : Nat} {cs : Array Value}, w.heap[k]? = some (.cells cs t (0, 0)) → t ≠ 38 → k ≠ br := fun hb ht => blk_ne hb h.hr ht
  obtain ⟨tc, htc⟩ := dh_turns_block h.hd
  refine ⟨dh_step h.hd (fr _ (hne h.hd.cells (by decide))) (fr _ (hne htc (by decide))), row_mv h.hv (fun k hk => fr k (fun e => Kd.R_ne h.hv h.hr (by decide) (by rw [← e]; exact hk.symm))), ?_, (fr _ (hne h.hx (by decide))).trans h.hx, stored_below h.hb h.lr _ _ _ _ _ _, h.lr⟩
  rw [e1, e2, e3, e4]
  exact stored_blk h.hr _ _ _ _ _ _
theorem row_stored (h : RN w0 w bx b bt ct br bs bc d d' v f t A5 c5 A6 c6 ag) : Kd.R (Kd.int .i64) 3 (stored w br d.pol d.sz d.wk d.n d'.nx (.slice A5 d'.tn.length c5)) w0.heap.size (off bt) (.slice A6 ag.length c6) ag :=
  row_mv h.h6 (fun k hk => stored_far _ _ _ _ _ _ _ _ k (fun e => Kd.R_ne h.h6 h.hr (by decide) (by rw [← e]; exact hk.symm)))
theorem span_stored (h : RN w0 w bx b bt ct br bs bc d d' v f t A5 c5 A6 c6 ag) : (stored w br d.pol d.sz d.wk d.n d'.nx (.slice A5 d'.tn.length c5)).heap[bs]? = some (.cells #[.int .i64 f, .int .i64 t] 32 (0, 0)) :=
  (stored_far _ _ _ _ _ _ _ _ bs (blk_ne h.hs h.hr (by decide))).trans h.hs
end

set_option maxHeartbeats 1000000 in
theorem deals_big (p sz wk n : Int) (A : Option Addr) (len cap : Nat) (w : World) (h : 300 < len) :
    Calls Try.prog 5 #[.agg #[.int .i64 p, .int .i64 sz, .int .i64 wk, .int .i64 n, .slice A len cap]] w (TruePost w) := by
  have h' : (300 : Int) < len := by omega
  go_enter Try.func5, Try.ntmps5
  go_wp2
  go_ret
  exact ⟨rfl, below_alloc (Below.refl _ _) _⟩

def DRel (w0 : World) (bx b bt ct br : Nat) (bc : Array Value) (d0 : D) (len : Nat) (v7 : Value) (w' : World) : Prop :=
  ∃ (i : Nat) (d : D) (v : Value), i ≤ len ∧ v7 = .int .i64 i ∧ Aside0 (QS w0 w' bx b bt ct br bc d v)

set_option maxHeartbeats 4000000 in
set_option maxRecDepth 100000 in
theorem deals_main (p sz wk n : Int) (A : Option Addr) (cap : Nat) (asks : List Int) (w : World) (hr : Kd.C (Kd.int .i64) w A asks.length asks) (h : ¬ 300 < asks.length) (hn : newErr p sz wk n = 0) :
    Calls Try.prog 5 #[.agg #[.int .i64 p, .int .i64 sz, .int .i64 wk, .int .i64 n, .slice A asks.length cap]] w (TruePost w) := by
  have h' : ¬ (300 : Int) < asks.length := by omega
  have hnew := Lib.hid (fun W => new_ok p sz wk n W hn)
  obtain ⟨kq, hkq⟩ := ref_new p sz wk n
  rw [if_pos hn] at hkq
  have hrnew := Lib.hid (fun W => outriderref16_New.calls kq p sz wk n p sz wk n 0 (List.replicate wk.toNat 0) 0 W hkq)
  have HB := Aside0.mk (Below.refl w.heap.size w)
  have HR := Aside0.mk hr
  clear hr hn hkq
  go_enter Try.func5, Try.ntmps5
  go_wp2_with (first | ((with_reducible refine gate_dst (N := 1) rfl ?_); refine box_event ?hg (N := 1) ?hd (cs := bcells p sz wk n A asks.length cap) (t := 25) ?hr ?_; (case hd => rfl); (case hg => rfl); (case hr => unfold bcells; first | (go_simp; done) | (go_simp; rfl)); intro bx hg w3 hbox hb; have m1_ := Aside0.mk (below_step HB.out hb); have m2_ := Aside0.mk hbox; clear HB hb hbox hg; have HB := m1_; have HX := m2_; clear m1_ m2_; have x0 : w3.cell? ⟨bx, 0, none⟩ = some (.int .i64 p) := (blk_cell HX.out 0).trans rfl; have x1 : w3.cell? ⟨bx, 1, none⟩ = some (.int .i64 sz) := (blk_cell HX.out 1).trans rfl; have x2 : w3.cell? ⟨bx, 2, none⟩ = some (.int .i64 wk) := (blk_cell HX.out 2).trans rfl; have x3 : w3.cell? ⟨bx, 3, none⟩ = some (.int .i64 n) := (blk_cell HX.out 3).trans rfl; have x4 : w3.cell? ⟨bx, 4, none⟩ = some (.slice A asks.length cap) := (blk_cell HX.out 4).trans rfl))
  refine (hnew.out _).mono ?_
  intro e w4 hp
  obtain ⟨b, bt, ct, he, hd, hb⟩ := hp
  subst he
  have hX := blk_below HX.out hb
  have hBB := below_step HB.out hb
  have hD : DH w4 w.heap.size b bt ct (newD p sz wk n) := ⟨hd.cells, Kd.R_lower hd.turns (below_size HB.out), hd.ok, Nat.le_trans (below_size HB.out) hd.low, Nat.le_trans (below_size HB.out) hd.lowt⟩
  clear HB HX x0 x1 x2 x3 x4 hb hd
  have HB := Aside0.mk hBB
  have HX := Aside0.mk hX
  have HD := Aside0.mk hD
  clear hBB hX hD hnew
  have x0 : w4.cell? ⟨bx, 0, none⟩ = some (.int .i64 p) := (blk_cell HX.out 0).trans rfl
  have x1 : w4.cell? ⟨bx, 1, none⟩ = some (.int .i64 sz) := (blk_cell HX.out 1).trans rfl
  have x2 : w4.cell? ⟨bx, 2, none⟩ = some (.int .i64 wk) := (blk_cell HX.out 2).trans rfl
  have x3 : w4.cell? ⟨bx, 3, none⟩ = some (.int .i64 n) := (blk_cell HX.out 3).trans rfl
  go_wp2_with fail
  refine (hrnew.out _).mono ?_
  intro e w5 hp
  obtain ⟨v5, he, ho, hb⟩ := hp
  subst he
  obtain ⟨A5, c5, e5⟩ := Kd.R_slice ho
  subst e5
  rw [List.length_replicate] at ho
  rw [List.length_replicate]
  have hlt := (dh_lt HD.out).2.1
  have m1_ := Aside0.mk (dh_below HD.out hb)
  have m2_ := Aside0.mk (blk_below HX.out hb)
  have m3_ := Aside0.mk (below_step HB.out hb)
  have m4_ := Aside0.mk (show Kd.R (Kd.int .i64) 3 w5 w.heap.size (off bt) (.slice A5 wk.toNat c5) (newD p sz wk n).tn from Kd.R_lower (Kd.R_reok rfl ho (fun k hk => by have := Kd.R_base ho k hk; unfold off; omega)) (below_size HB.out))
  clear HB HX HD x0 x1 x2 x3 ho hb hlt hrnew
  have HD := m1_
  have HX := m2_
  have HB := m3_
  have HV := m4_
  clear m1_ m2_ m3_ m4_
  go_wp2
  generalize hW : w5.alloc _ = w6
  have hQ := Aside0.mk (show QS w w6 bx b bt ct w5.heap.size (bcells p sz wk n A asks.length cap) (newD p sz wk n) (.slice A5 wk.toNat c5) by
    rw [← hW]
    exact ⟨dh_alloc HD.out _, Kd.R_alloc HV.out _, blk_new w5 _, blk_alloc HX.out _, below_alloc HB.out _, below_size HB.out⟩)
  clear hW HD HX HB HV
  generalize w5.heap.size = br at *
  go_loopw [7] (fun v7 w' => DRel w bx b bt ct br (bcells p sz wk n A asks.length cap) (newD p sz wk n) asks.length v7 w') (fun v7 _ => asks.length - (intOf v7).toNat)
  case atStart => exact ⟨0, _, _, Nat.zero_le _, rfl, hQ⟩
  case round =>
    clear hQ
    unfold DRel at hrel
    obtain ⟨i, d, v, hi, rfl, HQ⟩ := hrel
    have x4 : wr.cell? ⟨bx, 4, none⟩ = some (.slice A asks.length cap) := (blk_cell HQ.out.hx 4).trans rfl
    by_cases hlt : i < asks.length
    · have i0 : (0 : Int) ≤ i := by omega
      have i1 : (i : Int) < asks.length := by omega
      obtain ⟨ad, ea, hx⟩ := Kd.at_int HR.out i i0 i1
      cases ea
      simp only [Int.toNat_natCast] at hx
      generalize hq : rd asks (i : Int) = q at *
      clear hq
      have HXW := Aside0.mk hx
      replace hx := (HQ.out.hb.cell (World.block_lt_of_cell? w _ hx)).trans hx
      have HST := Aside0.mk (same_true d HQ.out.hd.ok q)
      have HRN := Aside0.mk (ref_next d HQ.out.hd.ok q)
      have HNC := Aside0.mk (next_calls w.heap.size b bt ct d q)
      have hDD := Aside0.mk HQ.out.hd
      go_wp2_with fail
      refine (HNC.out _ hDD.out).mono ?_
      intro e w7 hp
      unfold NextPost at hp
      obtain ⟨he, hd, hf⟩ := hp
      subst he
      have m1_ := Aside0.mk (qm_next HQ.out hd hf)
      clear HQ hd hf HNC hDD x4 hx
      have HQ := m1_
      clear m1_
      have hsm := next_same d q
      generalize hag : agesOf (d.next q) = ag at *
      generalize (d.next q).1 = d' at *
      generalize (d.next q).2.1 = f at *
      generalize (d.next q).2.2.1 = t at *
      generalize (d.next q).2.2.2 = ok at *
      clear hag
      obtain ⟨kr, hkr⟩ := HRN.out
      clear HRN
      go_wp2
      generalize hW : w7.alloc (.cells #[.int .i64 f, .int .i64 t] 32 (0, 0)) = w8
      have m1_ := Aside0.mk (show QM w w8 bx b bt ct br (bcells p sz wk n (some ad) asks.length cap) d d' v by rw [← hW]; exact qm_alloc HQ.out _)
      have m2_ := Aside0.mk (show w8.heap[w7.heap.size]? = some (.cells #[.int .i64 f, .int .i64 t] 32 (0, 0)) by rw [← hW]; exact blk_new w7 _)
      generalize w7.heap.size = bs at *
      clear HQ hW
      have HQ := m1_
      have HP := m2_
      clear m1_ m2_
      obtain ⟨Av, cv, ev⟩ := Kd.R_slice HQ.out.hv
      subst ev
      have x4 : w8.cell? ⟨bx, 4, none⟩ = some (.slice (some ad) asks.length cap) := (blk_cell HQ.out.hx 4).trans rfl
      have hx : w8.cell? (ad.add i) = some (.int .i64 q) := (HQ.out.hb.cell (World.block_lt_of_cell? w _ HXW.out)).trans HXW.out
      have r0 : w8.cell? ⟨br, 0, none⟩ = some (.int .i64 d.pol) := (blk_cell HQ.out.hr 0).trans rfl
      have r1 : w8.cell? ⟨br, 1, none⟩ = some (.int .i64 d.sz) := (blk_cell HQ.out.hr 1).trans rfl
      have r2 : w8.cell? ⟨br, 2, none⟩ = some (.int .i64 d.wk) := (blk_cell HQ.out.hr 2).trans rfl
      have r3 : w8.cell? ⟨br, 3, none⟩ = some (.int .i64 d.n) := (blk_cell HQ.out.hr 3).trans rfl
      have r4 : w8.cell? ⟨br, 4, none⟩ = some (.int .i64 d.nx) := (blk_cell HQ.out.hr 4).trans rfl
      have r5 : w8.cell? ⟨br, 5, none⟩ = some (.slice Av d.tn.length cv) := (blk_cell HQ.out.hr 5).trans rfl
      have hkr2 := Aside0.mk hkr
      clear hkr
      have hsm := Aside0.mk hsm
      go_cut [8] (fun v8 wc => ∃ (A5 : Option Addr) (c5 : Nat) (A6 : Option Addr) (c6 : Nat), v8 = .slice A6 ag.length c6 ∧ Aside0 (QS w wc bx b bt ct br (bcells p sz wk n (some ad) asks.length cap) d' (.slice A5 d'.tn.length c5)) ∧ Aside0 (Kd.R (Kd.int .i64) 3 wc w.heap.size (off bt) (.slice A6 ag.length c6) ag) ∧ Aside0 (wc.heap[bs]? = some (.cells #[.int .i64 f, .int .i64 t] 32 (0, 0))))
      case first =>
        go_region_with (go_at_call 11; refine (rnext_calls w _ bx b bt ct br bs _ d d' Av cv f t q ag kr (qm_below HQ.out (by first | exact Below.refl _ _ | exact below_drew (Below.refl _ _))) (by first | exact HP.out | exact blk_drew HP.out) hkr2.out).mono ?_; intro e w9 hp; obtain ⟨A5, c5, A6, c6, he, hrn⟩ := hp; subst he; have HRN := Aside0.mk hrn; clear hrn; have y0 : w9.cell? ⟨br, 0, none⟩ = some (.int .i64 d.pol) := (blk_cell HRN.out.hr 0).trans rfl; have y1 : w9.cell? ⟨br, 1, none⟩ = some (.int .i64 d.sz) := (blk_cell HRN.out.hr 1).trans rfl; have y2 : w9.cell? ⟨br, 2, none⟩ = some (.int .i64 d.wk) := (blk_cell HRN.out.hr 2).trans rfl; have y3 : w9.cell? ⟨br, 3, none⟩ = some (.int .i64 d.n) := (blk_cell HRN.out.hr 3).trans rfl; have y44 : w9.cell? ⟨br, 4, none⟩ = some (.int .i64 d.nx) := (blk_cell HRN.out.hr 4).trans rfl; have y5 : w9.cell? ⟨br, 5, none⟩ = some (.slice Av d.tn.length cv) := (blk_cell HRN.out.hr 5).trans rfl; have z0 := blk_frozen HRN.out.hr 0; have z1 := blk_frozen HRN.out.hr 1; have z2 := blk_frozen HRN.out.hr 2; have z3 := blk_frozen HRN.out.hr 3; have z4 := blk_frozen HRN.out.hr 4; have z5 := blk_frozen HRN.out.hr 5)
        all_goals (go_wp2_with fail; go_meet; exact ⟨A5, c5, A6, c6, rfl, ⟨qs_stored HRN.out hsm.out⟩, ⟨row_stored HRN.out⟩, ⟨span_stored HRN.out⟩⟩)
      case rest =>
        obtain ⟨A5, c5, A6, c6, rfl, HS, H6, HP⟩ := hcut
        go_wp2_with fail
        have hDD := Aside0.mk HS.out.hd
        refine (now_calls w.heap.size b bt ct d' _ hDD.out).mono ?_
        intro e w10 hp
        obtain ⟨v12, he, h12, hb⟩ := hp
        subst he
        obtain ⟨A12, c12, e12⟩ := Kd.R_slice h12
        subst e12
        have m1_ := Aside0.mk (qs_below HS.out hb)
        have m2_ := Aside0.mk (Kd.R_below H6.out hb)
        have m3_ := Aside0.mk (blk_below HP.out hb)
        have m4_ := Aside0.mk h12
        clear HS H6 HP h12 hb hDD HQ r0 r1 r2 r3 r4 r5 x4 hx
        have HS := m1_
        have H6 := m2_
        have HP := m3_
        have H12 := m4_
        clear m1_ m2_ m3_ m4_
        have s0 : w10.cell? ⟨bs, 0, none⟩ = some (.int .i64 f) := (blk_cell HP.out 0).trans rfl
        have s1 : w10.cell? ⟨bs, 1, none⟩ = some (.int .i64 t) := (blk_cell HP.out 1).trans rfl
        go_wp2_with fail
        refine (outriderlaw16_same.calls f t ok A6 c6 ag true _ (Kd.R_reads' H6.out).2.2 (Kd.R_reads' H6.out).2.1 HST.out).mono ?_
        intro e w11 hp
        obtain ⟨he, hb⟩ := hp
        subst he
        have m1_ := Aside0.mk (qs_below HS.out hb)
        have m4_ := Aside0.mk (Kd.R_below H12.out hb)
        clear HS H6 HP H12 hb s0 s1
        have HS := m1_
        have H12 := m4_
        clear m1_ m4_
        have r4 : w11.cell? ⟨br, 4, none⟩ = some (.int .i64 d'.nx) := (blk_cell HS.out.hr 4).trans rfl
        have r5 : w11.cell? ⟨br, 5, none⟩ = some (.slice A5 d'.tn.length c5) := (blk_cell HS.out.hr 5).trans rfl
        obtain ⟨kw, hkw⟩ := row_true d'.tn (by have := HS.out.hd.ok.2.2.2.2.2.2.2.2.2.2.1; have := HS.out.hd.ok.2.2.2.2.2.1; omega)
        have hkw2 := Aside0.mk hkw
        clear hkw
        go_wp2_with fail
        refine (outriderlaw16_row.calls kw A12 c12 d'.tn A5 c5 d'.tn true _ (Kd.R_reads' H12.out).2.2 (Kd.R_reads' H12.out).2.1 (Kd.R_reads' HS.out.hv).2.2 (Kd.R_reads' HS.out.hv).2.1 hkw2.out).mono ?_
        intro e w12 hp
        obtain ⟨he, hb0⟩ := hp
        subst he
        have hb := hb0.below
        clear hb0
        have m1_ := Aside0.mk (qs_below HS.out hb)
        clear HS H12 hb r4 r5
        have HS := m1_
        clear m1_
        go_wp2
        go_roundw
        case rel => exact ⟨i + 1, d', _, by omega, by go_num, HS⟩
        case measure => simp [intOf]; omega
    · have e : i = asks.length := by omega
      subst e
      go_wp2_with fail
      refine (alive_calls _).mono ?_
      intro e w8 hp
      obtain ⟨he, hb⟩ := hp
      subst he
      have m1_ := Aside0.mk (below_step HQ.out.hb hb)
      clear HQ hb x4
      go_wp2
      go_ret
      exact ⟨rfl, m1_.out⟩

set_option maxHeartbeats 2000000 in
set_option maxRecDepth 100000 in
theorem deals_bad (p sz wk n : Int) (A : Option Addr) (cap : Nat) (asks : List Int) (w : World) (h : ¬ 300 < asks.length) (hn : newErr p sz wk n ≠ 0) :
    Calls Try.prog 5 #[.agg #[.int .i64 p, .int .i64 sz, .int .i64 wk, .int .i64 n, .slice A asks.length cap]] w (TruePost w) := by
  have h' : ¬ (300 : Int) < asks.length := by omega
  have hnew := Lib.hid (fun W => new_bad p sz wk n W hn)
  obtain ⟨kq, hkq⟩ := ref_new p sz wk n
  rw [if_neg hn] at hkq
  have hrnew := Lib.hid (fun W => outriderref16_New.calls kq p sz wk n 0 0 0 0 0 [] (newErr p sz wk n) W hkq)
  have he1 : (newErr p sz wk n != 0) = true := by rw [bne_iff_ne]; exact hn
  have he2 : (newErr p sz wk n == 0) = false := by rw [beq_eq_false_iff_ne]; exact hn
  have hpos : 0 ≤ newErr p sz wk n ∧ newErr p sz wk n ≤ 200 := by unfold newErr; split <;> (try split) <;> (try split) <;> (try split) <;> omega
  have HE1 := Lib.hid he1
  have HE2 := Lib.hid he2
  clear he1 he2
  have HB := Aside0.mk (Below.refl w.heap.size w)
  clear hkq
  go_enter Try.func5, Try.ntmps5
  go_wp2_with (first | ((with_reducible refine gate_dst (N := 1) rfl ?_); refine box_event ?hg (N := 1) ?hd (cs := bcells p sz wk n A asks.length cap) (t := 25) ?hr ?_; (case hd => rfl); (case hg => rfl); (case hr => unfold bcells; first | (go_simp; done) | (go_simp; rfl)); intro bx hg w3 hbox hb; have m1_ := Aside0.mk (below_step HB.out hb); have m2_ := Aside0.mk hbox; clear HB hb hbox hg; have HB := m1_; have HX := m2_; clear m1_ m2_; have x0 : w3.cell? ⟨bx, 0, none⟩ = some (.int .i64 p) := (blk_cell HX.out 0).trans rfl; have x1 : w3.cell? ⟨bx, 1, none⟩ = some (.int .i64 sz) := (blk_cell HX.out 1).trans rfl; have x2 : w3.cell? ⟨bx, 2, none⟩ = some (.int .i64 wk) := (blk_cell HX.out 2).trans rfl; have x3 : w3.cell? ⟨bx, 3, none⟩ = some (.int .i64 n) := (blk_cell HX.out 3).trans rfl; have x4 : w3.cell? ⟨bx, 4, none⟩ = some (.slice A asks.length cap) := (blk_cell HX.out 4).trans rfl))
  refine (hnew.out _).mono ?_
  intro e w1 hp
  unfold NewBad at hp
  obtain ⟨he, hw⟩ := hp
  subst he
  subst hw
  clear hnew
  go_wp2_with fail
  refine (hrnew.out _).mono ?_
  intro e w5 hp
  obtain ⟨v5, he, ho, hb⟩ := hp
  subst he
  obtain ⟨A5, c5, e5⟩ := Kd.R_slice ho
  subst e5
  have m2_ := Aside0.mk (blk_below HX.out hb)
  have m3_ := Aside0.mk (below_step HB.out hb)
  clear HB HX x0 x1 x2 x3 x4 ho hb hrnew
  have HX := m2_
  have HB := m3_
  clear m2_ m3_
  have he1 := HE1.out
  have he2 := HE2.out
  generalize newErr p sz wk n = er at *
  clear HE1 HE2 hn
  go_wp2
  generalize hW : w5.alloc _ = w6
  have m2_ := Aside0.mk (show w6.heap[bx]? = some (.cells (bcells p sz wk n A asks.length cap) 25 (0, 0)) by rw [← hW]; exact blk_alloc HX.out _)
  have m3_ := Aside0.mk (show Below w.heap.size w w6 by rw [← hW]; exact below_alloc HB.out _)
  clear HX HB hW
  have x4 : w6.cell? ⟨bx, 4, none⟩ = some (.slice A asks.length cap) := (blk_cell m2_.out 4).trans rfl
  go_loopw [7] (fun v7 w' => v7 = .int .i64 0 ∧ w' = w6) (fun v7 _ => 0)
  case atStart => exact ⟨rfl, rfl⟩
  case round =>
    obtain ⟨rfl, rfl⟩ := hrel
    by_cases hl : 0 < asks.length
    · go_wp2_with fail
      refine (alive_calls _).mono ?_
      intro e w8 hp
      obtain ⟨he, hb⟩ := hp
      subst he
      have m1_ := Aside0.mk (below_step m3_.out hb)
      clear hb x4
      go_wp2
      go_ret
      exact ⟨rfl, m1_.out⟩
    · go_wp2_with fail
      refine (alive_calls _).mono ?_
      intro e w8 hp
      obtain ⟨he, hb⟩ := hp
      subst he
      have m1_ := Aside0.mk (below_step m3_.out hb)
      clear hb x4
      go_wp2
      go_ret
      exact ⟨rfl, m1_.out⟩
theorem deals_calls (p sz wk n : Int) (A : Option Addr) (cap : Nat) (asks : List Int) (w : World) (hr : Kd.C (Kd.int .i64) w A asks.length asks) :
    Calls Try.prog 5 #[.agg #[.int .i64 p, .int .i64 sz, .int .i64 wk, .int .i64 n, .slice A asks.length cap]] w (TruePost w) := by
  by_cases h : 300 < asks.length
  · exact deals_big p sz wk n A _ cap w h
  · by_cases hn : newErr p sz wk n = 0
    · exact deals_main p sz wk n A cap asks w hr h hn
    · exact deals_bad p sz wk n A cap asks w h hn
end Go.Proofs.Ytnhjneldjfdnfaa.K
