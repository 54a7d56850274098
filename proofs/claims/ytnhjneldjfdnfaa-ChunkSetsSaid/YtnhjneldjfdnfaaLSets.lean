/- ChunkSets walked. -/
import Derived.Test.YtnhjneldjfdnfaaLDeals
import Derived.Test.YtnhjneldjfdnfaaPureS
import Derived.BigQuiet
namespace Go.Proofs.Ytnhjneldjfdnfaa.K
open Go.RowKit Go.Proofs.YtnhjneldjfdnfaaW.PrintWords Go.Proofs.YtnhjneldjfdnfaaW.PrintLast Go.Proofs.YtnhjneldjfdnfaaW.PrintMore
attribute [local go_sem] max2_int min2_int max_two min_two max_three min_three max_four min_four
set_option linter.unusedVariables false
set_option linter.unusedSimpArgs false

set_option maxHeartbeats 1000000 in
theorem sets_big (p sz wk n : Int) (A : Option Addr) (len cap : Nat) (next : Int) (A2 : Option Addr) (l2 c2 : Nat) (w : World) (h : 300 < len) :
    Calls Try.prog 6 #[.agg #[.int .i64 p, .int .i64 sz, .int .i64 wk, .int .i64 n, .slice A len cap], .int .i64 next, .slice A2 l2 c2] w (TruePost w) := by
  have h' : (300 : Int) < len := by omega
  go_enter Try.func6, Try.ntmps6
  go_wp2
  go_ret
  exact ⟨rfl, below_alloc (Below.refl _ _) _⟩
set_option maxHeartbeats 1000000 in
theorem sets_big2 (p sz wk n : Int) (A : Option Addr) (len cap : Nat) (next : Int) (A2 : Option Addr) (l2 c2 : Nat) (w : World) (h : ¬ 300 < len) (h2 : 100 < l2) :
    Calls Try.prog 6 #[.agg #[.int .i64 p, .int .i64 sz, .int .i64 wk, .int .i64 n, .slice A len cap], .int .i64 next, .slice A2 l2 c2] w (TruePost w) := by
  have h' : decide ((300 : Int) < len) = false := decide_eq_false (by omega)
  have h2' : (100 : Int) < l2 := by omega
  go_enter Try.func6, Try.ntmps6
  go_wp2
  go_ret
  exact ⟨rfl, below_alloc (Below.refl _ _) _⟩

/-- Behind the code's Set and the document's. -/
structure RS (w0 w' : World) (bx b bt ct br : Nat) (bc : Array Value) (d d' : D) (v : Value) (A5 : Option Addr) (c5 : Nat) : Prop where
  hd : DH w' w0.heap.size b bt ct d'
  hv : Kd.R (Kd.int .i64) 3 w' w0.heap.size (off bt) (.slice A5 d'.tn.length c5) d'.tn
  hr : w'.heap[br]? = some (.cells (rcells d.pol d.sz d.wk d.n d.nx v) 38 (0, 0))
  hx : w'.heap[bx]? = some (.cells bc 25 (0, 0))
  hb : Below w0.heap.size w0 w'
  lr : w0.heap.size ≤ br
def RSPost (w0 : World) (bx b bt ct br : Nat) (bc : Array Value) (d d' : D) (v : Value) (ok : Bool) (e : Ending) (w' : World) : Prop :=
  ∃ A5 c5, e = .returned (.tuple #[.agg #[.int .i64 d.pol, .int .i64 d.sz, .int .i64 d.wk, .int .i64 d.n, .int .i64 d'.nx, .slice A5 d'.tn.length c5], .bool ok]) ∧ RS w0 w' bx b bt ct br bc d d' v A5 c5
theorem rset_calls (w0 w : World) (bx b bt ct br : Nat) (bc : Array Value) (d d' : D) (Av : Option Addr) (cv : Nat) (next : Int) (A2 : Option Addr) (c2 : Nat) (l : List Int) (ok : Bool) (kr : Nat) (h : QM w0 w bx b bt ct br bc d d' (.slice Av d.tn.length cv)) (hc : Kd.C (Kd.int .i64) w0 A2 l.length l) (hcap : l.length ≤ c2)
    (hk : outriderref16_Set.f kr d.pol d.sz d.wk d.n d.nx d.tn next l = some (d.pol, d.sz, d.wk, d.n, d'.nx, d'.tn, ok)) :
    Calls Try.prog 16 #[.agg #[.int .i64 d.pol, .int .i64 d.sz, .int .i64 d.wk, .int .i64 d.n, .int .i64 d.nx, .slice Av d.tn.length cv], .int .i64 next, .slice A2 l.length c2] w (RSPost w0 bx b bt ct br bc d d' (.slice Av d.tn.length cv) ok) := by
  refine (outriderref16_Set.calls kr d.pol d.sz d.wk d.n d.nx (fun k => some k = (Value.slice Av d.tn.length cv).ownBlock) _ d.tn next A2 c2 l d.pol d.sz d.wk d.n d'.nx d'.tn ok w0 w h.hb (Kd.R_tight rfl h.hv) (Kd.C_kept_came (Kd.heap_int .i64) hc h.hb (fun k hk => Kd.R_base h.hv k hk.symm)) hcap hk).mono ?_
  intro e w' hp
  obtain ⟨v5, he, h5, hb, hkept⟩ := hp
  obtain ⟨A5, c5, rfl⟩ := Kd.R_slice h5
  have far : ∀ k, k < w.heap.size → some k ≠ (Value.slice Av d.tn.length cv).ownBlock → w'.heap[k]? = w.heap[k]? := fun k hk hn => hkept.2 k hk (fun e => hn e)
  have nt : some bt ≠ (Value.slice Av d.tn.length cv).ownBlock := fun e => h.hv.1 bt e.symm rfl
  have nb := Kd.R_ne h.hv h.hd.cells (by decide)
  have nr := Kd.R_ne h.hv h.hr (by decide)
  have nx := Kd.R_ne h.hv h.hx (by decide)
  have hlt := dh_lt h.hd
  have offs : ∀ k, (some k = (Value.slice Av d.tn.length cv).ownBlock ∨ w.heap.size ≤ k) → off bt k := by
    intro k hk e
    subst e
    rcases hk with hk | hk
    · exact nt hk
    · have := hlt.2.1; omega
  exact ⟨A5, c5, he, dh_step h.hd (far _ hlt.1 nb) (far _ hlt.2.1 nt), Kd.R_mono h5 (fun k hk => offs k hk), (far _ (blk_lt h.hr) nr).trans h.hr, (far _ (blk_lt h.hx) nx).trans h.hx, hb, h.lr⟩
theorem qs_stored2 {w0 w : World} {bx b bt ct br : Nat} {bc : Array Value} {d d' : D} {v : Value} {A5 : Option Addr} {c5 : Nat} (h : RS w0 w bx b bt ct br bc d d' v A5 c5) (hs : Same4 d d') : QS w0 (stored w br d.pol d.sz d.wk d.n d'.nx (.slice A5 d'.tn.length c5)) bx b bt ct br bc d' (.slice A5 d'.tn.length c5) := by
  obtain ⟨e1, e2, e3, e4⟩ := hs
  have fr := stored_far w br d.pol d.sz d.wk d.n d'.nx (.slice A5 d'.tn.length c5)
  have hne : ∀ {k t : Nat} {cs : Array Value}, w.heap[k]? = some (.cells cs t (0, 0)) → t ≠ 38 → k ≠ br := fun hb ht => blk_ne hb h.hr ht
  obtain ⟨tc, htc⟩ := dh_turns_block h.hd
  refine ⟨dh_step h.hd (fr _ (hne h.hd.cells (by decide))) (fr _ (hne htc (by decide))), row_mv h.hv (fun k hk => fr k (fun e => Kd.R_ne h.hv h.hr (by decide) (by rw [← e]; exact hk.symm))), ?_, (fr _ (hne h.hx (by decide))).trans h.hx, stored_below h.hb h.lr _ _ _ _ _ _, h.lr⟩
  rw [e1, e2, e3, e4]
  exact stored_blk h.hr _ _ _ _ _ _

set_option maxHeartbeats 4000000 in
set_option maxRecDepth 100000 in
theorem sets_main (p sz wk n : Int) (A : Option Addr) (cap : Nat) (asks : List Int) (next : Int) (A2 : Option Addr) (cap2 : Nat) (l2 : List Int) (w : World) (hr : Kd.C (Kd.int .i64) w A asks.length asks) (hr2 : Kd.C (Kd.int .i64) w A2 l2.length l2) (hcap2 : l2.length ≤ cap2) (h : ¬ 300 < asks.length) (h2 : ¬ 100 < l2.length) (hn : newErr p sz wk n = 0) :
    Calls Try.prog 6 #[.agg #[.int .i64 p, .int .i64 sz, .int .i64 wk, .int .i64 n, .slice A asks.length cap], .int .i64 next, .slice A2 l2.length cap2] w (TruePost w) := by
  have h' : decide ((300 : Int) < asks.length) = false := decide_eq_false (by omega)
  have h2' : decide ((100 : Int) < l2.length) = false := decide_eq_false (by omega)
  have HR2 := Aside0.mk hr2
  have HCAP := Aside0.mk hcap2
  clear hr2 hcap2
  have hnew := Lib.hid (fun W => new_ok p sz wk n W hn)
  obtain ⟨kq, hkq⟩ := ref_new p sz wk n
  rw [if_pos hn] at hkq
  have hrnew := Lib.hid (fun W => outriderref16_New.calls kq p sz wk n p sz wk n 0 (List.replicate wk.toNat 0) 0 W hkq)
  have HB := Aside0.mk (Below.refl w.heap.size w)
  have HR := Aside0.mk hr
  clear hr hn hkq
  go_enter Try.func6, Try.ntmps6
  go_wp2_with (first | ((with_reducible refine gate_dst (N := 3) rfl ?_); refine box_event ?hg (N := 3) ?hd (cs := bcells p sz wk n A asks.length cap) (t := 25) ?hr ?_; (case hd => rfl); (case hg => rfl); (case hr => unfold bcells; first | (go_simp; done) | (go_simp; rfl)); intro bx hg w3 hbox hb; have m1_ := Aside0.mk (below_step HB.out hb); have m2_ := Aside0.mk hbox; clear HB hb hbox hg; have HB := m1_; have HX := m2_; clear m1_ m2_; have x0 : w3.cell? ⟨bx, 0, none⟩ = some (.int .i64 p) := (blk_cell HX.out 0).trans rfl; have x1 : w3.cell? ⟨bx, 1, none⟩ = some (.int .i64 sz) := (blk_cell HX.out 1).trans rfl; have x2 : w3.cell? ⟨bx, 2, none⟩ = some (.int .i64 wk) := (blk_cell HX.out 2).trans rfl; have x3 : w3.cell? ⟨bx, 3, none⟩ = some (.int .i64 n) := (blk_cell HX.out 3).trans rfl; have x4 : w3.cell? ⟨bx, 4, none⟩ = some (.slice A asks.length cap) := (blk_cell HX.out 4).trans rfl))
  refine (hnew.out _).mono ?_
  intro e w4 hp
  obtain ⟨b, bt, ct, he, hd, hb⟩ := hp
  subst he
  have hX := blk_below HX.out hb
  have hBB := below_step HB.out hb
  have hD : DH w4 w.heap.size b bt ct (newD p sz wk n) := ⟨hd.cells, Kd.R_lower hd.turns (below_size HB.out), hd.ok, Nat.le_trans (below_size HB.out) hd.low, Nat.le_trans (below_size HB.out) hd.lowt⟩
  clear HB HX x0 x1 x2 x3 x4 hb hd
  have HB := Aside0.mk hBB
  have HX := Aside0.mk hX
  have HD := Aside0.mk hD
  clear hBB hX hD hnew
  have x0 : w4.cell? ⟨bx, 0, none⟩ = some (.int .i64 p) := (blk_cell HX.out 0).trans rfl
  have x1 : w4.cell? ⟨bx, 1, none⟩ = some (.int .i64 sz) := (blk_cell HX.out 1).trans rfl
  have x2 : w4.cell? ⟨bx, 2, none⟩ = some (.int .i64 wk) := (blk_cell HX.out 2).trans rfl
  have x3 : w4.cell? ⟨bx, 3, none⟩ = some (.int .i64 n) := (blk_cell HX.out 3).trans rfl
  go_wp2_with fail
  refine (hrnew.out _).mono ?_
  intro e w5 hp
  obtain ⟨v5, he, ho, hb⟩ := hp
  subst he
  obtain ⟨A5, c5, e5⟩ := Kd.R_slice ho
  subst e5
  rw [List.length_replicate] at ho
  rw [List.length_replicate]
  have hlt := (dh_lt HD.out).2.1
  have m1_ := Aside0.mk (dh_below HD.out hb)
  have m2_ := Aside0.mk (blk_below HX.out hb)
  have m3_ := Aside0.mk (below_step HB.out hb)
  have m4_ := Aside0.mk (show Kd.R (Kd.int .i64) 3 w5 w.heap.size (off bt) (.slice A5 wk.toNat c5) (newD p sz wk n).tn from Kd.R_lower (Kd.R_reok rfl ho (fun k hk => by have := Kd.R_base ho k hk; unfold off; omega)) (below_size HB.out))
  clear HB HX HD x0 x1 x2 x3 ho hb hlt hrnew
  have HD := m1_
  have HX := m2_
  have HB := m3_
  have HV := m4_
  clear m1_ m2_ m3_ m4_
  go_wp2
  generalize hW : w5.alloc _ = w6
  have hQ := Aside0.mk (show QS w w6 bx b bt ct w5.heap.size (bcells p sz wk n A asks.length cap) (newD p sz wk n) (.slice A5 wk.toNat c5) by
    rw [← hW]
    exact ⟨dh_alloc HD.out _, Kd.R_alloc HV.out _, blk_new w5 _, blk_alloc HX.out _, below_alloc HB.out _, below_size HB.out⟩)
  clear hW HD HX HB HV
  generalize w5.heap.size = br at *
  go_loopw [11] (fun v11 w' => DRel w bx b bt ct br (bcells p sz wk n A asks.length cap) (newD p sz wk n) asks.length v11 w') (fun v11 _ => asks.length - (intOf v11).toNat)
  case atStart => exact ⟨0, _, _, Nat.zero_le _, rfl, hQ⟩
  case round =>
    clear hQ
    unfold DRel at hrel
    obtain ⟨i, d, v, hi, rfl, HQ⟩ := hrel
    have x4 : wr.cell? ⟨bx, 4, none⟩ = some (.slice A asks.length cap) := (blk_cell HQ.out.hx 4).trans rfl
    by_cases hlt : i < asks.length
    · have i0 : (0 : Int) ≤ i := by omega
      have i1 : (i : Int) < asks.length := by omega
      obtain ⟨ad, ea, hx⟩ := Kd.at_int HR.out i i0 i1
      cases ea
      simp only [Int.toNat_natCast] at hx
      generalize hq : rd asks (i : Int) = q at *
      clear hq
      have HXW := Aside0.mk hx
      replace hx := (HQ.out.hb.cell (World.block_lt_of_cell? w _ hx)).trans hx
      clear hx
      go_upto_if 73 with fail
      go_cut [12, 13] (fun v12 v13 wc => ∃ (d1 : D) (v1 : Value), Aside0 (QS w wc bx b bt ct br (bcells p sz wk n (some ad) asks.length cap) d1 v1))
      case first =>
        have hdv : (asks.length : Int) / 2 ≤ 1000 := by omega
        cases hmid : ((i : Int) == (asks.length : Int) / 2) with
          | false =>
            go_wp2_with fail
            go_meet
            exact ⟨d, v, HQ⟩
          | true =>
            have hd0 := Aside0.mk HQ.out.hd
            obtain ⟨Av, cv, ev⟩ := Kd.R_slice HQ.out.hv
            subst ev
            go_wp2_with fail
            refine (set_calls w.heap.size b bt ct d next A2 cap2 l2 _ w hd0.out ⟨HR2.out, HQ.out.hb⟩ (Nat.le_refl _)).mono ?_
            intro e w7 hp
            clear x4
            rcases hp with ⟨hcan, he, hd, hf⟩ | ⟨hcan, he, hd, hf⟩
            · subst he
              obtain ⟨kr, hkr⟩ := rset_yes d next l2 (by omega) hcan
              have hkr2 := Aside0.mk hkr
              have m1_ := Aside0.mk (qm_next HQ.out hd hf)
              clear HQ hd hf hd0 hkr hcan
              have HQ := m1_
              clear m1_
              have r0 : w7.cell? ⟨br, 0, none⟩ = some (.int .i64 d.pol) := (blk_cell HQ.out.hr 0).trans rfl
              have r1 : w7.cell? ⟨br, 1, none⟩ = some (.int .i64 d.sz) := (blk_cell HQ.out.hr 1).trans rfl
              have r2 : w7.cell? ⟨br, 2, none⟩ = some (.int .i64 d.wk) := (blk_cell HQ.out.hr 2).trans rfl
              have r3 : w7.cell? ⟨br, 3, none⟩ = some (.int .i64 d.n) := (blk_cell HQ.out.hr 3).trans rfl
              have r4 : w7.cell? ⟨br, 4, none⟩ = some (.int .i64 d.nx) := (blk_cell HQ.out.hr 4).trans rfl
              have r5 : w7.cell? ⟨br, 5, none⟩ = some (.slice Av d.tn.length cv) := (blk_cell HQ.out.hr 5).trans rfl
              go_wp2_with fail
              refine (rset_calls w _ bx b bt ct br _ d (d.put next l2) Av cv next A2 cap2 l2 true kr HQ.out HR2.out HCAP.out hkr2.out).mono ?_
              intro e w9 hp
              obtain ⟨A5_, c5_, he, hrs⟩ := hp
              subst he
              have HRS := Aside0.mk hrs
              clear hrs HQ r0 r1 r2 r3 r4 r5
              have y0 : w9.cell? ⟨br, 0, none⟩ = some (.int .i64 d.pol) := (blk_cell HRS.out.hr 0).trans rfl
              have y1 : w9.cell? ⟨br, 1, none⟩ = some (.int .i64 d.sz) := (blk_cell HRS.out.hr 1).trans rfl
              have y2 : w9.cell? ⟨br, 2, none⟩ = some (.int .i64 d.wk) := (blk_cell HRS.out.hr 2).trans rfl
              have y3 : w9.cell? ⟨br, 3, none⟩ = some (.int .i64 d.n) := (blk_cell HRS.out.hr 3).trans rfl
              have y4 : w9.cell? ⟨br, 4, none⟩ = some (.int .i64 d.nx) := (blk_cell HRS.out.hr 4).trans rfl
              have y5 : w9.cell? ⟨br, 5, none⟩ = some (.slice Av d.tn.length cv) := (blk_cell HRS.out.hr 5).trans rfl
              have z0 := blk_frozen HRS.out.hr 0
              have z1 := blk_frozen HRS.out.hr 1
              have z2 := blk_frozen HRS.out.hr 2
              have z3 := blk_frozen HRS.out.hr 3
              have z4 := blk_frozen HRS.out.hr 4
              have z5 := blk_frozen HRS.out.hr 5
              have HQS := Aside0.mk (qs_stored2 HRS.out ⟨rfl, rfl, rfl, rfl⟩)
              go_wp2_with fail
              go_meet
              exact ⟨(d.put next l2), _, HQS⟩
            · subst he
              obtain ⟨kr, hkr⟩ := rset_no d next l2 (by omega) hcan
              have hkr2 := Aside0.mk hkr
              have m1_ := Aside0.mk (qm_next HQ.out hd hf)
              clear HQ hd hf hd0 hkr hcan
              have HQ := m1_
              clear m1_
              have r0 : w7.cell? ⟨br, 0, none⟩ = some (.int .i64 d.pol) := (blk_cell HQ.out.hr 0).trans rfl
              have r1 : w7.cell? ⟨br, 1, none⟩ = some (.int .i64 d.sz) := (blk_cell HQ.out.hr 1).trans rfl
              have r2 : w7.cell? ⟨br, 2, none⟩ = some (.int .i64 d.wk) := (blk_cell HQ.out.hr 2).trans rfl
              have r3 : w7.cell? ⟨br, 3, none⟩ = some (.int .i64 d.n) := (blk_cell HQ.out.hr 3).trans rfl
              have r4 : w7.cell? ⟨br, 4, none⟩ = some (.int .i64 d.nx) := (blk_cell HQ.out.hr 4).trans rfl
              have r5 : w7.cell? ⟨br, 5, none⟩ = some (.slice Av d.tn.length cv) := (blk_cell HQ.out.hr 5).trans rfl
              go_wp2_with fail
              refine (rset_calls w _ bx b bt ct br _ d d Av cv next A2 cap2 l2 false kr HQ.out HR2.out HCAP.out hkr2.out).mono ?_
              intro e w9 hp
              obtain ⟨A5_, c5_, he, hrs⟩ := hp
              subst he
              have HRS := Aside0.mk hrs
              clear hrs HQ r0 r1 r2 r3 r4 r5
              have y0 : w9.cell? ⟨br, 0, none⟩ = some (.int .i64 d.pol) := (blk_cell HRS.out.hr 0).trans rfl
              have y1 : w9.cell? ⟨br, 1, none⟩ = some (.int .i64 d.sz) := (blk_cell HRS.out.hr 1).trans rfl
              have y2 : w9.cell? ⟨br, 2, none⟩ = some (.int .i64 d.wk) := (blk_cell HRS.out.hr 2).trans rfl
              have y3 : w9.cell? ⟨br, 3, none⟩ = some (.int .i64 d.n) := (blk_cell HRS.out.hr 3).trans rfl
              have y4 : w9.cell? ⟨br, 4, none⟩ = some (.int .i64 d.nx) := (blk_cell HRS.out.hr 4).trans rfl
              have y5 : w9.cell? ⟨br, 5, none⟩ = some (.slice Av d.tn.length cv) := (blk_cell HRS.out.hr 5).trans rfl
              have z0 := blk_frozen HRS.out.hr 0
              have z1 := blk_frozen HRS.out.hr 1
              have z2 := blk_frozen HRS.out.hr 2
              have z3 := blk_frozen HRS.out.hr 3
              have z4 := blk_frozen HRS.out.hr 4
              have z5 := blk_frozen HRS.out.hr 5
              have HQS := Aside0.mk (qs_stored2 HRS.out ⟨rfl, rfl, rfl, rfl⟩)
              go_wp2_with fail
              go_meet
              exact ⟨d, _, HQS⟩
      case rest =>
        obtain ⟨d1, v1, HQ1⟩ := hcut
        clear HQ x4
        have HQ := HQ1
        clear HQ1
        have x4 : wc.cell? ⟨bx, 4, none⟩ = some (.slice (some ad) asks.length cap) := (blk_cell HQ.out.hx 4).trans rfl
        have hx : wc.cell? (ad.add i) = some (.int .i64 q) := (HQ.out.hb.cell (World.block_lt_of_cell? w _ HXW.out)).trans HXW.out
        have HST := Aside0.mk (same_true d1 HQ.out.hd.ok q)
        have HRN := Aside0.mk (ref_next d1 HQ.out.hd.ok q)
        have HNC := Aside0.mk (next_calls w.heap.size b bt ct d1 q)
        have hDD := Aside0.mk HQ.out.hd
        go_wp2_with fail
        refine (HNC.out _ hDD.out).mono ?_
        intro e w7 hp
        unfold NextPost at hp
        obtain ⟨he, hd, hf⟩ := hp
        subst he
        have m1_ := Aside0.mk (qm_next HQ.out hd hf)
        clear HQ hd hf HNC hDD x4 hx
        have HQ := m1_
        clear m1_
        have hsm := next_same d1 q
        generalize hag : agesOf (d1.next q) = ag at *
        generalize (d1.next q).1 = d' at *
        generalize (d1.next q).2.1 = f at *
        generalize (d1.next q).2.2.1 = t at *
        generalize (d1.next q).2.2.2 = ok at *
        clear hag
        obtain ⟨kr, hkr⟩ := HRN.out
        clear HRN
        go_wp2
        generalize hW : w7.alloc (.cells #[.int .i64 f, .int .i64 t] 32 (0, 0)) = w8
        have m1_ := Aside0.mk (show QM w w8 bx b bt ct br (bcells p sz wk n (some ad) asks.length cap) d1 d' v1 by rw [← hW]; exact qm_alloc HQ.out _)
        have m2_ := Aside0.mk (show w8.heap[w7.heap.size]? = some (.cells #[.int .i64 f, .int .i64 t] 32 (0, 0)) by rw [← hW]; exact blk_new w7 _)
        generalize w7.heap.size = bs at *
        clear HQ hW
        have HQ := m1_
        have HP := m2_
        clear m1_ m2_
        obtain ⟨Av, cv, ev⟩ := Kd.R_slice HQ.out.hv
        subst ev
        have x4 : w8.cell? ⟨bx, 4, none⟩ = some (.slice (some ad) asks.length cap) := (blk_cell HQ.out.hx 4).trans rfl
        have hx : w8.cell? (ad.add i) = some (.int .i64 q) := (HQ.out.hb.cell (World.block_lt_of_cell? w _ HXW.out)).trans HXW.out
        have r0 : w8.cell? ⟨br, 0, none⟩ = some (.int .i64 d1.pol) := (blk_cell HQ.out.hr 0).trans rfl
        have r1 : w8.cell? ⟨br, 1, none⟩ = some (.int .i64 d1.sz) := (blk_cell HQ.out.hr 1).trans rfl
        have r2 : w8.cell? ⟨br, 2, none⟩ = some (.int .i64 d1.wk) := (blk_cell HQ.out.hr 2).trans rfl
        have r3 : w8.cell? ⟨br, 3, none⟩ = some (.int .i64 d1.n) := (blk_cell HQ.out.hr 3).trans rfl
        have r4 : w8.cell? ⟨br, 4, none⟩ = some (.int .i64 d1.nx) := (blk_cell HQ.out.hr 4).trans rfl
        have r5 : w8.cell? ⟨br, 5, none⟩ = some (.slice Av d1.tn.length cv) := (blk_cell HQ.out.hr 5).trans rfl
        have hkr2 := Aside0.mk hkr
        clear hkr
        have hsm := Aside0.mk hsm
        go_cut [14] (fun v8 wc2 => ∃ (A5 : Option Addr) (c5 : Nat) (A6 : Option Addr) (c6 : Nat), v8 = .slice A6 ag.length c6 ∧ Aside0 (QS w wc2 bx b bt ct br (bcells p sz wk n (some ad) asks.length cap) d' (.slice A5 d'.tn.length c5)) ∧ Aside0 (Kd.R (Kd.int .i64) 3 wc2 w.heap.size (off bt) (.slice A6 ag.length c6) ag) ∧ Aside0 (wc2.heap[bs]? = some (.cells #[.int .i64 f, .int .i64 t] 32 (0, 0))))
        case first =>
          go_region_with (go_at_call 11; refine (rnext_calls w _ bx b bt ct br bs _ d1 d' Av cv f t q ag kr (qm_below HQ.out (by first | exact Below.refl _ _ | exact below_drew (Below.refl _ _))) (by first | exact HP.out | exact blk_drew HP.out) hkr2.out).mono ?_; intro e w9 hp; obtain ⟨A5, c5, A6, c6, he, hrn⟩ := hp; subst he; have HRN := Aside0.mk hrn; clear hrn; have y0 : w9.cell? ⟨br, 0, none⟩ = some (.int .i64 d1.pol) := (blk_cell HRN.out.hr 0).trans rfl; have y1 : w9.cell? ⟨br, 1, none⟩ = some (.int .i64 d1.sz) := (blk_cell HRN.out.hr 1).trans rfl; have y2 : w9.cell? ⟨br, 2, none⟩ = some (.int .i64 d1.wk) := (blk_cell HRN.out.hr 2).trans rfl; have y3 : w9.cell? ⟨br, 3, none⟩ = some (.int .i64 d1.n) := (blk_cell HRN.out.hr 3).trans rfl; have y44 : w9.cell? ⟨br, 4, none⟩ = some (.int .i64 d1.nx) := (blk_cell HRN.out.hr 4).trans rfl; have y5 : w9.cell? ⟨br, 5, none⟩ = some (.slice Av d1.tn.length cv) := (blk_cell HRN.out.hr 5).trans rfl; have z0 := blk_frozen HRN.out.hr 0; have z1 := blk_frozen HRN.out.hr 1; have z2 := blk_frozen HRN.out.hr 2; have z3 := blk_frozen HRN.out.hr 3; have z4 := blk_frozen HRN.out.hr 4; have z5 := blk_frozen HRN.out.hr 5)
          all_goals (go_wp2_with fail; go_meet; exact ⟨A5, c5, A6, c6, rfl, ⟨qs_stored HRN.out hsm.out⟩, ⟨row_stored HRN.out⟩, ⟨span_stored HRN.out⟩⟩)
        case rest =>
          obtain ⟨A5, c5, A6, c6, rfl, HS, H6, HP⟩ := hcut
          clear HQ r0 r1 r2 r3 r4 r5 x4 hx
          have s0 : wc.cell? ⟨bs, 0, none⟩ = some (.int .i64 f) := (blk_cell HP.out 0).trans rfl
          have s1 : wc.cell? ⟨bs, 1, none⟩ = some (.int .i64 t) := (blk_cell HP.out 1).trans rfl
          go_wp2_with fail
          refine (outriderlaw16_same.calls f t ok A6 c6 ag true _ (Kd.R_reads' H6.out).2.2 (Kd.R_reads' H6.out).2.1 HST.out).mono ?_
          intro e w11 hp
          obtain ⟨he, hb⟩ := hp
          subst he
          have m1_ := Aside0.mk (qs_below HS.out hb)
          clear HS H6 HP hb s0 s1
          have HS := m1_
          clear m1_
          go_wp2
          go_roundw
          case rel => exact ⟨i + 1, d', _, by omega, by go_num, HS⟩
          case measure => simp [intOf]; omega
    · have e : i = asks.length := by omega
      subst e
      go_wp2_with fail
      refine (alive_calls _).mono ?_
      intro e w8 hp
      obtain ⟨he, hb⟩ := hp
      subst he
      have m1_ := Aside0.mk (below_step HQ.out.hb hb)
      clear HQ hb x4
      go_wp2
      go_ret
      exact ⟨rfl, m1_.out⟩
set_option maxHeartbeats 2000000 in
set_option maxRecDepth 100000 in
theorem sets_bad (p sz wk n : Int) (A : Option Addr) (cap : Nat) (asks : List Int) (next : Int) (A2 : Option Addr) (cap2 l2 : Nat) (w : World) (h : ¬ 300 < asks.length) (h2 : ¬ 100 < l2) (hn : newErr p sz wk n ≠ 0) :
    Calls Try.prog 6 #[.agg #[.int .i64 p, .int .i64 sz, .int .i64 wk, .int .i64 n, .slice A asks.length cap], .int .i64 next, .slice A2 l2 cap2] w (TruePost w) := by
  have h' : decide ((300 : Int) < asks.length) = false := decide_eq_false (by omega)
  have h2' : decide ((100 : Int) < l2) = false := decide_eq_false (by omega)
  have hnew := Lib.hid (fun W => new_bad p sz wk n W hn)
  obtain ⟨kq, hkq⟩ := ref_new p sz wk n
  rw [if_neg hn] at hkq
  have hrnew := Lib.hid (fun W => outriderref16_New.calls kq p sz wk n 0 0 0 0 0 [] (newErr p sz wk n) W hkq)
  have he1 : (newErr p sz wk n != 0) = true := by rw [bne_iff_ne]; exact hn
  have he2 : (newErr p sz wk n == 0) = false := by rw [beq_eq_false_iff_ne]; exact hn
  have hpos : 0 ≤ newErr p sz wk n ∧ newErr p sz wk n ≤ 200 := by unfold newErr; split <;> (try split) <;> (try split) <;> (try split) <;> omega
  have HE1 := Lib.hid he1
  have HE2 := Lib.hid he2
  clear he1 he2
  have HB := Aside0.mk (Below.refl w.heap.size w)
  clear hkq
  go_enter Try.func6, Try.ntmps6
  go_wp2_with (first | ((with_reducible refine gate_dst (N := 3) rfl ?_); refine box_event ?hg (N := 3) ?hd (cs := bcells p sz wk n A asks.length cap) (t := 25) ?hr ?_; (case hd => rfl); (case hg => rfl); (case hr => unfold bcells; first | (go_simp; done) | (go_simp; rfl)); intro bx hg w3 hbox hb; have m1_ := Aside0.mk (below_step HB.out hb); have m2_ := Aside0.mk hbox; clear HB hb hbox hg; have HB := m1_; have HX := m2_; clear m1_ m2_; have x0 : w3.cell? ⟨bx, 0, none⟩ = some (.int .i64 p) := (blk_cell HX.out 0).trans rfl; have x1 : w3.cell? ⟨bx, 1, none⟩ = some (.int .i64 sz) := (blk_cell HX.out 1).trans rfl; have x2 : w3.cell? ⟨bx, 2, none⟩ = some (.int .i64 wk) := (blk_cell HX.out 2).trans rfl; have x3 : w3.cell? ⟨bx, 3, none⟩ = some (.int .i64 n) := (blk_cell HX.out 3).trans rfl; have x4 : w3.cell? ⟨bx, 4, none⟩ = some (.slice A asks.length cap) := (blk_cell HX.out 4).trans rfl))
  refine (hnew.out _).mono ?_
  intro e w1 hp
  unfold NewBad at hp
  obtain ⟨he, hw⟩ := hp
  subst he
  subst hw
  clear hnew
  go_wp2_with fail
  refine (hrnew.out _).mono ?_
  intro e w5 hp
  obtain ⟨v5, he, ho, hb⟩ := hp
  subst he
  obtain ⟨A5, c5, e5⟩ := Kd.R_slice ho
  subst e5
  have m2_ := Aside0.mk (blk_below HX.out hb)
  have m3_ := Aside0.mk (below_step HB.out hb)
  clear HB HX x0 x1 x2 x3 x4 ho hb hrnew
  have HX := m2_
  have HB := m3_
  clear m2_ m3_
  have he1 := HE1.out
  have he2 := HE2.out
  generalize newErr p sz wk n = er at *
  clear HE1 HE2 hn
  go_wp2_with fail
  refine (alive_calls _).mono ?_
  intro e w8 hp
  obtain ⟨he, hb⟩ := hp
  subst he
  have m1_ := Aside0.mk (below_step (below_alloc HB.out _) hb)
  clear hb HX HB
  go_wp2
  go_ret
  exact ⟨rfl, m1_.out⟩
theorem sets_calls (p sz wk n : Int) (A : Option Addr) (cap : Nat) (asks : List Int) (next : Int) (A2 : Option Addr) (cap2 : Nat) (l2 : List Int) (w : World) (hr : Kd.C (Kd.int .i64) w A asks.length asks) (hr2 : Kd.C (Kd.int .i64) w A2 l2.length l2) (hcap2 : l2.length ≤ cap2) :
    Calls Try.prog 6 #[.agg #[.int .i64 p, .int .i64 sz, .int .i64 wk, .int .i64 n, .slice A asks.length cap], .int .i64 next, .slice A2 l2.length cap2] w (TruePost w) := by
  by_cases h : 300 < asks.length
  · exact sets_big p sz wk n A _ cap next A2 _ cap2 w h
  · by_cases h2 : 100 < l2.length
    · exact sets_big2 p sz wk n A _ cap next A2 _ cap2 w h h2
    · by_cases hn : newErr p sz wk n = 0
      · exact sets_main p sz wk n A cap asks next A2 cap2 l2 w hr hr2 hcap2 h h2 hn
      · exact sets_bad p sz wk n A cap asks next A2 cap2 _ w h h2 hn
end Go.Proofs.Ytnhjneldjfdnfaa.K
