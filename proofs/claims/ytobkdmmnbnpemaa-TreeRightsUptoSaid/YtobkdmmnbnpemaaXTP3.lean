/- The parser's node, walked by hand. -/
import Derived.Test.YtobkdmmnbnpemaaXTP2
namespace Go.Proofs.Ytobkdmmnbnpemaa.K
open Go.RowKit Go.Proofs.YtobkdmmnbnpemaaW.PrintWords Go.Proofs.YtobkdmmnbnpemaaW.PrintLast Go.Proofs.YtobkdmmnbnpemaaW.PrintMore
attribute [local go_sem] max2_int min2_int max_two min_two max_three min_three max_four min_four
set_option linter.unusedVariables false
set_option linter.unusedSimpArgs false
def zV38 : Value := .agg #[.int .i64 0, .int .i64 0, .string (⟨#[]⟩ : ByteArray), .int .i64 0, .slice none 0 0]
theorem inf38 : (Try.prog.info? 38).map (fun i => (i.zero, i.size, i.bytes)) = some (some zV38, 5, 64) := by kernel_rfl
theorem sixc {w : World} {g : Nat} {t : TypeId} {a0 a1 a2 a3 a4 a5 : Value} (h : w.heap[g]? = some (.cells #[a0, a1, a2, a3, a4, a5] t (0, 0))) :
    (w.cell? ⟨g, 0, none⟩ = some a0 ∧ w.cell? ⟨g, 1, none⟩ = some a1 ∧ w.cell? ⟨g, 2, none⟩ = some a2 ∧ w.cell? ⟨g, 3, none⟩ = some a3 ∧ w.cell? ⟨g, 4, none⟩ = some a4 ∧ w.cell? ⟨g, 5, none⟩ = some a5) ∧
    w.frozen? ⟨g, 0, none⟩ = false ∧ w.frozen? ⟨g, 1, none⟩ = false ∧ w.frozen? ⟨g, 2, none⟩ = false ∧ w.frozen? ⟨g, 3, none⟩ = false ∧ w.frozen? ⟨g, 4, none⟩ = false ∧ w.frozen? ⟨g, 5, none⟩ = false :=
  ⟨⟨blk_cell h 0, blk_cell h 1, blk_cell h 2, blk_cell h 3, blk_cell h 4, blk_cell h 5⟩, blk_frozen h 0, blk_frozen h 1, blk_frozen h 2, blk_frozen h 3, blk_frozen h 4, blk_frozen h 5⟩
def deepP : List PV → Int → Int
  | [], m => m
  | p :: ps, m => deepP ps (max m (p.d + 1))
def nodeP (a n q b t3 : Int) (k nm : Int) (s : ByteArray) (op : Int) (ps : List PV) : Except (Int × Int) ((S38 × Int) × PSt) :=
  if 48 < deepP ps 1 then .error (41, t3) else if 600 < n + 1 then .error (42, t3) else .ok ((⟨k, nm, s, op, ps.map (·.x)⟩, deepP ps 1), ⟨a, n + 1, q, b⟩)
def PPartO (O : World → Nat → Prop) (w : World) (g : Nat) (A : Option Addr) (c : Nat) (T : List S58) (r : Except (Int × Int) ((S38 × Int) × PSt)) (e : Ending) (w' : World) : Prop :=
  KeepBut w w' g none ∧ match r with
  | .ok (x, s) => ∃ p : PV, p.x = x.1 ∧ p.d = x.2 ∧ e = .returned p.val ∧ p.ok w' (O w') ∧ RD w' g A c T s
  | .error (er, at_) => e = .panicked [stopV er at_]
def newO (w w' : World) (k : Nat) : Prop := w.heap.size ≤ k ∧ k < w'.heap.size
def PPart (w : World) (g : Nat) (A : Option Addr) (c : Nat) (T : List S58) (r : Except (Int × Int) ((S38 × Int) × PSt)) (e : Ending) (w' : World) : Prop := PPartO (newO w) w g A c T r e w'
theorem PPartO.ok {O : World → Nat → Prop} {w w' : World} {g : Nat} {A : Option Addr} {c : Nat} {T : List S58} {x : S38 × Int} {s : PSt} {e : Ending} (h : PPartO O w g A c T (.ok (x, s)) e w') : ∃ p : PV, e = .returned p.val ∧ (p.x, p.d) = x ∧ p.ok w' (O w') ∧ RD w' g A c T s ∧ KeepBut w w' g none := by
  obtain ⟨h1, p, h2, h3, h4, h5, h6⟩ := h
  exact ⟨p, h4, by rw [h2, h3], h5, h6, h1⟩
theorem PPartO.err {O : World → Nat → Prop} {w w' : World} {g : Nat} {A : Option Addr} {c : Nat} {T : List S58} {er at_ : Int} {e : Ending} (h : PPartO O w g A c T (.error (er, at_)) e w') : e = .panicked [stopV er at_] ∧ KeepBut w w' g none := ⟨h.2, h.1⟩
def PRow (w : World) (Q : Option Addr) (ps : List PV) : Prop := ∀ (j : Int) (p : PV), 0 ≤ j → ps[j.toNat]? = some p → ∃ ad, Q = some ad ∧ w.cell? (ad.add (j.toNat * 6)) = some (.int .i64 p.x.f0) ∧ w.cell? ⟨(ad.add (j.toNat * 6)).block, (ad.add (j.toNat * 6)).off + 1, none⟩ = some (.int .i64 p.x.f1) ∧ w.cell? ⟨(ad.add (j.toNat * 6)).block, (ad.add (j.toNat * 6)).off + 2, none⟩ = some (.string p.x.f2) ∧
  w.cell? ⟨(ad.add (j.toNat * 6)).block, (ad.add (j.toNat * 6)).off + 3, none⟩ = some (.int .i64 p.x.f3) ∧ w.cell? ⟨(ad.add (j.toNat * 6)).block, (ad.add (j.toNat * 6)).off + 4, none⟩ = some (.slice p.A p.x.f4.length p.c) ∧ w.cell? ⟨(ad.add (j.toNat * 6)).block, (ad.add (j.toNat * 6)).off + 5, none⟩ = some (.int .i64 p.d)
theorem deepP_ge : ∀ (ps : List PV) (m : Int), m ≤ deepP ps m
  | [], m => Int.le_refl _
  | p :: ps, m => Int.le_trans (Int.le_max_left m (p.d + 1)) (deepP_ge ps _)
theorem deepP_le : ∀ (ps : List PV) (m : Int), m ≤ 60 → (∀ p ∈ ps, p.d ≤ 48) → deepP ps m ≤ 60
  | [], m, h, _ => h
  | p :: ps, m, h, hp => deepP_le ps _ (by have := hp p (List.mem_cons_self ..); omega) (fun q hq => hp q (List.mem_cons_of_mem _ hq))
theorem deepP_app : ∀ (ps : List PV) (p : PV) (m : Int), deepP (ps ++ [p]) m = max (deepP ps m) (p.d + 1)
  | [], p, m => rfl
  | q :: ps, p, m => deepP_app ps p _
theorem own_slc {W : World} {base : Nat} {e : TypeId} {size n : Nat} {v : Value} {xs : List Value} (h : W.ownsRow base e size v n xs) : ∃ A c, v = .slice A n c := by
  rcases h.2 with ⟨rfl, rfl⟩ | ⟨b, cap, cur, rfl, _⟩
  · exact ⟨none, 0, rfl⟩
  · exact ⟨_, cap, rfl⟩
theorem take_snoc {α : Type} (l : List α) (i : Nat) (x : α) (h : l[i]? = some x) : l.take (i + 1) = l.take i ++ [x] := by
  rw [List.take_add_one, h]
  rfl
theorem five_ {w : World} {g : Nat} {t : TypeId} {a0 a1 a2 a3 a4 : Value} (h : w.heap[g]? = some (.cells #[a0, a1, a2, a3, a4] t (0, 0))) :
    (w.cell? ⟨g, 0, none⟩ = some a0 ∧ w.cell? ⟨g, 1, none⟩ = some a1 ∧ w.cell? ⟨g, 2, none⟩ = some a2 ∧ w.cell? ⟨g, 3, none⟩ = some a3 ∧ w.cell? ⟨g, 4, none⟩ = some a4) ∧
    w.frozen? ⟨g, 0, none⟩ = false ∧ w.frozen? ⟨g, 1, none⟩ = false ∧ w.frozen? ⟨g, 2, none⟩ = false ∧ w.frozen? ⟨g, 3, none⟩ = false ∧ w.frozen? ⟨g, 4, none⟩ = false :=
  ⟨⟨blk_cell h 0, blk_cell h 1, blk_cell h 2, blk_cell h 3, blk_cell h 4⟩, blk_frozen h 0, blk_frozen h 1, blk_frozen h 2, blk_frozen h 3, blk_frozen h 4⟩
set_option maxHeartbeats 8000000 in
set_option maxRecDepth 100000 in
theorem node_L (okp : Nat → Prop) (g : Nat) (A : Option Addr) (c : Nat) (T : List S58) (a n q b : Int) (w : World) (t0 : Int) (t1 : ByteArray) (t2 t3 : Int) (k nm : Int) (s : ByteArray) (op : Int) (Q : Option Addr) (L Lc : Nat) (ps : List PV)
    (h : RD w g A c T ⟨a, n, q, b⟩) (hn0 : 0 ≤ n) (hn1 : n ≤ 600) (hL : ps.length = L) (hL2 : L ≤ 2) (hQ : PRow w Q ps) (hokg : ∀ k, okp k → k ≠ g) (hok : ∀ p ∈ ps, p.ok w okp ∧ 0 ≤ p.d ∧ p.d ≤ 48) :
    Calls Try.prog 127 #[.pointer (some ⟨g, 0, none⟩), .agg #[.int .i64 t0, .string t1, .int .i64 t2, .int .i64 t3], .agg #[.int .i64 k, .int .i64 nm, .string s, .int .i64 op, .slice none 0 0], .slice Q L Lc] w (PPartO (fun w' k => okp k ∨ newO w w' k) w g A c T (nodeP a n q b t3 k nm s op ps)) := by
  have hu137 := Try.underlying137
  have hu38 := Try.underlying38
  have HB := Aside0.mk (Below.refl w.heap.size w)
  have HX := Aside0.mk h
  have HQ := Aside0.mk hQ
  have HO := Aside0.mk hok
  have HOG := Aside0.mk hokg
  have HL := Aside0.mk hL
  have HN := Aside0.mk (show 0 ≤ n ∧ n ≤ 600 from ⟨hn0, hn1⟩)
  have HLT := Aside0.mk h.lt
  clear h hQ hok hokg hL hn0 hn1
  go_enter Try.func127, Try.ntmps127
  go_upto_region 2 with (first | ((with_reducible refine gate_dst (N := 5) rfl ?_); (try (refine gate_guard (by rfl) ?_; dsimp only)); refine box_event ?hg (N := 5) ?hd (cs := #[.int .i64 t0, .string t1, .int .i64 t2, .int .i64 t3]) (t := 58) ?hr ?_; (case hd => rfl); (case hg => rfl); (case hr => first | (go_simp; done) | (go_simp; rfl)); intro tb hg wt hbox hb; have n0_ := Aside0.mk (below_step (by repeat (first | (with_reducible first | exact HB.out | apply below_alloc | apply pw_below_drewN | apply below_drew1) | exact HB.out)) hb); have n2_ := Aside0.mk hbox; have n3_ := Aside0.mk (show w.heap.size ≤ tb by rw [hg]; exact below_size (by repeat (first | (with_reducible first | exact HB.out | apply below_alloc | apply pw_below_drewN | apply below_drew1) | exact HB.out))); clear HB hb hbox hg; have HB := n0_; have Bt := n2_; have Gt := n3_; clear n0_ n2_ n3_; obtain ⟨⟨tz0, tz1, tz2, tz3⟩, tf0, tf1, tf2, tf3⟩ := four Bt.out) | ((with_reducible refine gate_dst (N := 6) rfl ?_); (try (refine gate_guard (by rfl) ?_; dsimp only)); refine box_event ?hg (N := 6) ?hd (cs := #[.int .i64 k, .int .i64 nm, .string s, .int .i64 op, .slice none 0 0]) (t := 38) ?hr ?_; (case hd => rfl); (case hg => rfl); (case hr => first | (go_simp; done) | (go_simp; rfl)); intro eb hg we hbox hb; have n0_ := Aside0.mk (below_step (by repeat (first | (with_reducible first | exact HB.out | apply below_alloc | apply pw_below_drewN | apply below_drew1) | exact HB.out)) hb); have n2_ := Aside0.mk hbox; have n3_ := Aside0.mk (show w.heap.size ≤ eb by rw [hg]; exact below_size (by repeat (first | (with_reducible first | exact HB.out | apply below_alloc | apply pw_below_drewN | apply below_drew1) | exact HB.out))); have m0_ := Aside0.mk (blk_below Bt.out hb); have k0_ := Aside0.mk (show eb ≠ tb by rw [hg]; exact Ne.symm (Nat.ne_of_lt (blk_lt Bt.out))); clear tz0 tz1 tz2 tz3 tf0 tf1 tf2 tf3; clear Bt; clear HB hb hbox hg; have HB := n0_; have Be := n2_; have Ge := n3_; clear n0_ n2_ n3_; have Bt := m0_; have het := k0_.out; have hte := Ne.symm k0_.out; clear m0_ k0_; obtain ⟨⟨tz0, tz1, tz2, tz3⟩, tf0, tf1, tf2, tf3⟩ := four Bt.out; obtain ⟨⟨ez0, ez1, ez2, ez3, ez4⟩, ef0, ef1, ef2, ef3, ef4⟩ := five_ Be.out) | ((with_reducible refine gate_dst (N := 8) rfl ?_); (try (refine gate_guard (by rfl) ?_; dsimp only)); refine box_event ?hg (N := 8) ?hd (cs := #[.int .i64 0, .int .i64 0, .string (⟨#[]⟩ : ByteArray), .int .i64 0, .slice none 0 0, .int .i64 0]) (t := 137) ?hr ?_; (case hd => rfl); (case hg => rfl); (case hr => first | (go_simp; done) | (go_simp; rfl)); intro rb hg wr hbox hb; have n0_ := Aside0.mk (below_step (by repeat (first | (with_reducible first | exact HB.out | apply below_alloc | apply pw_below_drewN | apply below_drew1) | exact HB.out)) hb); have n2_ := Aside0.mk hbox; have n3_ := Aside0.mk (show w.heap.size ≤ rb by rw [hg]; exact below_size (by repeat (first | (with_reducible first | exact HB.out | apply below_alloc | apply pw_below_drewN | apply below_drew1) | exact HB.out))); have m0_ := Aside0.mk (blk_below Bt.out hb); have k0_ := Aside0.mk (show rb ≠ tb by rw [hg]; exact Ne.symm (Nat.ne_of_lt (blk_lt Bt.out))); have m1_ := Aside0.mk (blk_below Be.out hb); have k1_ := Aside0.mk (show rb ≠ eb by rw [hg]; exact Ne.symm (Nat.ne_of_lt (blk_lt Be.out))); clear tz0 tz1 tz2 tz3 tf0 tf1 tf2 tf3; clear Bt; clear ez0 ez1 ez2 ez3 ez4 ef0 ef1 ef2 ef3 ef4; clear Be; clear HB hb hbox hg; have HB := n0_; have Br := n2_; have Gr := n3_; clear n0_ n2_ n3_; have Bt := m0_; have hrt := k0_.out; have htr := Ne.symm k0_.out; clear m0_ k0_; obtain ⟨⟨tz0, tz1, tz2, tz3⟩, tf0, tf1, tf2, tf3⟩ := four Bt.out; have Be := m1_; have hre := k1_.out; have her := Ne.symm k1_.out; clear m1_ k1_; obtain ⟨⟨ez0, ez1, ez2, ez3, ez4⟩, ef0, ef1, ef2, ef3, ef4⟩ := five_ Be.out; obtain ⟨⟨rz0, rz1, rz2, rz3, rz4, rz5⟩, rf0, rf1, rf2, rf3, rf4, rf5⟩ := sixc Br.out) | ((with_reducible refine gate_dst (N := 9) rfl ?_); (try (refine gate_guard (by rfl) ?_; dsimp only)); refine box_event ?hg (N := 9) ?hd (cs := #[.int .i64 0, .int .i64 0, .string (⟨#[]⟩ : ByteArray), .int .i64 0, .slice none 0 0, .int .i64 0]) (t := 137) ?hr ?_; (case hd => rfl); (case hg => rfl); (case hr => first | (go_simp; done) | (go_simp; rfl)); intro pb hg wp hbox hb; have n0_ := Aside0.mk (below_step (by repeat (first | (with_reducible first | exact HB.out | apply below_alloc | apply pw_below_drewN | apply below_drew1) | exact HB.out)) hb); have n2_ := Aside0.mk hbox; have n3_ := Aside0.mk (show w.heap.size ≤ pb by rw [hg]; exact below_size (by repeat (first | (with_reducible first | exact HB.out | apply below_alloc | apply pw_below_drewN | apply below_drew1) | exact HB.out))); have m0_ := Aside0.mk (blk_below Bt.out hb); have k0_ := Aside0.mk (show pb ≠ tb by rw [hg]; exact Ne.symm (Nat.ne_of_lt (blk_lt Bt.out))); have m1_ := Aside0.mk (blk_below Be.out hb); have k1_ := Aside0.mk (show pb ≠ eb by rw [hg]; exact Ne.symm (Nat.ne_of_lt (blk_lt Be.out))); have m2_ := Aside0.mk (blk_below Br.out hb); have k2_ := Aside0.mk (show pb ≠ rb by rw [hg]; exact Ne.symm (Nat.ne_of_lt (blk_lt Br.out))); clear tz0 tz1 tz2 tz3 tf0 tf1 tf2 tf3; clear Bt; clear ez0 ez1 ez2 ez3 ez4 ef0 ef1 ef2 ef3 ef4; clear Be; clear rz0 rz1 rz2 rz3 rz4 rz5 rf0 rf1 rf2 rf3 rf4 rf5; clear Br; clear HB hb hbox hg; have HB := n0_; have Bp := n2_; have Gp := n3_; clear n0_ n2_ n3_; have Bt := m0_; have hpt := k0_.out; have htp := Ne.symm k0_.out; clear m0_ k0_; obtain ⟨⟨tz0, tz1, tz2, tz3⟩, tf0, tf1, tf2, tf3⟩ := four Bt.out; have Be := m1_; have hpe := k1_.out; have hep := Ne.symm k1_.out; clear m1_ k1_; obtain ⟨⟨ez0, ez1, ez2, ez3, ez4⟩, ef0, ef1, ef2, ef3, ef4⟩ := five_ Be.out; have Br := m2_; have hpr := k2_.out; have hrp := Ne.symm k2_.out; clear m2_ k2_; obtain ⟨⟨rz0, rz1, rz2, rz3, rz4, rz5⟩, rf0, rf1, rf2, rf3, rf4, rf5⟩ := sixc Br.out; obtain ⟨⟨pz0, pz1, pz2, pz3, pz4, pz5⟩, pf0, pf1, pf2, pf3, pf4, pf5⟩ := sixc Bp.out))
  generalize hq : World.setCell _ ⟨pb, 5, none⟩ _ = wt
  have n0_ : Aside0 (wt.heap[tb]? = some (.cells #[.int .i64 t0, .string t1, .int .i64 t2, .int .i64 t3] 58 (0, 0))) := ⟨by rw [← hq]; (repeat (refine blk_far ?_ htp _)); exact Bt.out⟩
  have n1_ : Aside0 (wt.heap[rb]? = some (.cells #[.int .i64 0, .int .i64 0, .string (⟨#[]⟩ : ByteArray), .int .i64 0, .slice none 0 0, .int .i64 0] 137 (0, 0))) := ⟨by rw [← hq]; (repeat (refine blk_far ?_ hrp _)); exact Br.out⟩
  have n2_ : Aside0 (wt.heap[pb]? = some (.cells #[.int .i64 k, .int .i64 nm, .string s, .int .i64 op, .slice none 0 0, .int .i64 1] 137 (0, 0))) := ⟨by rw [← hq]; refine blk_put (cs := #[.int .i64 k, .int .i64 nm, .string s, .int .i64 op, .slice none 0 0, .int .i64 0]) ?_ 5 _ rfl; refine blk_put (cs := #[.int .i64 k, .int .i64 nm, .string s, .int .i64 op, .slice none 0 0, .int .i64 0]) ?_ 4 _ rfl; refine blk_put (cs := #[.int .i64 k, .int .i64 nm, .string s, .int .i64 0, .slice none 0 0, .int .i64 0]) ?_ 3 _ rfl; refine blk_put (cs := #[.int .i64 k, .int .i64 nm, .string (⟨#[]⟩ : ByteArray), .int .i64 0, .slice none 0 0, .int .i64 0]) ?_ 2 _ rfl; refine blk_put (cs := #[.int .i64 k, .int .i64 0, .string (⟨#[]⟩ : ByteArray), .int .i64 0, .slice none 0 0, .int .i64 0]) ?_ 1 _ rfl; refine blk_put (cs := #[.int .i64 0, .int .i64 0, .string (⟨#[]⟩ : ByteArray), .int .i64 0, .slice none 0 0, .int .i64 0]) ?_ 0 _ rfl; exact Bp.out⟩
  have n3_ : Aside0 (Below w.heap.size w wt) := ⟨by rw [← hq]; (repeat (refine below_set ?_ Gp.out)); exact HB.out⟩
  clear tz0 tz1 tz2 tz3 tf0 tf1 tf2 tf3
  clear ez0 ez1 ez2 ez3 ez4 ef0 ef1 ef2 ef3 ef4
  clear rz0 rz1 rz2 rz3 rz4 rz5 rf0 rf1 rf2 rf3 rf4 rf5
  clear pz0 pz1 pz2 pz3 pz4 pz5 pf0 pf1 pf2 pf3 pf4 pf5
  clear hq Bt Be Br Bp HB
  have Bt := n0_
  have Br := n1_
  have Bp := n2_
  have HB := n3_
  clear n0_ n1_ n2_ n3_
  have hgp : pb ≠ g := by have := Gp.out; have := HLT.out; omega
  have hgr : rb ≠ g := by have := Gr.out; have := HLT.out; omega
  have hgt : tb ≠ g := by have := Gt.out; have := HLT.out; omega
  go_wp2
  go_loopw [16] (fun v16 wr => ∃ (j : Int) (v : Value), v16 = .int .i64 j ∧ 0 ≤ j ∧ j ≤ (L : Int) ∧ Aside0 (wr.heap[pb]? = some (.cells #[.int .i64 k, .int .i64 nm, .string s, .int .i64 op, v, .int .i64 (deepP (ps.take j.toNat) 1)] 137 (0, 0))) ∧ Aside0 (wr.ownsRow w.heap.size 38 5 v j.toNat ((ps.take j.toNat).flatMap PV.ecs)) ∧ Aside0 (wr.heap[tb]? = some (.cells #[.int .i64 t0, .string t1, .int .i64 t2, .int .i64 t3] 58 (0, 0))) ∧ Aside0 (wr.heap[rb]? = some (.cells #[.int .i64 0, .int .i64 0, .string (⟨#[]⟩ : ByteArray), .int .i64 0, .slice none 0 0, .int .i64 0] 137 (0, 0))) ∧ Aside0 (Below w.heap.size w wr)) (fun v _ => L - (intOf v).toNat)
  case atStart => exact ⟨0, .slice none 0 0, rfl, Int.le_refl _, by omega, Bp, ⟨⟨rfl, .inl ⟨rfl, rfl⟩⟩⟩, Bt, Br, HB⟩
  case round =>
    clear Bp Bt Br HB
    obtain ⟨j, v, rfl, hj0, hj1, Bp, HW, Bt, Br, HB⟩ := hrel
    obtain ⟨⟨tz0, tz1, tz2, tz3⟩, tf0, tf1, tf2, tf3⟩ := four Bt.out
    obtain ⟨⟨rz0, rz1, rz2, rz3, rz4, rz5⟩, rf0, rf1, rf2, rf3, rf4, rf5⟩ := sixc Br.out
    obtain ⟨⟨pz0, pz1, pz2, pz3, pz4, pz5⟩, pf0, pf1, pf2, pf3, pf4, pf5⟩ := sixc Bp.out
    by_cases hlt : j < (L : Int)
    · have hb0 : decide (j < (L : Int)) = true := decide_eq_true hlt
      have hjl : j.toNat < ps.length := by have := HL.out; omega
      obtain ⟨p, hp⟩ : ∃ p, ps[j.toNat]? = some p := ⟨_, List.getElem?_eq_getElem hjl⟩
      obtain ⟨ad, rfl, hx0, hx1, hx2, hx3, hx4, hx5⟩ := HQ.out j p hj0 hp
      replace hx0 := (HB.out.cell (World.block_lt_of_cell? w _ hx0)).trans hx0
      replace hx1 := (HB.out.cell (World.block_lt_of_cell? w _ hx1)).trans hx1
      replace hx2 := (HB.out.cell (World.block_lt_of_cell? w _ hx2)).trans hx2
      replace hx3 := (HB.out.cell (World.block_lt_of_cell? w _ hx3)).trans hx3
      replace hx4 := (HB.out.cell (World.block_lt_of_cell? w _ hx4)).trans hx4
      replace hx5 := (HB.out.cell (World.block_lt_of_cell? w _ hx5)).trans hx5
      have hmem : p ∈ ps := List.mem_of_getElem? hp
      have hpo := HO.out p hmem
      have hpd : wrap64 (p.d + 1) = p.d + 1 := by unfold wrap64; omega
      have hwj : wrap64 (j + 1) = j + 1 := by unfold wrap64; omega
      have p1 := eq_true hj0
      have p2 := eq_true hlt
      have HDE := Aside0.mk (show (if deepP (ps.take j.toNat) 1 < p.d + 1 then p.d + 1 else deepP (ps.take j.toNat) 1) = deepP (ps.take (j + 1).toNat) 1 from by rw [show (j + 1).toNat = j.toNat + 1 by omega, take_snoc ps _ p hp, deepP_app]; split <;> omega)
      have HFM := Aside0.mk (show (ps.take j.toNat).flatMap PV.ecs ++ p.ecs = (ps.take (j + 1).toNat).flatMap PV.ecs from by rw [show (j + 1).toNat = j.toNat + 1 by omega, take_snoc ps _ p hp]; simp)
      clear hmem hpo hp
      generalize hdj : deepP (ps.take j.toNat) 1 = dj at *
      go_upto_region 5 with (first | ((with_reducible refine gate_dst (N := 11) rfl ?_); (try (refine gate_guard (by rfl) ?_; dsimp only)); refine box_event ?hg (N := 11) ?hd (cs := #[.int .i64 0, .int .i64 0, .string (⟨#[]⟩ : ByteArray), .int .i64 0, .slice none 0 0, .int .i64 0]) (t := 137) ?hr ?_; (case hd => rfl); (case hg => rfl); (case hr => first | (go_simp; done) | (go_simp; rfl)); intro xb hg wx hbox hb; have n0_ := Aside0.mk (below_step (by repeat (first | (with_reducible first | exact HB.out | apply below_alloc | apply pw_below_drewN | apply below_drew1) | exact HB.out)) hb); have n2_ := Aside0.mk hbox; have n3_ := Aside0.mk (show w.heap.size ≤ xb by rw [hg]; exact below_size (by repeat (first | (with_reducible first | exact HB.out | apply below_alloc | apply pw_below_drewN | apply below_drew1) | exact HB.out))); have m0_ := Aside0.mk (blk_below Bt.out hb); have k0_ := Aside0.mk (show xb ≠ tb by rw [hg]; exact Ne.symm (Nat.ne_of_lt (blk_lt Bt.out))); have m1_ := Aside0.mk (blk_below Br.out hb); have k1_ := Aside0.mk (show xb ≠ rb by rw [hg]; exact Ne.symm (Nat.ne_of_lt (blk_lt Br.out))); have m2_ := Aside0.mk (blk_below Bp.out hb); have k2_ := Aside0.mk (show xb ≠ pb by rw [hg]; exact Ne.symm (Nat.ne_of_lt (blk_lt Bp.out))); clear tz0 tz1 tz2 tz3 tf0 tf1 tf2 tf3; clear Bt; clear rz0 rz1 rz2 rz3 rz4 rz5 rf0 rf1 rf2 rf3 rf4 rf5; clear Br; clear pz0 pz1 pz2 pz3 pz4 pz5 pf0 pf1 pf2 pf3 pf4 pf5; clear Bp; have o_ := Aside0.mk (own_step HW.out (fun k hk => hb.block k (own_lt HW.out k hk))); clear HW; have HW := o_; clear o_; clear HB hb hbox hg; have HB := n0_; have Bx := n2_; have Gx := n3_; clear n0_ n2_ n3_; have Bt := m0_; have hxt := k0_.out; have htx := Ne.symm k0_.out; clear m0_ k0_; obtain ⟨⟨tz0, tz1, tz2, tz3⟩, tf0, tf1, tf2, tf3⟩ := four Bt.out; have Br := m1_; have hxr := k1_.out; have hrx := Ne.symm k1_.out; clear m1_ k1_; obtain ⟨⟨rz0, rz1, rz2, rz3, rz4, rz5⟩, rf0, rf1, rf2, rf3, rf4, rf5⟩ := sixc Br.out; have Bp := m2_; have hxp := k2_.out; have hpx := Ne.symm k2_.out; clear m2_ k2_; obtain ⟨⟨pz0, pz1, pz2, pz3, pz4, pz5⟩, pf0, pf1, pf2, pf3, pf4, pf5⟩ := sixc Bp.out; obtain ⟨⟨xz0, xz1, xz2, xz3, xz4, xz5⟩, xf0, xf1, xf2, xf3, xf4, xf5⟩ := sixc Bx.out))
      generalize hq : World.setCell _ ⟨xb, 5, none⟩ _ = wu
      have n0_ : Aside0 (wu.heap[tb]? = some (.cells #[.int .i64 t0, .string t1, .int .i64 t2, .int .i64 t3] 58 (0, 0))) := ⟨by rw [← hq]; (repeat (refine blk_far ?_ htx _)); exact Bt.out⟩
      have n1_ : Aside0 (wu.heap[rb]? = some (.cells #[.int .i64 0, .int .i64 0, .string (⟨#[]⟩ : ByteArray), .int .i64 0, .slice none 0 0, .int .i64 0] 137 (0, 0))) := ⟨by rw [← hq]; (repeat (refine blk_far ?_ hrx _)); exact Br.out⟩
      have n2_ : Aside0 (wu.heap[pb]? = some (.cells #[.int .i64 k, .int .i64 nm, .string s, .int .i64 op, v, .int .i64 dj] 137 (0, 0))) := ⟨by rw [← hq]; (repeat (refine blk_far ?_ hpx _)); exact Bp.out⟩
      have n3_ : Aside0 (Below w.heap.size w wu) := ⟨by rw [← hq]; (repeat (refine below_set ?_ Gx.out)); exact HB.out⟩
      have n4_ : Aside0 (wu.heap[xb]? = some (.cells #[.int .i64 p.x.f0, .int .i64 p.x.f1, .string p.x.f2, .int .i64 p.x.f3, .slice p.A p.x.f4.length p.c, .int .i64 p.d] 137 (0, 0))) := ⟨by rw [← hq]; refine blk_put (cs := #[.int .i64 p.x.f0, .int .i64 p.x.f1, .string p.x.f2, .int .i64 p.x.f3, .slice p.A p.x.f4.length p.c, .int .i64 0]) ?_ 5 _ rfl; refine blk_put (cs := #[.int .i64 p.x.f0, .int .i64 p.x.f1, .string p.x.f2, .int .i64 p.x.f3, .slice none 0 0, .int .i64 0]) ?_ 4 _ rfl; refine blk_put (cs := #[.int .i64 p.x.f0, .int .i64 p.x.f1, .string p.x.f2, .int .i64 0, .slice none 0 0, .int .i64 0]) ?_ 3 _ rfl; refine blk_put (cs := #[.int .i64 p.x.f0, .int .i64 p.x.f1, .string (⟨#[]⟩ : ByteArray), .int .i64 0, .slice none 0 0, .int .i64 0]) ?_ 2 _ rfl; refine blk_put (cs := #[.int .i64 p.x.f0, .int .i64 0, .string (⟨#[]⟩ : ByteArray), .int .i64 0, .slice none 0 0, .int .i64 0]) ?_ 1 _ rfl; refine blk_put (cs := #[.int .i64 0, .int .i64 0, .string (⟨#[]⟩ : ByteArray), .int .i64 0, .slice none 0 0, .int .i64 0]) ?_ 0 _ rfl; exact Bx.out⟩
      have n5_ : Aside0 (wu.ownsRow w.heap.size 38 5 v j.toNat ((ps.take j.toNat).flatMap PV.ecs)) := ⟨by
        have ho := own_ne HW.out Bx.out (by decide)
        rw [← hq]
        refine own_step HW.out fun k hk => ?_
        have hkx : k ≠ xb := fun e => ho (by rw [hk, e])
        (repeat (rw [Below.heap_setCell _ _ _ k hkx]))⟩
      clear tz0 tz1 tz2 tz3 tf0 tf1 tf2 tf3
      clear rz0 rz1 rz2 rz3 rz4 rz5 rf0 rf1 rf2 rf3 rf4 rf5
      clear pz0 pz1 pz2 pz3 pz4 pz5 pf0 pf1 pf2 pf3 pf4 pf5
      clear xz0 xz1 xz2 xz3 xz4 xz5 xf0 xf1 xf2 xf3 xf4 xf5
      clear hq Bt Br Bp Bx HB HW
      have Bt := n0_
      have Br := n1_
      have Bp := n2_
      have HB := n3_
      have Bx := n4_
      have HW := n5_
      clear n0_ n1_ n2_ n3_ n4_ n5_
      obtain ⟨⟨tz0, tz1, tz2, tz3⟩, tf0, tf1, tf2, tf3⟩ := four Bt.out
      obtain ⟨⟨rz0, rz1, rz2, rz3, rz4, rz5⟩, rf0, rf1, rf2, rf3, rf4, rf5⟩ := sixc Br.out
      obtain ⟨⟨pz0, pz1, pz2, pz3, pz4, pz5⟩, pf0, pf1, pf2, pf3, pf4, pf5⟩ := sixc Bp.out
      obtain ⟨⟨xz0, xz1, xz2, xz3, xz4, xz5⟩, xf0, xf1, xf2, xf3, xf4, xf5⟩ := sixc Bx.out
      go_wp2_with (first | ((with_reducible refine gate_builtin (b := .append) (xs := #[.tmp 22, .tmp 25]) rfl ?_); at_builtin; refine print_append_cells (w0 := w) w.heap.size rfl (.tmp 22) (.tmp 25) 36 38 zV38 5 64 rfl Try.underlying36 inf38 rfl (by decide) (by decide) v j.toNat ((ps.take j.toNat).flatMap PV.ecs) p.ecs rfl rfl rfl ?a1 HW.out HB.out (below_size HB.out) ?aL ?_; (case a1 => intro u hu; simp only [PV.ecs, List.mem_cons, List.not_mem_nil, or_false] at hu; rcases hu with rfl | rfl | rfl | rfl | rfl <;> rfl); (case aL => omega); intro v1 w1 ho1 hb1 hg1 hat; obtain ⟨A1, c1, rfl⟩ := own_slc ho1; have n0_ := Aside0.mk (blk_grown Bt.out hg1 (own_ne HW.out Bt.out (by decide))); have n1_ := Aside0.mk (blk_grown Br.out hg1 (own_ne HW.out Br.out (by decide))); have n2_ := Aside0.mk (blk_grown Bp.out hg1 (own_ne HW.out Bp.out (by decide))); have n3_ := Aside0.mk (blk_grown Bx.out hg1 (own_ne HW.out Bx.out (by decide))); have n4_ := Aside0.mk ho1; have n5_ := Aside0.mk hb1; clear tz0 tz1 tz2 tz3 tf0 tf1 tf2 tf3; clear rz0 rz1 rz2 rz3 rz4 rz5 rf0 rf1 rf2 rf3 rf4 rf5; clear pz0 pz1 pz2 pz3 pz4 pz5 pf0 pf1 pf2 pf3 pf4 pf5; clear xz0 xz1 xz2 xz3 xz4 xz5 xf0 xf1 xf2 xf3 xf4 xf5; clear Bt Br Bp Bx HB HW ho1 hb1 hg1 hat; have Bt := n0_; have Br := n1_; have Bp := n2_; have Bx := n3_; have HW := n4_; have HB := n5_; clear n0_ n1_ n2_ n3_ n4_ n5_; obtain ⟨⟨tz0, tz1, tz2, tz3⟩, tf0, tf1, tf2, tf3⟩ := four Bt.out; obtain ⟨⟨rz0, rz1, rz2, rz3, rz4, rz5⟩, rf0, rf1, rf2, rf3, rf4, rf5⟩ := sixc Br.out; obtain ⟨⟨pz0, pz1, pz2, pz3, pz4, pz5⟩, pf0, pf1, pf2, pf3, pf4, pf5⟩ := sixc Bp.out; obtain ⟨⟨xz0, xz1, xz2, xz3, xz4, xz5⟩, xf0, xf1, xf2, xf3, xf4, xf5⟩ := sixc Bx.out))
      go_roundw
      case rel =>
        refine ⟨j + 1, .slice A1 (j.toNat + 1) c1, (by simp only [hwj]), by omega, by omega, ⟨?_⟩, ⟨?_⟩, ⟨?_⟩, ⟨?_⟩, ⟨?_⟩⟩
        · rw [← HDE.out]
          refine blk_put (cs := #[.int .i64 k, .int .i64 nm, .string s, .int .i64 op, (.slice A1 (j.toNat + 1) c1), .int .i64 dj]) ?_ 5 _ (by rfl)
          refine blk_put (cs := #[.int .i64 k, .int .i64 nm, .string s, .int .i64 op, v, .int .i64 dj]) ?_ 4 _ rfl
          exact Bp.out
        · rw [← HFM.out, show (j + 1).toNat = j.toNat + 1 by omega]
          have ho := own_ne HW.out Bp.out (by decide)
          refine own_step HW.out fun k hk => ?_
          have hkx : k ≠ pb := fun e => ho (by rw [hk, e])
          (repeat (rw [Below.heap_setCell _ _ _ k hkx]))
        · (repeat (refine blk_far ?_ htp _)); exact Bt.out
        · (repeat (refine blk_far ?_ hrp _)); exact Br.out
        · (repeat (refine below_set ?_ Gp.out)); exact HB.out
      case measure => simp only [hwj, intOf]; omega
    · have hb0 : decide (j < (L : Int)) = false := decide_eq_false hlt
      have hjL : j.toNat = ps.length := by have := HL.out; omega
      rw [hjL, List.take_length] at Bp HW
      have hLp : L = ps.length := HL.out.symm
      obtain ⟨Av, cv, rfl⟩ := own_slc HW.out
      have HDG := Aside0.mk (show 1 ≤ deepP ps 1 ∧ deepP ps 1 ≤ 60 from ⟨deepP_ge ps 1, deepP_le ps 1 (by omega) (fun p hp => (HO.out p hp).2.2)⟩)
      have HX1 := Aside0.mk (HX.out.below HB.out)
      have HK := Aside0.mk (KeepBut.of_below HB.out g none)
      clear pz0 pz1 pz2 pz3 pz4 pz5 pf0 pf1 pf2 pf3 pf4 pf5
      obtain ⟨⟨pz0, pz1, pz2, pz3, pz4, pz5⟩, pf0, pf1, pf2, pf3, pf4, pf5⟩ := sixc Bp.out
      by_cases hd : 48 < deepP ps 1
      · have d1 := decide_eq_true hd
        have HP := Aside0.mk (show nodeP a n q b t3 k nm s op ps = _ from if_pos hd)
        clear hd
        go_wp2_with (first | (go_at_call 76; (with_reducible refine (give_A 41 _ _ _ _ _).mono ?_); rintro e wn ⟨rfl, hb⟩; have n1_ := Aside0.mk (HK.out.trans (KeepBut.of_below hb g none) (.inl rfl)); clear HK hb; have HK := n1_; clear n1_))
        exact ⟨rfl, by rw [HP.out]; exact ⟨HK.out, rfl⟩⟩
      have d1 := decide_eq_false hd
      have HP0 := Aside0.mk (show nodeP a n q b t3 k nm s op ps = (if 600 < n + 1 then .error (42, t3) else .ok ((⟨k, nm, s, op, ps.map (·.x)⟩, deepP ps 1), ⟨a, n + 1, q, b⟩)) from if_neg hd)
      clear hd
      by_cases hm : 600 < n + 1
      · have HP := Aside0.mk (HP0.out.trans (if_pos hm))
        have HM := Aside0.mk (show madeP a n q b t3 = _ from if_pos hm)
        clear hm
        go_wp2_with (first | (go_at_call 77; (with_reducible refine (made_L g A c T a n q b _ t0 t1 t2 t3 HX1.out HN.out.1 HN.out.2).mono ?_); intro e wn hp; rw [HM.out] at hp; obtain ⟨rfl, hk⟩ := hp.err; have n1_ := Aside0.mk (HK.out.trans hk (.inl rfl)); clear HK hk hp; have HK := n1_; clear n1_))
        exact ⟨rfl, by rw [HP.out]; exact ⟨HK.out, rfl⟩⟩
      · have HP := Aside0.mk (HP0.out.trans (if_neg hm))
        have HM := Aside0.mk (show madeP a n q b t3 = _ from if_neg hm)
        clear hm
        go_wp2_with (first | (go_at_call 77; (with_reducible refine (made_L g A c T a n q b _ t0 t1 t2 t3 HX1.out HN.out.1 HN.out.2).mono ?_); intro e wn hp; rw [HM.out] at hp; obtain ⟨rfl, hx, hk⟩ := hp.ok; have n1_ := Aside0.mk (HK.out.trans hk (.inl rfl)); have n2_ := Aside0.mk hx; have n3_ := Aside0.mk (hk.blk Br.out hgr (by simp)); have n4_ := Aside0.mk (hk.blk Bp.out hgp (by simp)); have n5_ := Aside0.mk (own_step HW.out (fun z hz => hk.2 z (own_lt HW.out z hz) (by have := own_base HW.out z hz; have := HLT.out; omega) (by simp))); clear rz0 rz1 rz2 rz3 rz4 rz5 rf0 rf1 rf2 rf3 rf4 rf5; clear pz0 pz1 pz2 pz3 pz4 pz5 pf0 pf1 pf2 pf3 pf4 pf5; clear tz0 tz1 tz2 tz3 tf0 tf1 tf2 tf3; clear HK hk hp hx HX1 Br Bp HW; have HK := n1_; have HX1 := n2_; have Br := n3_; have Bp := n4_; have HW := n5_; clear n1_ n2_ n3_ n4_ n5_; obtain ⟨⟨rz0, rz1, rz2, rz3, rz4, rz5⟩, rf0, rf1, rf2, rf3, rf4, rf5⟩ := sixc Br.out; obtain ⟨⟨pz0, pz1, pz2, pz3, pz4, pz5⟩, pf0, pf1, pf2, pf3, pf4, pf5⟩ := sixc Bp.out))
        generalize hq : World.setCell _ ⟨rb, 5, none⟩ _ = wu
        have b1 : wu.heap[rb]? = some (.cells #[.int .i64 k, .int .i64 nm, .string s, .int .i64 op, (.slice Av ps.length cv), .int .i64 (deepP ps 1)] 137 (0, 0)) := by rw [← hq]; refine blk_put (cs := #[.int .i64 k, .int .i64 nm, .string s, .int .i64 op, (.slice Av ps.length cv), .int .i64 0]) ?_ 5 _ rfl; refine blk_put (cs := #[.int .i64 k, .int .i64 nm, .string s, .int .i64 op, .slice none 0 0, .int .i64 0]) ?_ 4 _ rfl; refine blk_put (cs := #[.int .i64 k, .int .i64 nm, .string s, .int .i64 0, .slice none 0 0, .int .i64 0]) ?_ 3 _ rfl; refine blk_put (cs := #[.int .i64 k, .int .i64 nm, .string (⟨#[]⟩ : ByteArray), .int .i64 0, .slice none 0 0, .int .i64 0]) ?_ 2 _ rfl; refine blk_put (cs := #[.int .i64 k, .int .i64 0, .string (⟨#[]⟩ : ByteArray), .int .i64 0, .slice none 0 0, .int .i64 0]) ?_ 1 _ rfl; refine blk_put (cs := #[.int .i64 0, .int .i64 0, .string (⟨#[]⟩ : ByteArray), .int .i64 0, .slice none 0 0, .int .i64 0]) ?_ 0 _ rfl; exact Br.out
        have b2 : KeepBut w wu g none := by rw [← hq]; (repeat (refine keep_far ?_ Gr.out _)); exact HK.out
        have b3 : wu.ownsRow w.heap.size 38 5 (.slice Av ps.length cv) ps.length (ps.flatMap PV.ecs) := by
          have ho := own_ne HW.out Br.out (by decide)
          rw [← hq]
          refine own_step HW.out fun z hz => ?_
          have hkx : z ≠ rb := fun e => ho (by rw [hz, e])
          (repeat (rw [Below.heap_setCell _ _ _ z hkx]))
        have b4 : RD wu g A c T ⟨a, n + 1, q, b⟩ := ⟨by rw [← hq]; (repeat (refine blk_far ?_ (Ne.symm hgr) _)); exact HX1.out.bk, Kd.F_keep HX.out.tk b2 (fun _ h => h)⟩
        obtain ⟨A', c', e', hF, hc'⟩ := F_own (d := k38) (ok := fun k => okp k ∨ newO w wu k) b3 (fun z hz => .inr ⟨own_base b3 z hz, own_lt b3 z hz⟩) (reps_parts ps (fun p hp => ((HO.out p hp).1.keep b2 HOG.out).mono (fun _ h => .inl h))) (by simp) (by decide)
        injection e' with e1 e2 e3
        subst e1 e3
        obtain ⟨⟨wz0, wz1, wz2, wz3, wz4, wz5⟩, _⟩ := sixc b1
        refine bodyPost_ret (v := PV.val ⟨⟨k, nm, s, op, ps.map (·.x)⟩, Av, cv, deepP ps 1⟩) (by simp [results, Try.results127, go_sem, wz0, wz1, wz2, wz3, wz4, wz5, PV.val]) rfl ?_
        rw [HP.out]
        exact ⟨b2, ⟨⟨k, nm, s, op, ps.map (·.x)⟩, Av, cv, deepP ps 1⟩, rfl, rfl, rfl, ⟨by simpa using hF, by simpa using hc'⟩, b4⟩
end Go.Proofs.Ytobkdmmnbnpemaa.K
