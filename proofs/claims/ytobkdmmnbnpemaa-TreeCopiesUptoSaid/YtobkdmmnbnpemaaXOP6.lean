/- The parser's expr, worded (for emit) and stmt (for a word), walked by hand. -/
import Derived.Test.YtobkdmmnbnpemaaXOP5
namespace Go.Proofs.Ytobkdmmnbnpemaa.K
open Go.RowKit Go.Proofs.YtobkdmmnbnpemaaW.PrintWords Go.Proofs.YtobkdmmnbnpemaaW.PrintLast Go.Proofs.YtobkdmmnbnpemaaW.PrintMore
attribute [local go_sem] max2_int min2_int max_two min_two max_three min_three max_four min_four
set_option linter.unusedVariables false
set_option linter.unusedSimpArgs false
def aboF (T : List S58) (onF : PSt → Option Res) : Nat → Int → PSt → Option Res
  | 0 => fun _ _ => none
  | h + 1 => stepF T onF (aboF T onF h) 50
theorem abo_ok (T : List S58) (onF : PSt → Option Res) (OC : OneC T onF) : ∀ h, AboC T (aboF T onF h)
  | 0 => fun least s r g A c w h => by cases h
  | h + 1 => above_step T onF OC _ (abo_ok T onF OC h) 50
def PV.eval (p : PV) : Value := .agg #[.int .i64 p.x.f0, .int .i64 p.x.f1, .string p.x.f2, .int .i64 p.x.f3, .slice p.A p.x.f4.length p.c]
theorem field137_0 (a b : Int) (s : ByteArray) (o : Int) (A : Option Addr) (n c : Nat) (d : Int) (W : World) : (Instr.field 137 (.agg #[.int .i64 a, .int .i64 b, .string s, .int .i64 o, .slice A n c, .int .i64 d]) 0).run Try.prog W = .ok (.agg #[.int .i64 a, .int .i64 b, .string s, .int .i64 o, .slice A n c]) W := by kernel_rfl
def PExp (w : World) (g : Nat) (A : Option Addr) (c : Nat) (T : List S58) (r : Res) (e : Ending) (w' : World) : Prop :=
  KeepBut w w' g none ∧ match r with
  | .ok (x, s) => ∃ p : PV, (p.x, p.d) = x ∧ e = .returned p.eval ∧ p.ok w' (newO w w') ∧ RD w' g A c T s
  | .error (er, at_) => e = .panicked [stopV er at_]
theorem PExp.ok {w w' : World} {g : Nat} {A : Option Addr} {c : Nat} {T : List S58} {x : S38 × Int} {s : PSt} {e : Ending} (h : PExp w g A c T (.ok (x, s)) e w') : ∃ p : PV, e = .returned p.eval ∧ (p.x, p.d) = x ∧ p.ok w' (newO w w') ∧ RD w' g A c T s ∧ KeepBut w w' g none := by
  obtain ⟨h1, p, h2, h4, h5, h6⟩ := h
  exact ⟨p, h4, h2, h5, h6, h1⟩
theorem PExp.err {w w' : World} {g : Nat} {A : Option Addr} {c : Nat} {T : List S58} {er at_ : Int} {e : Ending} (h : PExp w g A c T (.error (er, at_)) e w') : e = .panicked [stopV er at_] ∧ KeepBut w w' g none := ⟨h.2, h.1⟩
set_option maxHeartbeats 8000000 in
set_option maxRecDepth 100000 in
theorem expr_L (T : List S58) (ab : Int → PSt → Option Res) (AC0 : AboC T ab) (a n q b : Int) (r : Res) (g : Nat) (A : Option Addr) (c : Nat) (w : World) (h : ab 1 ⟨a, n, q, b⟩ = some r) (hrd : RD w g A c T ⟨a, n, q, b⟩) :
    Calls Try.prog 74 #[.pointer (some ⟨g, 0, none⟩)] w (PExp w g A c T r) := by
  have AC := Aside0.mk AC0
  have HAB := Aside0.mk h
  have fld := field137_0
  clear AC0 h
  have HT0 := Aside0.mk hrd.tk
  have hmx := hrd.max
  have Bg : Aside0 (w.heap[g]? = some (.cells #[.slice A T.length c, .int .i64 a, .int .i64 n, .int .i64 q, .int .i64 b] 79 (0, 0))) := ⟨hrd.bk⟩
  have HK := Aside0.mk (KeepBut.refl w g none)
  have HLT := Aside0.mk hrd.lt
  clear hrd
  obtain ⟨⟨gz0, gz1, gz2, gz3, gz4⟩, gf0, gf1, gf2, gf3, gf4⟩ := five_ Bg.out
  go_enter Try.func74, Try.ntmps74
  go_wp2_with (first | ((with_reducible refine gate_dst (N := 2) rfl ?_); (try (refine gate_guard (by rfl) ?_; dsimp only)); refine box_event ?hg (N := 2) ?hd (cs := #[.int .i64 0, .int .i64 0, .string (⟨#[]⟩ : ByteArray), .int .i64 0, .slice none 0 0]) (t := 38) ?hr ?_; (case hd => rfl); (case hg => rfl); (case hr => first | (go_simp; done) | (go_simp; rfl)); intro rb hg wr hbox hb; have n0_ := Aside0.mk (HK.out.trans (KeepBut.of_below hb g none) (.inl rfl)); have n2_ := Aside0.mk hbox; have n3_ := Aside0.mk (show w.heap.size ≤ rb by rw [hg]; exact keep_size HK.out); have m0_ := Aside0.mk (blk_below Bg.out hb); have k0_ := Aside0.mk (show rb ≠ g by rw [hg]; exact Ne.symm (Nat.ne_of_lt (blk_lt Bg.out))); clear gz0 gz1 gz2 gz3 gz4 gf0 gf1 gf2 gf3 gf4; clear Bg; clear HK hb hbox hg; have HK := n0_; have Br := n2_; have Gr := n3_; clear n0_ n2_ n3_; have Bg := m0_; have hrg := k0_.out; have hgr := Ne.symm k0_.out; clear m0_ k0_; obtain ⟨⟨gz0, gz1, gz2, gz3, gz4⟩, gf0, gf1, gf2, gf3, gf4⟩ := five_ Bg.out; obtain ⟨⟨rz0, rz1, rz2, rz3, rz4⟩, rf0, rf1, rf2, rf3, rf4⟩ := five_ Br.out))
  have HSZ := Aside0.mk (show w.heap.size ≤ wr.heap.size ∧ rb < wr.heap.size from ⟨keep_size HK.out, blk_lt Br.out⟩)
  (with_reducible refine (AC.out.use 1 ⟨a, n, q, b⟩ r g A c _ HAB.out (⟨Bg.out, Kd.F_keep HT0.out HK.out (fun _ h => h)⟩ : RD _ g A c T _)).mono ?_)
  intro e wn hp
  rcases r with ⟨er, at_⟩ | ⟨p0, s1⟩
  · obtain ⟨rfl, hk⟩ := PPartO.err hp
    exact ⟨rfl, HK.out.trans hk (.inl rfl), rfl⟩
  obtain ⟨p, rfl, hpx, hpo, hx, hk⟩ := PPartO.ok hp
  clear hp HAB
  obtain ⟨a1, n1, q1, b1⟩ := s1
  unfold PV.val
  have n0_ : Aside0 (wn.heap[g]? = some (.cells #[.slice A T.length c, .int .i64 a1, .int .i64 n1, .int .i64 q1, .int .i64 b1] 79 (0, 0))) := ⟨hx.bk⟩
  have n1_ := Aside0.mk (KeepBut.blk hk Br.out hrg (by simp))
  have nk_ := Aside0.mk (HK.out.trans hk (.inl rfl))
  clear gz0 gz1 gz2 gz3 gz4 gf0 gf1 gf2 gf3 gf4
  clear rz0 rz1 rz2 rz3 rz4 rf0 rf1 rf2 rf3 rf4
  clear HK hk Bg Br hx
  have Bg := n0_
  have Br := n1_
  have HK := nk_
  clear nk_ n0_ n1_
  obtain ⟨⟨gz0, gz1, gz2, gz3, gz4⟩, gf0, gf1, gf2, gf3, gf4⟩ := five_ Bg.out
  obtain ⟨⟨rz0, rz1, rz2, rz3, rz4⟩, rf0, rf1, rf2, rf3, rf4⟩ := five_ Br.out
  have Ep : Aside0 (∃ op_ : Nat → Prop, PV.ok wn op_ p ∧ ∀ k, op_ k → w.heap.size ≤ k ∧ k ≠ rb) := ⟨⟨_, hpo, fun k hk => by have := hk.1; have := HSZ.out; omega⟩⟩
  clear HSZ hpo
  go_wp2_with fail
  generalize hq_ : World.setCell _ ⟨rb, 4, none⟩ _ = wv
  have e0_ : Aside0 (∃ op_ : Nat → Prop, PV.ok wv op_ p ∧ ∀ k, op_ k → w.heap.size ≤ k ∧ k ≠ rb) := ⟨by obtain ⟨op_, h1, h2⟩ := Ep.out; exact ⟨op_, h1.step (fun k hk hl => by have hh := h2 k hk; have hlt := HLT.out; rw [← hq_]; rw [Below.heap_setCell _ _ _ k (by show k ≠ rb; omega)]; rw [Below.heap_setCell _ _ _ k (by show k ≠ rb; omega)]; rw [Below.heap_setCell _ _ _ k (by show k ≠ rb; omega)]; rw [Below.heap_setCell _ _ _ k (by show k ≠ rb; omega)]; rw [Below.heap_setCell _ _ _ k (by show k ≠ rb; omega)]), h2⟩⟩
  clear Ep
  have Ep := e0_
  clear e0_
  have hq := hq_
  clear hq_
  have n0_ : Aside0 (wv.heap[g]? = some (.cells #[.slice A T.length c, .int .i64 a1, .int .i64 n1, .int .i64 q1, .int .i64 b1] 79 (0, 0))) := ⟨by rw [← hq]; refine blk_far ?_ hgr _; refine blk_far ?_ hgr _; refine blk_far ?_ hgr _; refine blk_far ?_ hgr _; refine blk_far ?_ hgr _; exact Bg.out⟩
  have n1_ : Aside0 (wv.heap[rb]? = some (.cells #[.int .i64 p.x.f0, .int .i64 p.x.f1, .string p.x.f2, .int .i64 p.x.f3, .slice p.A p.x.f4.length p.c] 38 (0, 0))) := ⟨by rw [← hq]; refine blk_put (cs := #[.int .i64 p.x.f0, .int .i64 p.x.f1, .string p.x.f2, .int .i64 p.x.f3, .slice none 0 0]) ?_ 4 _ rfl; refine blk_put (cs := #[.int .i64 p.x.f0, .int .i64 p.x.f1, .string p.x.f2, .int .i64 0, .slice none 0 0]) ?_ 3 _ rfl; refine blk_put (cs := #[.int .i64 p.x.f0, .int .i64 p.x.f1, .string (⟨#[]⟩ : ByteArray), .int .i64 0, .slice none 0 0]) ?_ 2 _ rfl; refine blk_put (cs := #[.int .i64 p.x.f0, .int .i64 0, .string (⟨#[]⟩ : ByteArray), .int .i64 0, .slice none 0 0]) ?_ 1 _ rfl; refine blk_put (cs := #[.int .i64 0, .int .i64 0, .string (⟨#[]⟩ : ByteArray), .int .i64 0, .slice none 0 0]) ?_ 0 _ rfl; exact Br.out⟩
  have nk_ : Aside0 (KeepBut w wv g none) := ⟨by rw [← hq]; refine keep_far ?_ Gr.out _; refine keep_far ?_ Gr.out _; refine keep_far ?_ Gr.out _; refine keep_far ?_ Gr.out _; refine keep_far ?_ Gr.out _; exact HK.out⟩
  clear gz0 gz1 gz2 gz3 gz4 gf0 gf1 gf2 gf3 gf4
  clear rz0 rz1 rz2 rz3 rz4 rf0 rf1 rf2 rf3 rf4
  clear hq HK Bg Br
  have Bg := n0_
  have Br := n1_
  have HK := nk_
  clear nk_ n0_ n1_
  obtain ⟨⟨gz0, gz1, gz2, gz3, gz4⟩, gf0, gf1, gf2, gf3, gf4⟩ := five_ Bg.out
  obtain ⟨⟨rz0, rz1, rz2, rz3, rz4⟩, rf0, rf1, rf2, rf3, rf4⟩ := five_ Br.out
  refine bodyPost_ret (v := p.eval) (by simp [results, Try.results74, go_sem, rz0, rz1, rz2, rz3, rz4, PV.eval]) rfl ?_
  obtain ⟨op_, h1, h2⟩ := Ep.out
  exact ⟨HK.out, p, hpx, rfl, h1.bound.mono (fun k hk => ⟨(h2 k hk.1).1, hk.2⟩), ⟨Bg.out, Kd.F_keep HT0.out HK.out (fun _ h => h)⟩⟩
section
variable {P : Program} {ops : Array Oper} {rest : List Oper} {o : Oper} {a : Act} {Q : Exit → Act → World → Prop}
theorem row_event {W : World} (hgd : o.guard = none) {N : Tmp} (_hd : o.dst = some N) {cs : Array Value} {t : TypeId} {m : Nat}
    (hrun : (execOp a.eval o).run P W = .ok (.value (.slice (some ⟨W.heap.size, 0, none⟩) m m)) (W.alloc (.cells cs t (0, 0))))
    (h : ∀ g, g = W.heap.size → ∀ w1, w1.heap[g]? = some (.cells cs t (0, 0)) → Below W.heap.size W w1 → wpList P ops Q rest (a.put o.dst (.slice (some ⟨g, 0, none⟩) m m)) w1) : wpList P ops Q (o :: rest) a W :=
  Kd.event_run hgd hrun (h _ rfl _ (blk_new W _) (below_alloc (Below.refl _ _) _))
end
theorem F_one {W : World} {nb : Nat} {p : PV} {ok : Nat → Prop} (h : W.heap[nb]? = some (.cells #[.int .i64 p.x.f0, .int .i64 p.x.f1, .string p.x.f2, .int .i64 p.x.f3, .slice p.A p.x.f4.length p.c] 38 (0, 0))) (hp : p.ok W ok) : Kd.F k38 W (fun k => ok k ∨ k = nb) (some ⟨nb, 0, none⟩) 1 [p.x] := fun W' hW => by
  have h' := (hW nb (.inr rfl) (blk_lt h)).trans h
  exact C_blk (cs := [.int .i64 p.x.f0, .int .i64 p.x.f1, .string p.x.f2, .int .i64 p.x.f3, .slice p.A p.x.f4.length p.c]) h' (Reps.c5 (k38_mk W' p.x hp.2 (hp.1 W' (fun k hk hl => hW k (.inl hk) hl))) (Reps.none _ _)) (by show 1 ≤ _; omega)
structure SV where
  x : S41
  A3 : Option Addr
  c3 : Nat
  A4 : Option Addr
  c4 : Nat
  A5 : Option Addr
  c5 : Nat
def SV.val (p : SV) : Value := .agg #[.int .i64 p.x.f0, .string p.x.f1, .int .i64 p.x.f2, .slice p.A3 p.x.f3.length p.c3, .slice p.A4 p.x.f4.length p.c4, .slice p.A5 p.x.f5.length p.c5]
def SV.ok (W : World) (ok : Nat → Prop) (p : SV) : Prop := (Kd.F k38 W ok p.A3 p.x.f3.length p.x.f3 ∧ p.x.f3.length ≤ p.c3) ∧ (Kd.F k41 W ok p.A4 p.x.f4.length p.x.f4 ∧ p.x.f4.length ≤ p.c4) ∧ (Kd.F k41 W ok p.A5 p.x.f5.length p.x.f5 ∧ p.x.f5.length ≤ p.c5)
abbrev SRes := Except (Int × Int) (S41 × PSt)
def PStm (w : World) (g : Nat) (A : Option Addr) (c : Nat) (T : List S58) (r : SRes) (e : Ending) (w' : World) : Prop :=
  KeepBut w w' g none ∧ match r with
  | .ok (x, s) => ∃ p : SV, p.x = x ∧ e = .returned p.val ∧ p.ok w' (newO w w') ∧ RD w' g A c T s
  | .error (er, at_) => e = .panicked [stopV er at_]
theorem PStm.ok {w w' : World} {g : Nat} {A : Option Addr} {c : Nat} {T : List S58} {x : S41} {s : PSt} {e : Ending} (h : PStm w g A c T (.ok (x, s)) e w') : ∃ p : SV, e = .returned p.val ∧ p.x = x ∧ p.ok w' (newO w w') ∧ RD w' g A c T s ∧ KeepBut w w' g none := by
  obtain ⟨h1, p, h2, h4, h5, h6⟩ := h
  exact ⟨p, h4, h2, h5, h6, h1⟩
theorem PStm.err {w w' : World} {g : Nat} {A : Option Addr} {c : Nat} {T : List S58} {er at_ : Int} {e : Ending} (h : PStm w g A c T (.error (er, at_)) e w') : e = .panicked [stopV er at_] ∧ KeepBut w w' g none := ⟨h.2, h.1⟩
def emitF (T : List S58) (ab : Int → PSt → Option Res) (s : PSt) (t : S58) : Option SRes :=
  if goodS T s ∧ t.f1 = ⟨#[101, 109, 105, 116]⟩ then
    match ab 1 ⟨s.at_ + 1, s.nodes, s.op, s.bl⟩ with
    | none => none
    | some (.error e) => some (.error e)
    | some (.ok (p, s1)) => some (.ok (⟨4, ⟨#[]⟩, 0, [p.1], [], []⟩, s1))
  else none
def WorC (T : List S58) (f : PSt → S58 → Option SRes) : Prop := ∀ (s : PSt) (t : S58) (r : SRes) (g : Nat) (A : Option Addr) (c : Nat) (w : World), f s t = some r → RD w g A c T s → Calls Try.prog 75 #[.pointer (some ⟨g, 0, none⟩), .agg #[.int .i64 t.f0, .string t.f1, .int .i64 t.f2, .int .i64 t.f3]] w (PStm w g A c T r)
theorem WorC.use {T : List S58} {f : PSt → S58 → Option SRes} (h : WorC T f) (s : PSt) (t : S58) (r : SRes) (g : Nat) (A : Option Addr) (c : Nat) (w : World) (h1 : f s t = some r) (h2 : RD w g A c T s) : Calls Try.prog 75 #[.pointer (some ⟨g, 0, none⟩), .agg #[.int .i64 t.f0, .string t.f1, .int .i64 t.f2, .int .i64 t.f3]] w (PStm w g A c T r) := h s t r g A c w h1 h2
set_option maxHeartbeats 8000000 in
set_option maxRecDepth 100000 in
theorem emit_L (T : List S58) (ab : Int → PSt → Option Res) (AC0 : AboC T ab) : WorC T (emitF T ab) := by
  intro s t r g A c w h hrd
  obtain ⟨a, n, q, b⟩ := s
  obtain ⟨t0, t1, t2, t3⟩ := t
  unfold emitF at h
  by_cases hg : goodS T ⟨a, n, q, b⟩ ∧ (⟨t0, t1, t2, t3⟩ : S58).f1 = ⟨#[101, 109, 105, 116]⟩
  rotate_left
  · rw [if_neg hg] at h; cases h
  rw [if_pos hg] at h
  obtain ⟨⟨⟨h0, h1⟩, hn0, hn1⟩, rfl⟩ := hg
  dsimp only at h h0 h1 hn0 hn1 ⊢
  have AC := Aside0.mk AC0
  clear AC0
  rcases hab : ab 1 ⟨a + 1, n, q, b⟩ with _ | r1
  · rw [hab] at h; cases h
  rw [hab] at h
  have HAB := Aside0.mk hab
  have HL := Aside0.mk h
  clear h hab
  have HT0 := Aside0.mk hrd.tk
  have hmx := hrd.max
  have Bg : Aside0 (w.heap[g]? = some (.cells #[.slice A T.length c, .int .i64 a, .int .i64 n, .int .i64 q, .int .i64 b] 79 (0, 0))) := ⟨hrd.bk⟩
  have HK := Aside0.mk (KeepBut.refl w g none)
  have HLT := Aside0.mk hrd.lt
  clear hrd
  obtain ⟨⟨gz0, gz1, gz2, gz3, gz4⟩, gf0, gf1, gf2, gf3, gf4⟩ := five_ Bg.out
  have hwa : wrap64 (a + 1) = a + 1 := by unfold wrap64; omega
  go_enter Try.func75, Try.ntmps75
  go_wp2_with (first | ((with_reducible refine gate_dst (N := 3) rfl ?_); (try (refine gate_guard (by rfl) ?_; dsimp only)); refine box_event ?hg (N := 3) ?hd (cs := #[.int .i64 t0, .string ⟨#[101, 109, 105, 116]⟩, .int .i64 t2, .int .i64 t3]) (t := 58) ?hr ?_; (case hd => rfl); (case hg => rfl); (case hr => first | (go_simp; done) | (go_simp; rfl)); intro tb hg wt hbox hb; have n0_ := Aside0.mk (HK.out.trans (KeepBut.of_below hb g none) (.inl rfl)); have n2_ := Aside0.mk hbox; have n3_ := Aside0.mk (show w.heap.size ≤ tb by rw [hg]; exact keep_size HK.out); have m0_ := Aside0.mk (blk_below Bg.out hb); have k0_ := Aside0.mk (show tb ≠ g by rw [hg]; exact Ne.symm (Nat.ne_of_lt (blk_lt Bg.out))); clear gz0 gz1 gz2 gz3 gz4 gf0 gf1 gf2 gf3 gf4; clear Bg; clear HK hb hbox hg; have HK := n0_; have Bt := n2_; have Gt := n3_; clear n0_ n2_ n3_; have Bg := m0_; have htg := k0_.out; have hgt := Ne.symm k0_.out; clear m0_ k0_; obtain ⟨⟨gz0, gz1, gz2, gz3, gz4⟩, gf0, gf1, gf2, gf3, gf4⟩ := five_ Bg.out; obtain ⟨⟨tz0, tz1, tz2, tz3⟩, tf0, tf1, tf2, tf3⟩ := four Bt.out) | ((with_reducible refine gate_dst (N := 4) rfl ?_); (try (refine gate_guard (by rfl) ?_; dsimp only)); refine box_event ?hg (N := 4) ?hd (cs := #[.int .i64 0, .string (⟨#[]⟩ : ByteArray), .int .i64 0, .slice none 0 0, .slice none 0 0, .slice none 0 0]) (t := 41) ?hr ?_; (case hd => rfl); (case hg => rfl); (case hr => first | (go_simp; done) | (go_simp; rfl)); intro rb hg wr hbox hb; have n0_ := Aside0.mk (HK.out.trans (KeepBut.of_below hb g none) (.inl rfl)); have n2_ := Aside0.mk hbox; have n3_ := Aside0.mk (show w.heap.size ≤ rb by rw [hg]; exact keep_size HK.out); have m0_ := Aside0.mk (blk_below Bg.out hb); have k0_ := Aside0.mk (show rb ≠ g by rw [hg]; exact Ne.symm (Nat.ne_of_lt (blk_lt Bg.out))); have m1_ := Aside0.mk (blk_below Bt.out hb); have k1_ := Aside0.mk (show rb ≠ tb by rw [hg]; exact Ne.symm (Nat.ne_of_lt (blk_lt Bt.out))); clear gz0 gz1 gz2 gz3 gz4 gf0 gf1 gf2 gf3 gf4; clear Bg; clear tz0 tz1 tz2 tz3 tf0 tf1 tf2 tf3; clear Bt; clear HK hb hbox hg; have HK := n0_; have Br := n2_; have Gr := n3_; clear n0_ n2_ n3_; have Bg := m0_; have hrg := k0_.out; have hgr := Ne.symm k0_.out; clear m0_ k0_; obtain ⟨⟨gz0, gz1, gz2, gz3, gz4⟩, gf0, gf1, gf2, gf3, gf4⟩ := five_ Bg.out; have Bt := m1_; have hrt := k1_.out; have htr := Ne.symm k1_.out; clear m1_ k1_; obtain ⟨⟨tz0, tz1, tz2, tz3⟩, tf0, tf1, tf2, tf3⟩ := four Bt.out; obtain ⟨⟨rz0, rz1, rz2, rz3, rz4, rz5⟩, rf0, rf1, rf2, rf3, rf4, rf5⟩ := sixc Br.out))
  generalize hq_ : World.setCell _ ⟨g, 1, none⟩ _ = wu
  have hq := hq_
  clear hq_
  have n0_ : Aside0 (wu.heap[g]? = some (.cells #[.slice A T.length c, .int .i64 (a + 1), .int .i64 n, .int .i64 q, .int .i64 b] 79 (0, 0))) := ⟨by rw [← hq]; refine blk_put (cs := #[.slice A T.length c, .int .i64 a, .int .i64 n, .int .i64 q, .int .i64 b]) ?_ 1 _ rfl; exact Bg.out⟩
  have n1_ : Aside0 (wu.heap[tb]? = some (.cells #[.int .i64 t0, .string ⟨#[101, 109, 105, 116]⟩, .int .i64 t2, .int .i64 t3] 58 (0, 0))) := ⟨by rw [← hq]; refine blk_far ?_ htg _; exact Bt.out⟩
  have n2_ : Aside0 (wu.heap[rb]? = some (.cells #[.int .i64 0, .string (⟨#[]⟩ : ByteArray), .int .i64 0, .slice none 0 0, .slice none 0 0, .slice none 0 0] 41 (0, 0))) := ⟨by rw [← hq]; refine blk_far ?_ hrg _; exact Br.out⟩
  have nk_ : Aside0 (KeepBut w wu g none) := ⟨by rw [← hq]; refine KeepBut.set_ ?_ _ _; exact HK.out⟩
  clear gz0 gz1 gz2 gz3 gz4 gf0 gf1 gf2 gf3 gf4
  clear tz0 tz1 tz2 tz3 tf0 tf1 tf2 tf3
  clear rz0 rz1 rz2 rz3 rz4 rz5 rf0 rf1 rf2 rf3 rf4 rf5
  clear hq HK Bg Bt Br
  have Bg := n0_
  have Bt := n1_
  have Br := n2_
  have HK := nk_
  clear nk_ n0_ n1_ n2_
  obtain ⟨⟨gz0, gz1, gz2, gz3, gz4⟩, gf0, gf1, gf2, gf3, gf4⟩ := five_ Bg.out
  obtain ⟨⟨tz0, tz1, tz2, tz3⟩, tf0, tf1, tf2, tf3⟩ := four Bt.out
  obtain ⟨⟨rz0, rz1, rz2, rz3, rz4, rz5⟩, rf0, rf1, rf2, rf3, rf4, rf5⟩ := sixc Br.out
  have HSZ := Aside0.mk (show w.heap.size ≤ wu.heap.size ∧ tb < wu.heap.size ∧ rb < wu.heap.size from ⟨keep_size HK.out, blk_lt Bt.out, blk_lt Br.out⟩)
  (with_reducible refine (expr_L T ab AC.out (a + 1) n q b r1 g A c _ HAB.out (⟨Bg.out, Kd.F_keep HT0.out HK.out (fun _ h => h)⟩ : RD _ g A c T _)).mono ?_)
  intro e wn hp
  rcases r1 with ⟨er, at_⟩ | ⟨p0, s1⟩
  · obtain ⟨rfl, hk⟩ := hp.err
    have h' := Option.some.inj HL.out
    subst h'
    exact ⟨rfl, HK.out.trans hk (.inl rfl), rfl⟩
  obtain ⟨p, rfl, hpx, hpo, hx, hk⟩ := hp.ok
  clear hp HAB
  subst hpx
  obtain ⟨a1, n1, q1, b1⟩ := s1
  have h' := Option.some.inj HL.out
  subst h'
  clear HL
  unfold PV.eval
  have n0_ : Aside0 (wn.heap[g]? = some (.cells #[.slice A T.length c, .int .i64 a1, .int .i64 n1, .int .i64 q1, .int .i64 b1] 79 (0, 0))) := ⟨hx.bk⟩
  have n1_ := Aside0.mk (KeepBut.blk hk Bt.out htg (by simp))
  have n2_ := Aside0.mk (KeepBut.blk hk Br.out hrg (by simp))
  have nk_ := Aside0.mk (HK.out.trans hk (.inl rfl))
  clear gz0 gz1 gz2 gz3 gz4 gf0 gf1 gf2 gf3 gf4
  clear tz0 tz1 tz2 tz3 tf0 tf1 tf2 tf3
  clear rz0 rz1 rz2 rz3 rz4 rz5 rf0 rf1 rf2 rf3 rf4 rf5
  clear HK hk Bg Bt Br hx
  have Bg := n0_
  have Bt := n1_
  have Br := n2_
  have HK := nk_
  clear nk_ n0_ n1_ n2_
  obtain ⟨⟨gz0, gz1, gz2, gz3, gz4⟩, gf0, gf1, gf2, gf3, gf4⟩ := five_ Bg.out
  obtain ⟨⟨tz0, tz1, tz2, tz3⟩, tf0, tf1, tf2, tf3⟩ := four Bt.out
  obtain ⟨⟨rz0, rz1, rz2, rz3, rz4, rz5⟩, rf0, rf1, rf2, rf3, rf4, rf5⟩ := sixc Br.out
  have Ep : Aside0 (∃ op_ : Nat → Prop, PV.ok wn op_ p ∧ ∀ k, op_ k → w.heap.size ≤ k ∧ k ≠ tb ∧ k ≠ rb) := ⟨⟨_, hpo, fun k hk => by have := hk.1; have := HSZ.out; omega⟩⟩
  clear HSZ hpo
  go_wp2_with (first | ((with_reducible refine gate_dst (N := 51) rfl ?_); (try (refine gate_guard (by rfl) ?_; dsimp only)); refine row_event ?hg (N := 51) ?hd (m := 1) (cs := #[.int .i64 p.x.f0, .int .i64 p.x.f1, .string p.x.f2, .int .i64 p.x.f3, .slice p.A p.x.f4.length p.c]) (t := 38) ?hr ?_; (case hd => rfl); (case hg => rfl); (case hr => first | (go_simp; done) | (go_simp; rfl)); intro nb hg wn hbox hb; have e0_ : Aside0 (∃ op_ : Nat → Prop, PV.ok wn op_ p ∧ ∀ k, op_ k → w.heap.size ≤ k ∧ k ≠ tb ∧ k ≠ rb ∧ k ≠ nb) := ⟨by obtain ⟨op_, h1, h2⟩ := Ep.out; exact ⟨_, h1.bound.step (fun k hk hl => hb.block k hl), fun k hk => by have := h2 k hk.1; have := hk.2; rw [hg]; omega⟩⟩; clear Ep; have n0_ := Aside0.mk (HK.out.trans (KeepBut.of_below hb g none) (.inl rfl)); have n2_ := Aside0.mk hbox; have n3_ := Aside0.mk (show w.heap.size ≤ nb by rw [hg]; exact keep_size HK.out); have m0_ := Aside0.mk (blk_below Bg.out hb); have k0_ := Aside0.mk (show nb ≠ g by rw [hg]; exact Ne.symm (Nat.ne_of_lt (blk_lt Bg.out))); have m1_ := Aside0.mk (blk_below Bt.out hb); have k1_ := Aside0.mk (show nb ≠ tb by rw [hg]; exact Ne.symm (Nat.ne_of_lt (blk_lt Bt.out))); have m2_ := Aside0.mk (blk_below Br.out hb); have k2_ := Aside0.mk (show nb ≠ rb by rw [hg]; exact Ne.symm (Nat.ne_of_lt (blk_lt Br.out))); clear gz0 gz1 gz2 gz3 gz4 gf0 gf1 gf2 gf3 gf4; clear Bg; clear tz0 tz1 tz2 tz3 tf0 tf1 tf2 tf3; clear Bt; clear rz0 rz1 rz2 rz3 rz4 rz5 rf0 rf1 rf2 rf3 rf4 rf5; clear Br; clear HK hb hbox hg; have HK := n0_; have Bn := n2_; have Gn := n3_; clear n0_ n2_ n3_; have Bg := m0_; have hng := k0_.out; have hgn := Ne.symm k0_.out; clear m0_ k0_; obtain ⟨⟨gz0, gz1, gz2, gz3, gz4⟩, gf0, gf1, gf2, gf3, gf4⟩ := five_ Bg.out; have Bt := m1_; have hnt := k1_.out; have htn := Ne.symm k1_.out; clear m1_ k1_; obtain ⟨⟨tz0, tz1, tz2, tz3⟩, tf0, tf1, tf2, tf3⟩ := four Bt.out; have Br := m2_; have hnr := k2_.out; have hrn := Ne.symm k2_.out; clear m2_ k2_; obtain ⟨⟨rz0, rz1, rz2, rz3, rz4, rz5⟩, rf0, rf1, rf2, rf3, rf4, rf5⟩ := sixc Br.out; obtain ⟨⟨nz0, nz1, nz2, nz3, nz4⟩, nf0, nf1, nf2, nf3, nf4⟩ := five_ Bn.out; have Ep := e0_; clear e0_))
  generalize hq_ : World.setCell _ ⟨rb, 5, none⟩ _ = wv
  have e0_ : Aside0 (∃ op_ : Nat → Prop, PV.ok wv op_ p ∧ ∀ k, op_ k → w.heap.size ≤ k ∧ k ≠ tb ∧ k ≠ rb ∧ k ≠ nb) := ⟨by obtain ⟨op_, h1, h2⟩ := Ep.out; exact ⟨op_, h1.step (fun k hk hl => by have hh := h2 k hk; have hlt := HLT.out; rw [← hq_]; rw [Below.heap_setCell _ _ _ k (by show k ≠ rb; omega)]; rw [Below.heap_setCell _ _ _ k (by show k ≠ rb; omega)]; rw [Below.heap_setCell _ _ _ k (by show k ≠ rb; omega)]; rw [Below.heap_setCell _ _ _ k (by show k ≠ rb; omega)]; rw [Below.heap_setCell _ _ _ k (by show k ≠ rb; omega)]; rw [Below.heap_setCell _ _ _ k (by show k ≠ rb; omega)]), h2⟩⟩
  clear Ep
  have Ep := e0_
  clear e0_
  have hq := hq_
  clear hq_
  have n0_ : Aside0 (wv.heap[g]? = some (.cells #[.slice A T.length c, .int .i64 a1, .int .i64 n1, .int .i64 q1, .int .i64 b1] 79 (0, 0))) := ⟨by rw [← hq]; refine blk_far ?_ hgr _; refine blk_far ?_ hgr _; refine blk_far ?_ hgr _; refine blk_far ?_ hgr _; refine blk_far ?_ hgr _; refine blk_far ?_ hgr _; exact Bg.out⟩
  have n1_ : Aside0 (wv.heap[tb]? = some (.cells #[.int .i64 t0, .string ⟨#[101, 109, 105, 116]⟩, .int .i64 t2, .int .i64 t3] 58 (0, 0))) := ⟨by rw [← hq]; refine blk_far ?_ htr _; refine blk_far ?_ htr _; refine blk_far ?_ htr _; refine blk_far ?_ htr _; refine blk_far ?_ htr _; refine blk_far ?_ htr _; exact Bt.out⟩
  have n2_ : Aside0 (wv.heap[rb]? = some (.cells #[.int .i64 4, .string ⟨#[]⟩, .int .i64 0, .slice (some ⟨nb, 0, none⟩) 1 1, .slice none 0 0, .slice none 0 0] 41 (0, 0))) := ⟨by rw [← hq]; refine blk_put (cs := #[.int .i64 4, .string ⟨#[]⟩, .int .i64 0, .slice (some ⟨nb, 0, none⟩) 1 1, .slice none 0 0, .slice none 0 0]) ?_ 5 _ rfl; refine blk_put (cs := #[.int .i64 4, .string ⟨#[]⟩, .int .i64 0, .slice (some ⟨nb, 0, none⟩) 1 1, .slice none 0 0, .slice none 0 0]) ?_ 4 _ rfl; refine blk_put (cs := #[.int .i64 4, .string ⟨#[]⟩, .int .i64 0, .slice none 0 0, .slice none 0 0, .slice none 0 0]) ?_ 3 _ rfl; refine blk_put (cs := #[.int .i64 4, .string ⟨#[]⟩, .int .i64 0, .slice none 0 0, .slice none 0 0, .slice none 0 0]) ?_ 2 _ rfl; refine blk_put (cs := #[.int .i64 4, .string (⟨#[]⟩ : ByteArray), .int .i64 0, .slice none 0 0, .slice none 0 0, .slice none 0 0]) ?_ 1 _ rfl; refine blk_put (cs := #[.int .i64 0, .string (⟨#[]⟩ : ByteArray), .int .i64 0, .slice none 0 0, .slice none 0 0, .slice none 0 0]) ?_ 0 _ rfl; exact Br.out⟩
  have n3_ : Aside0 (wv.heap[nb]? = some (.cells #[.int .i64 p.x.f0, .int .i64 p.x.f1, .string p.x.f2, .int .i64 p.x.f3, .slice p.A p.x.f4.length p.c] 38 (0, 0))) := ⟨by rw [← hq]; refine blk_far ?_ hnr _; refine blk_far ?_ hnr _; refine blk_far ?_ hnr _; refine blk_far ?_ hnr _; refine blk_far ?_ hnr _; refine blk_far ?_ hnr _; exact Bn.out⟩
  have nk_ : Aside0 (KeepBut w wv g none) := ⟨by rw [← hq]; refine keep_far ?_ Gr.out _; refine keep_far ?_ Gr.out _; refine keep_far ?_ Gr.out _; refine keep_far ?_ Gr.out _; refine keep_far ?_ Gr.out _; refine keep_far ?_ Gr.out _; exact HK.out⟩
  clear gz0 gz1 gz2 gz3 gz4 gf0 gf1 gf2 gf3 gf4
  clear tz0 tz1 tz2 tz3 tf0 tf1 tf2 tf3
  clear rz0 rz1 rz2 rz3 rz4 rz5 rf0 rf1 rf2 rf3 rf4 rf5
  clear nz0 nz1 nz2 nz3 nz4 nf0 nf1 nf2 nf3 nf4
  clear hq HK Bg Bt Br Bn
  have Bg := n0_
  have Bt := n1_
  have Br := n2_
  have Bn := n3_
  have HK := nk_
  clear nk_ n0_ n1_ n2_ n3_
  obtain ⟨⟨gz0, gz1, gz2, gz3, gz4⟩, gf0, gf1, gf2, gf3, gf4⟩ := five_ Bg.out
  obtain ⟨⟨tz0, tz1, tz2, tz3⟩, tf0, tf1, tf2, tf3⟩ := four Bt.out
  obtain ⟨⟨rz0, rz1, rz2, rz3, rz4, rz5⟩, rf0, rf1, rf2, rf3, rf4, rf5⟩ := sixc Br.out
  obtain ⟨⟨nz0, nz1, nz2, nz3, nz4⟩, nf0, nf1, nf2, nf3, nf4⟩ := five_ Bn.out
  refine bodyPost_ret (v := SV.val ⟨⟨4, ⟨#[]⟩, 0, [p.x], [], []⟩, some ⟨nb, 0, none⟩, 1, none, 0, none, 0⟩) (by simp [results, Try.results75, go_sem, rz0, rz1, rz2, rz3, rz4, rz5, SV.val]) rfl ?_
  obtain ⟨op_, h1, h2⟩ := Ep.out
  have hF := F_one Bn.out h1
  refine ⟨HK.out, ⟨⟨4, ⟨#[]⟩, 0, [p.x], [], []⟩, some ⟨nb, 0, none⟩, 1, none, 0, none, 0⟩, rfl, rfl, ⟨⟨Kd.F_mono (Kd.F_bound hF) (fun k hk => ⟨?_, hk.2⟩), Nat.le_refl _⟩, ⟨Kd.F_nil _ _ _, Nat.le_refl _⟩, ⟨Kd.F_nil _ _ _, Nat.le_refl _⟩⟩, ⟨Bg.out, Kd.F_keep HT0.out HK.out (fun _ h => h)⟩⟩
  rcases hk.1 with z | z
  · exact (h2 k z).1
  · rw [z]; exact Gn.out
end Go.Proofs.Ytobkdmmnbnpemaa.K
