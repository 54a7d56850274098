/- The parser's expr, worded (for emit) and stmt (for a word), walked by hand. -/
import Derived.Test.YtobkdmmnbnpemaaXJP5
namespace Go.Proofs.Ytobkdmmnbnpemaa.K
open Go.RowKit Go.Proofs.YtobkdmmnbnpemaaW.PrintWords Go.Proofs.YtobkdmmnbnpemaaW.PrintLast Go.Proofs.YtobkdmmnbnpemaaW.PrintMore
attribute [local go_sem] max2_int min2_int max_two min_two max_three min_three max_four min_four
set_option linter.unusedVariables false
set_option linter.unusedSimpArgs false
def PV.eval (p : PV) : Value := .agg #[.int .i64 p.x.f0, .int .i64 p.x.f1, .string p.x.f2, .int .i64 p.x.f3, .slice p.A p.x.f4.length p.c]
theorem field137_0 (a b : Int) (s : ByteArray) (o : Int) (A : Option Addr) (n c : Nat) (d : Int) (W : World) : (Instr.field 137 (.agg #[.int .i64 a, .int .i64 b, .string s, .int .i64 o, .slice A n c, .int .i64 d]) 0).run Try.prog W = .ok (.agg #[.int .i64 a, .int .i64 b, .string s, .int .i64 o, .slice A n c]) W := by kernel_rfl
def PExp (w : World) (g : Nat) (A : Option Addr) (c : Nat) (T : List S58) (r : Res) (e : Ending) (w' : World) : Prop :=
  KeepBut w w' g none ∧ match r with
  | .ok (x, s) => ∃ p : PV, (p.x, p.d) = x ∧ e = .returned p.eval ∧ p.ok w' (newO w w') ∧ RD w' g A c T s
  | .error (er, at_) => e = .panicked [stopV er at_]
theorem PExp.ok {w w' : World} {g : Nat} {A : Option Addr} {c : Nat} {T : List S58} {x : S38 × Int} {s : PSt} {e : Ending} (h : PExp w g A c T (.ok (x, s)) e w') : ∃ p : PV, e = .returned p.eval ∧ (p.x, p.d) = x ∧ p.ok w' (newO w w') ∧ RD w' g A c T s ∧ KeepBut w w' g none := by
  obtain ⟨h1, p, h2, h4, h5, h6⟩ := h; exact ⟨p, h4, h2, h5, h6, h1⟩
theorem PExp.err {w w' : World} {g : Nat} {A : Option Addr} {c : Nat} {T : List S58} {er at_ : Int} {e : Ending} (h : PExp w g A c T (.error (er, at_)) e w') : e = .panicked [stopV er at_] ∧ KeepBut w w' g none := ⟨h.2, h.1⟩
set_option maxHeartbeats 8000000 in
set_option maxRecDepth 100000 in
theorem expr_L (T : List S58) (ab : Int → PSt → Option Res) (AC0 : AboC T ab) (a n q b : Int) (r : Res) (g : Nat) (A : Option Addr) (c : Nat) (w : World) (h : ab 1 ⟨a, n, q, b⟩ = some r) (hrd : RD w g A c T ⟨a, n, q, b⟩) :
    Calls Try.prog 74 #[.pointer (some ⟨g, 0, none⟩)] w (PExp w g A c T r) := by
  have AC := A_0 AC0; have HAB := A_0 h; have fld := field137_0; clear AC0 h; have HT0 := A_0 hrd.tk; have hmx := hrd.max; have Bg : Aside0 (w.heap[g]? = some (.cells #[.slice A T.length c, .int .i64 a, .int .i64 n, .int .i64 q, .int .i64 b] 79 (0, 0))) := ⟨hrd.bk⟩; have HK := A_0 (KeepBut.refl w g none); have HLT := A_0 hrd.lt; clear hrd; have gz := five_ Bg.out
  go_enter Try.func74, Try.ntmps74
  go_wp2_with (first | ((with_reducible refine gate_dst (N := 2) rfl ?_); (try (refine gate_guard (by rfl) ?_; dsimp only)); refine box_event ?hg (N := 2) ?hd (cs := #[.int .i64 0, .int .i64 0, .string (⟨#[]⟩ : ByteArray), .int .i64 0, .slice none 0 0]) (t := 38) ?hr ?_; (case hd => rfl); (case hg => rfl); (case hr => first | (go_simp; done) | (go_simp; rfl)); intro rb hg wr hbox hb; have n0_ := A_0 (HK.out.trans (KeepBut.of_below hb g none) (.inl rfl)); have n2_ := A_0 hbox; have n3_ := A_0 (show w.heap.size ≤ rb by rw [hg]; exact keep_size HK.out); have m0_ := A_0 (blk_below Bg.out hb); have k0_ := A_0 (show rb ≠ g by rw [hg]; exact z_43); clear gz; clear Bg; clear HK hb hbox hg; have HK := n0_; have Br := n2_; have Gr := n3_; clear n0_ n2_ n3_; have Bg := m0_; have hrg := k0_.out; have hgr := Ne.symm k0_.out; clear m0_ k0_; have gz := five_ Bg.out; have rz := five_ Br.out))
  have HSZ := A_0 (show w.heap.size ≤ wr.heap.size ∧ rb < wr.heap.size from ⟨keep_size HK.out, blk_lt Br.out⟩)
  (with_reducible refine (AC.out.use 1 ⟨a, n, q, b⟩ r g A c _ HAB.out (⟨Bg.out, Kd.F_keep HT0.out HK.out (fun _ h => h)⟩ : RD _ g A c T _)).mono ?_)
  intro e wn hp; rcases r with ⟨er, at_⟩ | ⟨p0, s1⟩
  · obtain ⟨rfl, hk⟩ := PPartO.err hp
    exact z_49
  obtain ⟨p, rfl, hpx, hpo, hx, hk⟩ := PPartO.ok hp; clear hp HAB; obtain ⟨a1, n1, q1, b1⟩ := s1; unfold PV.val; have n0_ : Aside0 (wn.heap[g]? = some (.cells #[.slice A T.length c, .int .i64 a1, .int .i64 n1, .int .i64 q1, .int .i64 b1] 79 (0, 0))) := ⟨hx.bk⟩; have n1_ := A_0 (KeepBut.blk hk Br.out hrg (by simp)); have nk_ := A_0 (HK.out.trans hk (.inl rfl)); clear gz; clear rz; clear HK hk Bg Br hx; have Bg := n0_; have Br := n1_; have HK := nk_; clear nk_ n0_ n1_; have gz := five_ Bg.out; have rz := five_ Br.out; have Ep : Aside0 (∃ op_ : Nat → Prop, PV.ok wn op_ p ∧ ∀ k, op_ k → w.heap.size ≤ k ∧ k ≠ rb) := ⟨⟨_, hpo, fun k hk => by have := hk.1; have := HSZ.out; omega⟩⟩
  clear HSZ hpo
  go_wp2_with fail
  generalize hq_ : World.setCell _ ⟨rb, 4, none⟩ _ = wv; have e0_ : Aside0 (∃ op_ : Nat → Prop, PV.ok wv op_ p ∧ ∀ k, op_ k → w.heap.size ≤ k ∧ k ≠ rb) := ⟨z_96⟩; clear Ep; have Ep := e0_; clear e0_; have hq := hq_; clear hq_; have n0_ : Aside0 (wv.heap[g]? = some (.cells #[.slice A T.length c, .int .i64 a1, .int .i64 n1, .int .i64 q1, .int .i64 b1] 79 (0, 0))) := ⟨z_97⟩; have n1_ : Aside0 (wv.heap[rb]? = some (.cells #[.int .i64 p.x.f0, .int .i64 p.x.f1, .string p.x.f2, .int .i64 p.x.f3, .slice p.A p.x.f4.length p.c] 38 (0, 0))) := ⟨z_98⟩; have nk_ : Aside0 (KeepBut w wv g none) := ⟨z_99⟩; clear gz; clear rz; clear hq HK Bg Br; have Bg := n0_; have Br := n1_; have HK := nk_; clear nk_ n0_ n1_; have gz := five_ Bg.out; have rz := five_ Br.out; refine bodyPost_ret (v := p.eval) (by simp [results, Try.results74, go_sem, rz, PV.eval]) rfl ?_; obtain ⟨op_, h1, h2⟩ := Ep.out; exact ⟨HK.out, p, hpx, rfl, h1.bound.mono (fun k hk => ⟨(h2 k hk.1).1, hk.2⟩), ⟨Bg.out, Kd.F_keep HT0.out HK.out (fun _ h => h)⟩⟩
section
variable {P : Program} {ops : Array Oper} {rest : List Oper} {o : Oper} {a : Act} {Q : Exit → Act → World → Prop}
theorem row_event {W : World} (hgd : o.guard = none) {N : Tmp} (_hd : o.dst = some N) {cs : Array Value} {t : TypeId} {m : Nat}
    (hrun : (execOp a.eval o).run P W = .ok (.value (.slice (some ⟨W.heap.size, 0, none⟩) m m)) (W.alloc (.cells cs t (0, 0))))
    (h : ∀ g, g = W.heap.size → ∀ w1, w1.heap[g]? = some (.cells cs t (0, 0)) → Below W.heap.size W w1 → wpList P ops Q rest (a.put o.dst (.slice (some ⟨g, 0, none⟩) m m)) w1) : wpList P ops Q (o :: rest) a W :=
  Kd.event_run hgd hrun (h _ rfl _ (blk_new W _) (below_alloc (Below.refl _ _) _))
end
theorem F_one {W : World} {nb : Nat} {p : PV} {ok : Nat → Prop} (h : W.heap[nb]? = some (.cells #[.int .i64 p.x.f0, .int .i64 p.x.f1, .string p.x.f2, .int .i64 p.x.f3, .slice p.A p.x.f4.length p.c] 38 (0, 0))) (hp : p.ok W ok) : Kd.F k38 W (fun k => ok k ∨ k = nb) (some ⟨nb, 0, none⟩) 1 [p.x] := fun W' hW => by
  have h' := (hW nb (.inr rfl) (blk_lt h)).trans h; exact C_blk (cs := [.int .i64 p.x.f0, .int .i64 p.x.f1, .string p.x.f2, .int .i64 p.x.f3, .slice p.A p.x.f4.length p.c]) h' (Reps.c5 (k38_mk W' p.x hp.2 (hp.1 W' (fun k hk hl => hW k (.inl hk) hl))) (Reps.none _ _)) (by show 1 ≤ _; omega)
structure SV where
  x : S41
  A3 : Option Addr
  c3 : Nat
  A4 : Option Addr
  c4 : Nat
  A5 : Option Addr
  c5 : Nat
def SV.val (p : SV) : Value := .agg #[.int .i64 p.x.f0, .string p.x.f1, .int .i64 p.x.f2, .slice p.A3 p.x.f3.length p.c3, .slice p.A4 p.x.f4.length p.c4, .slice p.A5 p.x.f5.length p.c5]
def SV.ok (W : World) (ok : Nat → Prop) (p : SV) : Prop := (Kd.F k38 W ok p.A3 p.x.f3.length p.x.f3 ∧ p.x.f3.length ≤ p.c3) ∧ (Kd.F k41 W ok p.A4 p.x.f4.length p.x.f4 ∧ p.x.f4.length ≤ p.c4) ∧ (Kd.F k41 W ok p.A5 p.x.f5.length p.x.f5 ∧ p.x.f5.length ≤ p.c5)
abbrev SRes := Except (Int × Int) (S41 × PSt)
def PStm (w : World) (g : Nat) (A : Option Addr) (c : Nat) (T : List S58) (r : SRes) (e : Ending) (w' : World) : Prop :=
  KeepBut w w' g none ∧ match r with
  | .ok (x, s) => ∃ p : SV, p.x = x ∧ e = .returned p.val ∧ p.ok w' (newO w w') ∧ RD w' g A c T s
  | .error (er, at_) => e = .panicked [stopV er at_]
theorem PStm.ok {w w' : World} {g : Nat} {A : Option Addr} {c : Nat} {T : List S58} {x : S41} {s : PSt} {e : Ending} (h : PStm w g A c T (.ok (x, s)) e w') : ∃ p : SV, e = .returned p.val ∧ p.x = x ∧ p.ok w' (newO w w') ∧ RD w' g A c T s ∧ KeepBut w w' g none := by
  obtain ⟨h1, p, h2, h4, h5, h6⟩ := h; exact ⟨p, h4, h2, h5, h6, h1⟩
theorem PStm.err {w w' : World} {g : Nat} {A : Option Addr} {c : Nat} {T : List S58} {er at_ : Int} {e : Ending} (h : PStm w g A c T (.error (er, at_)) e w') : e = .panicked [stopV er at_] ∧ KeepBut w w' g none := ⟨h.2, h.1⟩
def WorC (T : List S58) (f : PSt → S58 → Option SRes) : Prop := ∀ (s : PSt) (t : S58) (r : SRes) (g : Nat) (A : Option Addr) (c : Nat) (w : World), f s t = some r → RD w g A c T s → Calls Try.prog 75 #[.pointer (some ⟨g, 0, none⟩), .agg #[.int .i64 t.f0, .string t.f1, .int .i64 t.f2, .int .i64 t.f3]] w (PStm w g A c T r)
theorem WorC.use {T : List S58} {f : PSt → S58 → Option SRes} (h : WorC T f) (s : PSt) (t : S58) (r : SRes) (g : Nat) (A : Option Addr) (c : Nat) (w : World) (h1 : f s t = some r) (h2 : RD w g A c T s) : Calls Try.prog 75 #[.pointer (some ⟨g, 0, none⟩), .agg #[.int .i64 t.f0, .string t.f1, .int .i64 t.f2, .int .i64 t.f3]] w (PStm w g A c T r) := h s t r g A c w h1 h2
end Go.Proofs.Ytobkdmmnbnpemaa.K
