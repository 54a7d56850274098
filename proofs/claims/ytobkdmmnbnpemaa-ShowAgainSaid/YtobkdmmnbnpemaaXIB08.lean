/- Texts of the claim, one behind the other. -/
import Derived.Test.YtobkdmmnbnpemaaXIB07
import Derived.Defers
import Derived.Recover
set_option maxHeartbeats 16000000
set_option maxRecDepth 100000
namespace Go.Proofs.Ytobkdmmnbnpemaa.K
open Go.RowKit Go.Proofs.YtobkdmmnbnpemaaW.PrintWords Go.Proofs.YtobkdmmnbnpemaaW.PrintLast Go.Proofs.YtobkdmmnbnpemaaW.PrintMore
attribute [local go_sem] max2_int min2_int max_two min_two max_three min_three max_four min_four
set_option linter.unusedVariables false
set_option linter.unusedSimpArgs false
def PV.eval (p : PV) : Value := .agg #[.int .i64 p.x.f0, .int .i64 p.x.f1, .string p.x.f2, .int .i64 p.x.f3, .slice p.A p.x.f4.length p.c]
theorem field137_0 (a b : Int) (s : ByteArray) (o : Int) (A : Option Addr) (n c : Nat) (d : Int) (W : World) : (Instr.field 137 (.agg #[.int .i64 a, .int .i64 b, .string s, .int .i64 o, .slice A n c, .int .i64 d]) 0).run Try.prog W = .ok (.agg #[.int .i64 a, .int .i64 b, .string s, .int .i64 o, .slice A n c]) W := by kernel_rfl
def PExp (w : World) (g : Nat) (A : Option Addr) (c : Nat) (T : List S58) (r : Res) (e : Ending) (w' : World) : Prop :=
 KeepBut w w' g none ∧ match r with
 | .ok (x, s) => ∃ p : PV, (p.x, p.d) = x ∧ e = .returned p.eval ∧ p.ok w' (newO w w') ∧ RD w' g A c T s
 | .error (er, at_) => e = .panicked [stopV er at_]
theorem PExp.ok {w w' : World} {g : Nat} {A : Option Addr} {c : Nat} {T : List S58} {x : S38 × Int} {s : PSt} {e : Ending} (h : PExp w g A c T (.ok (x, s)) e w') : ∃ p : PV, e = .returned p.eval ∧ (p.x, p.d) = x ∧ p.ok w' (newO w w') ∧ RD w' g A c T s ∧ KeepBut w w' g none := by
 obtain ⟨h1, p, h2, h4, h5, h6⟩ := h; exact ⟨p, h4, h2, h5, h6, h1⟩
theorem PExp.err {w w' : World} {g : Nat} {A : Option Addr} {c : Nat} {T : List S58} {er at_ : Int} {e : Ending} (h : PExp w g A c T (.error (er, at_)) e w') : e = .panicked [stopV er at_] ∧ KeepBut w w' g none := ⟨h.2, h.1⟩
theorem expr_L (T : List S58) (ab : Int → PSt → Option Res) (AC0 : AboC T ab) (a n q b : Int) (r : Res) (g : Nat) (A : Option Addr) (c : Nat) (w : World) (h : ab 1 ⟨a, n, q, b⟩ = some r) (hrd : RD w g A c T ⟨a, n, q, b⟩) :
  Calls Try.prog 74 #[.pointer (some ⟨g, 0, none⟩)] w (PExp w g A c T r) := by
 have AC := A_0 AC0; have HAB := A_0 h; have fld := field137_0; clear AC0 h; have HT0 := A_0 hrd.tk; have hmx := hrd.max; have Bg : Aside0 (w.heap[g]? = some (b79 A T.length c a n q b)) := ⟨hrd.bk⟩; have HK := A_0 (KeepBut.refl w g none); have HLT := A_0 hrd.lt; clear hrd; have gz := five_ Bg.out
 go_enter Try.func74, Try.ntmps74
 go_wp2_with (first | ((with_reducible refine gate_dst (N := 2) rfl ?_); refine bx (a38 0 0 ⟨#[]⟩ 0 none 0 0) 38 ?_; intro rb hg wr hbox hb; have Br := A_0 hbox; have Gr := A_0 (show w.heap.size ≤ rb by rw [hg]; exact keep_size HK.out); replace HK := xk1 HK hb; have hrg := (show rb ≠ g by rw [hg]; exact z_71); have hgr := Ne.symm hrg; replace Bg := xk4 Bg hb; clear hb hbox hg; replace gz := five_ Bg.out; have rz := five_ Br.out))
 have HSZ := A_0 (show w.heap.size ≤ wr.heap.size ∧ rb < wr.heap.size from ⟨keep_size HK.out, blk_lt Br.out⟩)
 (with_reducible refine (AC.out.use 1 ⟨a, n, q, b⟩ r g A c _ HAB.out (⟨Bg.out, Kd.F_keep HT0.out HK.out (fun _ h => h)⟩ : RD _ g A c T _)).mono ?_)
 intro e wn hp; rcases r with ⟨er, at_⟩ | ⟨p0, s1⟩
 ·obtain ⟨rfl, hk⟩ := PPartO.err hp
  exact z_77
 obtain ⟨p, rfl, hpx, hpo, hx, hk⟩ := PPartO.ok hp; clear hp HAB; obtain ⟨a1, n1, q1, b1⟩ := s1; unfold PV.val; replace Bg : Aside0 (wn.heap[g]? = some (b79 A T.length c a1 n1 q1 b1)) := ⟨hx.bk⟩; replace Br := xk2 hk Br hrg; replace HK := xk3 HK hk; clear gz rz hk hx; have gz := five_ Bg.out; have rz := five_ Br.out; have Ep : Aside0 (∃ op_ : Nat → Prop, PV.ok wn op_ p ∧ ∀ k, op_ k → w.heap.size ≤ k ∧ k ≠ rb) := ⟨⟨_, hpo, fun k hk => by have := hk.1; have := HSZ.out; omega⟩⟩
 clear HSZ hpo
 go_wp2_with fail
 generalize hq_ : World.setCell _ ⟨rb, 4, none⟩ _ = wv; have e0_ : Aside0 (∃ op_ : Nat → Prop, PV.ok wv op_ p ∧ ∀ k, op_ k → w.heap.size ≤ k ∧ k ≠ rb) := ⟨z_111⟩; clear Ep; have Ep := e0_; clear e0_; have hq := hq_; clear hq_; replace Bg : Aside0 (wv.heap[g]? = some (b79 A T.length c a1 n1 q1 b1)) := ⟨by rw [← hq]; refine bf5 ?_ hgr; exact Bg.out⟩; replace Br : Aside0 (wv.heap[rb]? = some (b38 p.x.f0 p.x.f1 p.x.f2 p.x.f3 p.A p.x.f4.length p.c)) := ⟨by rw [← hq]; apply p5_4; apply p5_3; apply p5_2; apply p5_1; apply p5_0; exact Br.out⟩; replace HK : Aside0 (KeepBut w wv g none) := ⟨by rw [← hq]; refine kf5 ?_ Gr.out; exact HK.out⟩; clear hq; replace gz := five_ Bg.out; replace rz := five_ Br.out; refine bodyPost_ret (v := p.eval) (by simp [results, Try.results74, go_sem, rz, PV.eval]) rfl ?_; obtain ⟨op_, h1, h2⟩ := Ep.out; exact ⟨HK.out, p, hpx, rfl, h1.bound.mono (fun k hk => ⟨(h2 k hk.1).1, hk.2⟩), ⟨Bg.out, Kd.F_keep HT0.out HK.out (fun _ h => h)⟩⟩
section
variable {P : Program} {ops : Array Oper} {rest : List Oper} {o : Oper} {a : Act} {Q : Exit → Act → World → Prop}
theorem row_event {W : World} (hgd : o.guard = none) {N : Tmp} (_hd : o.dst = some N) {cs : Array Value} {t : TypeId} {m : Nat}
  (hrun : (execOp a.eval o).run P W = .ok (.value (.slice (some ⟨W.heap.size, 0, none⟩) m m)) (W.alloc (.cells cs t (0, 0))))
  (h : ∀ g, g = W.heap.size → ∀ w1, w1.heap[g]? = some (.cells cs t (0, 0)) → Below W.heap.size W w1 → wpList P ops Q rest (a.put o.dst (.slice (some ⟨g, 0, none⟩) m m)) w1) : wpList P ops Q (o :: rest) a W :=
 Kd.event_run hgd hrun (h _ rfl _ (blk_new W _) (below_alloc (xbr _ _) _))
end
theorem F_one {W : World} {nb : Nat} {p : PV} {ok : Nat → Prop} (h : W.heap[nb]? = some (b38 p.x.f0 p.x.f1 p.x.f2 p.x.f3 p.A p.x.f4.length p.c)) (hp : p.ok W ok) : Kd.F k38 W (fun k => ok k ∨ k = nb) (some ⟨nb, 0, none⟩) 1 [p.x] := fun W' hW => by
 have h' := (hW nb (.inr rfl) (blk_lt h)).trans h; exact C_blk (cs := [.int .i64 p.x.f0, .int .i64 p.x.f1, .string p.x.f2, .int .i64 p.x.f3, .slice p.A p.x.f4.length p.c]) h' (Reps.c5 (k38_mk W' p.x hp.2 (hp.1 W' (fun k hk hl => hW k (.inl hk) hl))) (Reps.none _ _)) (by show 1 ≤ _; omega)
structure SV where
 x : S41
 A3 : Option Addr
 c3 : Nat
 A4 : Option Addr
 c4 : Nat
 A5 : Option Addr
 c5 : Nat
def SV.val (p : SV) : Value := .agg #[.int .i64 p.x.f0, .string p.x.f1, .int .i64 p.x.f2, .slice p.A3 p.x.f3.length p.c3, .slice p.A4 p.x.f4.length p.c4, .slice p.A5 p.x.f5.length p.c5]
def SV.ok (W : World) (ok : Nat → Prop) (p : SV) : Prop := (Kd.F k38 W ok p.A3 p.x.f3.length p.x.f3 ∧ p.x.f3.length ≤ p.c3) ∧ (Kd.F k41 W ok p.A4 p.x.f4.length p.x.f4 ∧ p.x.f4.length ≤ p.c4) ∧ (Kd.F k41 W ok p.A5 p.x.f5.length p.x.f5 ∧ p.x.f5.length ≤ p.c5)
abbrev SRes := Except (Int × Int) (S41 × PSt)
def PStm (w : World) (g : Nat) (A : Option Addr) (c : Nat) (T : List S58) (r : SRes) (e : Ending) (w' : World) : Prop :=
 KeepBut w w' g none ∧ match r with
 | .ok (x, s) => ∃ p : SV, p.x = x ∧ e = .returned p.val ∧ p.ok w' (newO w w') ∧ RD w' g A c T s
 | .error (er, at_) => e = .panicked [stopV er at_]
theorem PStm.ok {w w' : World} {g : Nat} {A : Option Addr} {c : Nat} {T : List S58} {x : S41} {s : PSt} {e : Ending} (h : PStm w g A c T (.ok (x, s)) e w') : ∃ p : SV, e = .returned p.val ∧ p.x = x ∧ p.ok w' (newO w w') ∧ RD w' g A c T s ∧ KeepBut w w' g none := by
 obtain ⟨h1, p, h2, h4, h5, h6⟩ := h; exact ⟨p, h4, h2, h5, h6, h1⟩
theorem PStm.err {w w' : World} {g : Nat} {A : Option Addr} {c : Nat} {T : List S58} {er at_ : Int} {e : Ending} (h : PStm w g A c T (.error (er, at_)) e w') : e = .panicked [stopV er at_] ∧ KeepBut w w' g none := ⟨h.2, h.1⟩
def WorC (T : List S58) (f : PSt → S58 → Option SRes) : Prop := ∀ (s : PSt) (t : S58) (r : SRes) (g : Nat) (A : Option Addr) (c : Nat) (w : World), f s t = some r → RD w g A c T s → Calls Try.prog 75 #[.pointer (some ⟨g, 0, none⟩), .agg #[.int .i64 t.f0, .string t.f1, .int .i64 t.f2, .int .i64 t.f3]] w (PStm w g A c T r)
theorem WorC.use {T : List S58} {f : PSt → S58 → Option SRes} (h : WorC T f) (s : PSt) (t : S58) (r : SRes) (g : Nat) (A : Option Addr) (c : Nat) (w : World) (h1 : f s t = some r) (h2 : RD w g A c T s) : Calls Try.prog 75 #[.pointer (some ⟨g, 0, none⟩), .agg #[.int .i64 t.f0, .string t.f1, .int .i64 t.f2, .int .i64 t.f3]] w (PStm w g A c T r) := h s t r g A c w h1 h2
theorem SV.ok.step {W W1 : World} {ok : Nat → Prop} {p : SV} (h : p.ok W ok) (hm : ∀ k, ok k → k < W.heap.size → W1.heap[k]? = W.heap[k]?) : p.ok W1 ok := ⟨⟨Kd.F_step h.1.1 hm, h.1.2⟩, ⟨Kd.F_step h.2.1.1 hm, h.2.1.2⟩, ⟨Kd.F_step h.2.2.1 hm, h.2.2.2⟩⟩
theorem SV.ok.mono {W : World} {ok ok' : Nat → Prop} {p : SV} (h : p.ok W ok) (hm : ∀ k, ok k → ok' k) : p.ok W ok' := ⟨⟨Kd.F_mono h.1.1 hm, h.1.2⟩, ⟨Kd.F_mono h.2.1.1 hm, h.2.1.2⟩, ⟨Kd.F_mono h.2.2.1 hm, h.2.2.2⟩⟩
theorem SV.ok.bound {W : World} {ok : Nat → Prop} {p : SV} (h : p.ok W ok) : p.ok W (fun k => ok k ∧ k < W.heap.size) := ⟨⟨Kd.F_bound h.1.1, h.1.2⟩, ⟨Kd.F_bound h.2.1.1, h.2.1.2⟩, ⟨Kd.F_bound h.2.2.1, h.2.2.2⟩⟩
def StmC (T : List S58) (f : PSt → Option SRes) : Prop := ∀ (s : PSt) (r : SRes) (g : Nat) (A : Option Addr) (c : Nat) (w : World), f s = some r → RD w g A c T s → Calls Try.prog 47 #[.pointer (some ⟨g, 0, none⟩)] w (PStm w g A c T r)
theorem StmC.use {T : List S58} {f : PSt → Option SRes} (h : StmC T f) (s : PSt) (r : SRes) (g : Nat) (A : Option Addr) (c : Nat) (w : World) (h1 : f s = some r) (h2 : RD w g A c T s) : Calls Try.prog 47 #[.pointer (some ⟨g, 0, none⟩)] w (PStm w g A c T r) := h s r g A c w h1 h2
theorem one_ {w : World} {g : Nat} {t : TypeId} {a0 : Value} (h : w.heap[g]? = some (.cells #[a0] t (0, 0))) : w.cell? ⟨g, 0, none⟩ = some a0 ∧ w.frozen? ⟨g, 0, none⟩ = false := ⟨xbc h 0, xbz h 0⟩
def CutC (s : ByteArray) (r : Except (Int × Int) (List S58)) : Prop := ∀ w : World, Calls Try.prog 36 #[.string s] w fun e w' => Below w.heap.size w w' ∧ match r with
 | .ok T => ∃ A c, e = .returned (.tuple #[.slice A T.length c, .int .i64 0, .int .i64 0]) ∧ Kd.F k58 w' (newO w w') A T.length T
 | .error (er, at_) => e = .returned (.tuple #[.slice none 0 0, .int .i64 at_, .int .i64 er])
theorem CutC.use {s : ByteArray} {T : List S58} (h : CutC s (.ok T)) (w : World) : Calls Try.prog 36 #[.string s] w fun e w' => ∃ A c, e = .returned (.tuple #[.slice A T.length c, .int .i64 0, .int .i64 0]) ∧ Kd.F k58 w' (newO w w') A T.length T ∧ Below w.heap.size w w' := (h w).mono fun e w' h => by obtain ⟨h1, A, c, h2, h3⟩ := h; exact ⟨A, c, h2, h3, h1⟩
theorem CutC.err {s : ByteArray} {er at_ : Int} (h : CutC s (.error (er, at_))) (w : World) : Calls Try.prog 36 #[.string s] w fun e w' => e = .returned (.tuple #[.slice none 0 0, .int .i64 at_, .int .i64 er]) ∧ Below w.heap.size w w' := (h w).mono fun e w' h => ⟨h.2, h.1⟩
def SV.cs (p : SV) : List Value := [.int .i64 p.x.f0, .string p.x.f1, .int .i64 p.x.f2, .slice p.A3 p.x.f3.length p.c3, .slice p.A4 p.x.f4.length p.c4, .slice p.A5 p.x.f5.length p.c5]
def z6L : List Value := [.int .i64 0, .string (⟨#[]⟩ : ByteArray), .int .i64 0, .slice none 0 0, .slice none 0 0, .slice none 0 0]
def zV41 : Value := .agg #[.int .i64 0, .string (⟨#[]⟩ : ByteArray), .int .i64 0, .slice none 0 0, .slice none 0 0, .slice none 0 0]
theorem inf41 : (Try.prog.info? 41).map (fun i => (i.zero, i.size, i.bytes)) = some (some zV41, 6, 104) := by kernel_rfl
theorem flat6 : ∀ xs : List SV, (xs.flatMap SV.cs).length = xs.length * 6
 | [] => rfl
 | x :: xs => by rw [List.flatMap_cons, List.length_append, flat6 xs, List.length_cons]; show 6 + xs.length * 6 = _; omega
theorem set_app {α : Type} (l m : List α) (n i : Nat) (u : α) (h : l.length = n) : (l ++ m).set (n + i) u = l ++ m.set i u := by
 rw [List.set_append_right _ _ (by omega)]; congr 1; congr 1; omega
theorem set6 (l : List Value) (n : Nat) (h : l.length = n) (a0 a1 a2 a3 a4 a5 b0 b1 b2 b3 b4 b5 : Value) : ((((((l ++ [a0, a1, a2, a3, a4, a5]).set (n + 0) b0).set (n + 1) b1).set (n + 2) b2).set (n + 3) b3).set (n + 4) b4).set (n + 5) b5 = l ++ [b0, b1, b2, b3, b4, b5] := by
 simp only [set_app _ _ _ _ _ h, List.set_cons_zero, List.set_cons_succ]
structure PI (w W : World) (g : Nat) (A : Option Addr) (c : Nat) (T : List S58) (s : PSt) (v : Value) (xs : List SV) : Prop where
 bk : W.heap[g]? = some (b79 A T.length c s.at_ s.nodes s.op s.bl)
 tk : ∃ o : Nat → Prop, Kd.F k58 W o A T.length T ∧ ∀ k, o k → w.heap.size + 3 ≤ k ∧ k ≠ g ∧ v.ownBlock ≠ some k
 bl : W.heap[w.heap.size]? = some (.cells #[v] 22 (0, 0))
 ba : W.heap[w.heap.size + 1]? = some (.cells #[.int .i64 0] 3 (0, 0))
 be : W.heap[w.heap.size + 2]? = some (.cells #[.int .i64 0] 24 (0, 0))
 row : W.ownsRow w.heap.size 41 6 v xs.length (xs.flatMap SV.cs)
 el : ∃ o : Nat → Prop, (∀ x ∈ xs, x.ok W o) ∧ ∀ k, o k → w.heap.size + 3 ≤ k ∧ k ≠ g ∧ v.ownBlock ≠ some k
 bw : Below w.heap.size w W
 hg : w.heap.size + 3 ≤ g
theorem PI.rd {w W : World} {g : Nat} {A : Option Addr} {c : Nat} {T : List S58} {s : PSt} {v : Value} {xs : List SV} (h : PI w W g A c T s v xs) : RD W g A c T s := by
 obtain ⟨o, h1, h2⟩ := h.tk; exact ⟨h.bk, Kd.F_mono h1 (fun k hk => (h2 k hk).2.1)⟩
theorem PI.same {w W W1 : World} {g : Nat} {A : Option Addr} {c : Nat} {T : List S58} {s : PSt} {v : Value} {xs : List SV} (h : PI w W g A c T s v xs) (b : ∀ k, k < W.heap.size → W1.heap[k]? = W.heap[k]?) (bw : Below w.heap.size w W1) : PI w W1 g A c T s v xs := by
 obtain ⟨o, h1, h2⟩ := h.tk; obtain ⟨o', h3, h4⟩ := h.el; exact ⟨(b g (blk_lt h.bk)).trans h.bk, ⟨o, Kd.F_step h1 (fun k _ hl => b k hl), h2⟩, (b _ (blk_lt h.bl)).trans h.bl, (b _ (blk_lt h.ba)).trans h.ba, (b _ (blk_lt h.be)).trans h.be, own_step h.row (fun k hk => b k (own_lt h.row k hk)), ⟨o', fun x hx => (h3 x hx).step (fun k _ hl => b k hl), h4⟩, bw, h.hg⟩
theorem PI.below {w W W1 : World} {g : Nat} {A : Option Addr} {c : Nat} {T : List S58} {s : PSt} {v : Value} {xs : List SV} (h : PI w W g A c T s v xs) (b : Below W.heap.size W W1) : PI w W1 g A c T s v xs := h.same (fun k hk => b.block k hk) (xbs h.bw b)
theorem PI.alloc {w W : World} {g : Nat} {A : Option Addr} {c : Nat} {T : List S58} {s : PSt} {v : Value} {xs : List SV} (h : PI w W g A c T s v xs) (o : Obj) : PI w (W.alloc o) g A c T s v xs := h.below (below_alloc (xbr _ _) o)
theorem PI.drewN {w W : World} {g : Nat} {A : Option Addr} {c : Nat} {T : List S58} {s : PSt} {v : Value} {xs : List SV} (h : PI w W g A c T s v xs) (m : Nat) : PI w (W.drewN m) g A c T s v xs := h.below (pw_below_drewN (xbr _ _) m)
theorem PI.drew {w W : World} {g : Nat} {A : Option Addr} {c : Nat} {T : List S58} {s : PSt} {v : Value} {xs : List SV} (h : PI w W g A c T s v xs) : PI w W.drew g A c T s v xs := h.below (below_drew (xbr _ _))
theorem own_ne_blk {w W : World} {g : Nat} {A : Option Addr} {c : Nat} {T : List S58} {s : PSt} {v : Value} {xs : List SV} (h : PI w W g A c T s v xs) : v.ownBlock ≠ some g ∧ v.ownBlock ≠ some w.heap.size ∧ v.ownBlock ≠ some (w.heap.size + 1) ∧ v.ownBlock ≠ some (w.heap.size + 2) :=
 ⟨fun e => own_ne h.row h.bk (by decide) e.symm, fun e => own_ne h.row h.bl (by decide) e.symm, fun e => own_ne h.row h.ba (by decide) e.symm, fun e => own_ne h.row h.be (by decide) e.symm⟩
theorem PI.call {w W W1 : World} {g : Nat} {A : Option Addr} {c : Nat} {T : List S58} {s s1 : PSt} {v : Value} {xs : List SV} (h : PI w W g A c T s v xs) (hk : KeepBut W W1 g none) (hx : RD W1 g A c T s1) : PI w W1 g A c T s1 v xs := by
 obtain ⟨o, h1, h2⟩ := h.tk; obtain ⟨o', h3, h4⟩ := h.el; have hgw := h.hg; have kk : ∀ k, k < W.heap.size → k ≠ g → W1.heap[k]? = W.heap[k]? := fun k hl hne => hk.2 k hl hne (by simp); refine ⟨hx.bk, ⟨o, Kd.F_step h1 (fun k ho hl => kk k hl (h2 k ho).2.1), h2⟩, (kk _ (blk_lt h.bl) (by omega)).trans h.bl, (kk _ (blk_lt h.ba) (by omega)).trans h.ba, (kk _ (blk_lt h.be) (by omega)).trans h.be, own_step h.row (fun k hv => kk k (own_lt h.row k hv) (fun e => (own_ne_blk h).1 (by rw [hv, e]))), ⟨o', fun x hx => (h3 x hx).step (fun k ho hl => kk k hl (h4 k ho).2.1), h4⟩, ?_, hgw⟩; exact ⟨hk.1.1.trans h.bw.os, hk.1.2.1.trans h.bw.tape, hk.1.2.2.1.trans h.bw.output, Nat.le_trans h.bw.size hk.size, fun k hl => (kk k (Nat.lt_of_lt_of_le hl h.bw.size) (by omega)).trans (h.bw.block k hl)⟩
theorem PI.cells {w W : World} {g : Nat} {A : Option Addr} {c : Nat} {T : List S58} {s : PSt} {v : Value} {xs : List SV} (h : PI w W g A c T s v xs) : (W.cell? ⟨w.heap.size, 0, none⟩ = some v ∧ W.cell? ⟨w.heap.size + 1, 0, none⟩ = some (.int .i64 0) ∧ W.cell? ⟨w.heap.size + 2, 0, none⟩ = some (.int .i64 0)) ∧ W.frozen? ⟨w.heap.size, 0, none⟩ = false ∧ W.frozen? ⟨w.heap.size + 1, 0, none⟩ = false ∧ W.frozen? ⟨w.heap.size + 2, 0, none⟩ = false :=
 ⟨⟨(one_ h.bl).1, (one_ h.ba).1, (one_ h.be).1⟩, (one_ h.bl).2, (one_ h.ba).2, (one_ h.be).2⟩
theorem PI.fin {w W w1 W2 : World} {g : Nat} {A : Option Addr} {c : Nat} {T : List S58} {s : PSt} {v v1 : Value} {xs : List SV} {x : SV} {ox : Nat → Prop} (h : PI w W g A c T s v xs)
  (hx : x.ok W ox) (hox : ∀ k, ox k → w.heap.size + 3 ≤ k ∧ k ≠ g ∧ v.ownBlock ≠ some k) (hg : W.grownBy w1 v.ownBlock) (hv : v1.ownBlock = v.ownBlock ∨ ∃ b, v1.ownBlock = some b ∧ W.heap.size ≤ b)
  (hl : W2.heap[w.heap.size]? = some (.cells #[v1] 22 (0, 0))) (hr : W2.ownsRow w.heap.size 41 6 v1 (xs.length + 1) (xs.flatMap SV.cs ++ x.cs))
  (hk : ∀ k, k ≠ w.heap.size → v1.ownBlock ≠ some k → W2.heap[k]? = w1.heap[k]?) (hb : Below w.heap.size w W2) : PI w W2 g A c T s v1 (xs ++ [x]) := by
 obtain ⟨o, h1, h2⟩ := h.tk; obtain ⟨o', h3, h4⟩ := h.el; have hgw := h.hg; have n0 := own_ne_blk h
 have nv : ∀ k, k < W.heap.size → v.ownBlock ≠ some k → v1.ownBlock ≠ some k := fun k hl hne e => by
  rcases hv with hv | ⟨b, hb, hle⟩
  ·exact hne (hv ▸ e)
  ·rw [hb] at e; injection e with e; omega
 have kk : ∀ k, k < W.heap.size → k ≠ w.heap.size → v.ownBlock ≠ some k → W2.heap[k]? = W.heap[k]? := fun k hl hne ho => (hk k hne (nv k hl ho)).trans (hg.block k hl (fun e => ho e.symm))
 refine ⟨(kk g (blk_lt h.bk) (by omega) n0.1).trans h.bk, ⟨fun k => o k ∧ k < W.heap.size, Kd.F_step (Kd.F_bound h1) (fun k hk hl => kk k hl (by have := h2 k hk.1; omega) (h2 k hk.1).2.2), fun k hk => ⟨(h2 k hk.1).1, (h2 k hk.1).2.1, nv k hk.2 (h2 k hk.1).2.2⟩⟩, hl,
  (kk _ (blk_lt h.ba) (by omega) n0.2.2.1).trans h.ba, (kk _ (blk_lt h.be) (by omega) n0.2.2.2).trans h.be, ?_, ⟨fun k => (o' k ∨ ox k) ∧ k < W.heap.size, ?_, ?_⟩, hb, hgw⟩
 ·rw [List.length_append, List.flatMap_append]
  simpa using hr
 ·intro y hy
  rcases List.mem_append.1 hy with hy | hy
  ·exact ((h3 y hy).bound.step (fun k hk hl => kk k hl (by have := h4 k hk.1; omega) (h4 k hk.1).2.2)).mono (fun k hk => ⟨.inl hk.1, hk.2⟩)
  ·obtain rfl := List.mem_singleton.1 hy
   exact (hx.bound.step (fun k hk hl => kk k hl (by have := hox k hk.1; omega) (hox k hk.1).2.2)).mono (fun k hk => ⟨.inr hk.1, hk.2⟩)
 ·rintro k ⟨hk | hk, hl⟩
  ·exact ⟨(h4 k hk).1, (h4 k hk).2.1, nv k hl (h4 k hk).2.2⟩
  ·exact ⟨(hox k hk).1, (hox k hk).2.1, nv k hl (hox k hk).2.2⟩
theorem PI.finA {w W w1 : World} {g gb cap : Nat} {A : Option Addr} {c : Nat} {T : List S58} {s : PSt} {v : Value} {xs : List SV} {x : SV} {ox : Nat → Prop} (h : PI w W g A c T s v xs)
  (hx : x.ok W ox) (hox : ∀ k, ox k → w.heap.size + 3 ≤ k ∧ k ≠ g ∧ v.ownBlock ≠ some k) (hg : W.grownBy w1 v.ownBlock) (hv : v.ownBlock = some gb ∨ W.heap.size ≤ gb)
  (ho : w1.ownsRow w.heap.size 41 6 (.slice (some ⟨gb, 0, none⟩) (xs.length + 1) cap) (xs.length + 1) (xs.flatMap SV.cs ++ z6L)) :
  PI w (((((((w1.setCell ⟨gb, xs.length * 6 + 0, none⟩ (.int .i64 x.x.f0)).setCell ⟨gb, xs.length * 6 + 1, none⟩ (.string x.x.f1)).setCell ⟨gb, xs.length * 6 + 2, none⟩ (.int .i64 x.x.f2)).setCell ⟨gb, xs.length * 6 + 3, none⟩ (.slice x.A3 x.x.f3.length x.c3)).setCell ⟨gb, xs.length * 6 + 4, none⟩ (.slice x.A4 x.x.f4.length x.c4)).setCell ⟨gb, xs.length * 6 + 5, none⟩ (.slice x.A5 x.x.f5.length x.c5)).setCell ⟨w.heap.size, 0, none⟩ (.slice (some ⟨gb, 0, none⟩) (xs.length + 1) cap)) g A c T s (.slice (some ⟨gb, 0, none⟩) (xs.length + 1) cap) (xs ++ [x]) := by
 have n0 := own_ne_blk h; have hbl := blk_lt h.bl
 have hbw : w.heap.size ≤ gb := by
  rcases hv with hv | hv
  ·exact own_base h.row gb hv
  ·have := h.bw.size; omega
 have hne : gb ≠ w.heap.size := by
  rcases hv with hv | hv
  ·intro e; exact n0.2.1 (by rw [hv, e])
  ·omega
 have r0 := ho.stored (xs.length * 6 + 0) (.int .i64 x.x.f0); have r1 := r0.1.stored (xs.length * 6 + 1) (.string x.x.f1); have r2 := r1.1.stored (xs.length * 6 + 2) (.int .i64 x.x.f2); have r3 := r2.1.stored (xs.length * 6 + 3) (.slice x.A3 x.x.f3.length x.c3); have r4 := r3.1.stored (xs.length * 6 + 4) (.slice x.A4 x.x.f4.length x.c4); have r5 := r4.1.stored (xs.length * 6 + 5) (.slice x.A5 x.x.f5.length x.c5); have hb1 : Below w.heap.size w w1 := h.bw.grown hg (by omega) (own_base h.row); have hbl1 : w1.heap[w.heap.size]? = some (.cells #[v] 22 (0, 0)) := blk_grown h.bl hg (fun e => n0.2.1 e.symm); refine h.fin hx hox hg (by rcases hv with hv | hv; exact .inl hv.symm; exact .inr ⟨gb, rfl, hv⟩) (blk_put (cs := #[v]) ?_ 0 _ rfl) ?_ ?_ ?_
 ·refine blk_far ?_ (Ne.symm hne) _; refine blk_far ?_ (Ne.symm hne) _; refine blk_far ?_ (Ne.symm hne) _; refine blk_far ?_ (Ne.symm hne) _; refine blk_far ?_ (Ne.symm hne) _; refine blk_far ?_ (Ne.symm hne) _; exact hbl1
 ·have e6 := set6 (xs.flatMap SV.cs) (xs.length * 6) (flat6 xs) (.int .i64 0) (.string (⟨#[]⟩ : ByteArray)) (.int .i64 0) (.slice none 0 0) (.slice none 0 0) (.slice none 0 0) (.int .i64 x.x.f0) (.string x.x.f1) (.int .i64 x.x.f2) (.slice x.A3 x.x.f3.length x.c3) (.slice x.A4 x.x.f4.length x.c4) (.slice x.A5 x.x.f5.length x.c5)
  have r := r5.1; unfold z6L at r; rw [e6] at r; exact own_setCell r (p := ⟨w.heap.size, 0, none⟩) (by simp only [Value.ownBlock]; intro e; injection e with e; exact hne e.symm) _
 ·intro k hk1 hk2
  have hkg : k ≠ gb := fun e => hk2 (by rw [e]; rfl); rw [Below.heap_setCell _ _ _ k hk1]
  (iterate 6 rw [Below.heap_setCell _ _ _ k (by show k ≠ gb; exact hkg)])
 ·exact Below.setCell (Below.setCell (Below.setCell (Below.setCell (Below.setCell (Below.setCell (Below.setCell hb1 hbw _) hbw _) hbw _) hbw _) hbw _) hbw _) (xlr _) _
theorem setCell_comm (w : World) (a b : Addr) (u v : Value) (h : a.block ≠ b.block) : (w.setCell a u).setCell b v = (w.setCell b v).setCell a u := by
 unfold World.setCell; simp only
 congr 1
 apply Array.ext
 ·simp
 ·intro i h1 h2
  simp only [Array.getElem_modify]; by_cases ha : a.block = i
  ·by_cases hb : b.block = i
   ·exact absurd (ha.trans hb.symm) h
   ·simp [ha, hb]
  ·by_cases hb : b.block = i <;> simp [ha, hb]
abbrev Er := Int × Int
def wantK {α : Type} (T : List S58) (s : PSt) (tx : ByteArray) (k : S58 → PSt → Option (Except Er α)) : Option (Except Er α) :=
 if 0 ≤ s.at_ ∧ s.at_ < T.length then (if isB (rd_T58 T s.at_) tx = true then k (rd_T58 T s.at_) ⟨s.at_ + 1, s.nodes, s.op, s.bl⟩ else some (.error (40, (rd_T58 T s.at_).f3))) else none
theorem wantK_some {α : Type} {T : List S58} {s : PSt} {tx : ByteArray} {k : S58 → PSt → Option (Except Er α)} {r : Except Er α} (h : wantK T s tx k = some r) :
  (0 ≤ s.at_ ∧ s.at_ < T.length) ∧ ((isB (rd_T58 T s.at_) tx = true ∧ k (rd_T58 T s.at_) ⟨s.at_ + 1, s.nodes, s.op, s.bl⟩ = some r) ∨ (isB (rd_T58 T s.at_) tx = false ∧ r = .error (40, (rd_T58 T s.at_).f3))) := by
 unfold wantK at h; by_cases hg : 0 ≤ s.at_ ∧ s.at_ < T.length
 ·rw [if_pos hg] at h
  refine ⟨hg, ?_⟩
  cases hq : isB (rd_T58 T s.at_) tx with
  | true => rw [if_pos hq] at h; exact .inl ⟨rfl, h⟩
  | false => rw [if_neg (by rw [hq]; simp)] at h; exact .inr ⟨rfl, (xsi h).symm⟩
 ·rw [if_neg hg] at h; cases h
def enterK {α : Type} (s : PSt) (t3 : Int) (k : PSt → Option (Except Er α)) : Option (Except Er α) :=
 if 0 ≤ s.op ∧ s.op ≤ 48 then (if 48 < s.op + 1 then some (.error (41, t3)) else k ⟨s.at_, s.nodes, s.op + 1, s.bl⟩) else none
theorem enterK_some {α : Type} {s : PSt} {t3 : Int} {k : PSt → Option (Except Er α)} {r : Except Er α} (h : enterK s t3 k = some r) :
  (0 ≤ s.op ∧ s.op ≤ 48) ∧ ((¬ 48 < s.op + 1 ∧ k ⟨s.at_, s.nodes, s.op + 1, s.bl⟩ = some r) ∨ (48 < s.op + 1 ∧ r = .error (41, t3))) := by
 unfold enterK at h; by_cases hg : 0 ≤ s.op ∧ s.op ≤ 48
 ·rw [if_pos hg] at h
  refine ⟨hg, ?_⟩
  by_cases hq : 48 < s.op + 1
  ·rw [if_pos hq] at h; exact z_69
  ·rw [if_neg hq] at h; exact .inl ⟨hq, h⟩
 ·rw [if_neg hg] at h; cases h
def leaveK {α : Type} (T : List S58) (s : PSt) (tx : ByteArray) (k : PSt → Option (Except Er α)) : Option (Except Er α) :=
 if (0 ≤ s.at_ ∧ s.at_ < T.length) ∧ 1 ≤ s.op ∧ s.op ≤ 100 then (if isB (rd_T58 T s.at_) tx = true then k ⟨s.at_ + 1, s.nodes, s.op - 1, s.bl⟩ else some (.error (40, (rd_T58 T s.at_).f3))) else none
theorem leaveK_some {α : Type} {T : List S58} {s : PSt} {tx : ByteArray} {k : PSt → Option (Except Er α)} {r : Except Er α} (h : leaveK T s tx k = some r) :
  ((0 ≤ s.at_ ∧ s.at_ < T.length) ∧ 1 ≤ s.op ∧ s.op ≤ 100) ∧ ((isB (rd_T58 T s.at_) tx = true ∧ k ⟨s.at_ + 1, s.nodes, s.op - 1, s.bl⟩ = some r) ∨ (isB (rd_T58 T s.at_) tx = false ∧ r = .error (40, (rd_T58 T s.at_).f3))) := by
 unfold leaveK at h; by_cases hg : (0 ≤ s.at_ ∧ s.at_ < T.length) ∧ 1 ≤ s.op ∧ s.op ≤ 100
 ·rw [if_pos hg] at h
  refine ⟨hg, ?_⟩
  cases hq : isB (rd_T58 T s.at_) tx with
  | true => rw [if_pos hq] at h; exact .inl ⟨rfl, h⟩
  | false => rw [if_neg (by rw [hq]; simp)] at h; exact .inr ⟨rfl, (xsi h).symm⟩
 ·rw [if_neg hg] at h; cases h
def exK {α β : Type} (o : Option (Except Er (β × PSt))) (k : β → PSt → Option (Except Er α)) : Option (Except Er α) :=
 match o with
 | none => none
 | some (.error e) => some (.error e)
 | some (.ok (p, s)) => k p s
theorem exK_some {α β : Type} {o : Option (Except Er (β × PSt))} {k : β → PSt → Option (Except Er α)} {r : Except Er α} (h : exK o k = some r) :
  (∃ er at_, o = some (.error (er, at_)) ∧ r = .error (er, at_)) ∨ (∃ p s, o = some (.ok (p, s)) ∧ k p s = some r) := by
 rcases o with _ | ⟨er, at_⟩ | ⟨p, s⟩
 ·cases h
 ·exact .inl ⟨er, at_, rfl, (xsi h).symm⟩
 ·exact .inr ⟨p, s, rfl, h⟩
def nodeK (s : PSt) (t3 : Int) (k nm : Int) (st : ByteArray) (op : Int) (ps : List (S38 × Int)) : Option Res :=
 if (0 ≤ s.nodes ∧ s.nodes ≤ 600) ∧ ∀ p ∈ ps, 0 ≤ p.2 ∧ p.2 ≤ 48 then some (nodeQ s t3 k nm st op ps) else none
theorem nodeK_some {s : PSt} {t3 : Int} {k nm : Int} {st : ByteArray} {op : Int} {ps : List (S38 × Int)} {r : Res} (h : nodeK s t3 k nm st op ps = some r) :
  (0 ≤ s.nodes ∧ s.nodes ≤ 600) ∧ (∀ p ∈ ps, 0 ≤ p.2 ∧ p.2 ≤ 48) ∧ nodeQ s t3 k nm st op ps = r := by
 unfold nodeK at h; by_cases hg : (0 ≤ s.nodes ∧ s.nodes ≤ 600) ∧ ∀ p ∈ ps, 0 ≤ p.2 ∧ p.2 ≤ 48
 ·rw [if_pos hg] at h
  exact ⟨hg.1, hg.2, xsi h⟩
 ·rw [if_neg hg] at h; cases h
def callS (T : List S58) (ab : Int → PSt → Option Res) (t3 : Int) (op : Int) (s : PSt) : Option Res :=
 if 0 ≤ s.at_ ∧ s.at_ < T.length then
  wantK T ⟨s.at_ + 1, s.nodes, s.op, s.bl⟩ ⟨#[40]⟩ fun o s1 => enterK s1 o.f3 fun s2 => exK (ab 1 s2) fun p s3 => wantK T s3 ⟨#[44]⟩ fun _ s4 => exK (ab 1 s4) fun y s5 => leaveK T s5 ⟨#[41]⟩ fun s6 => nodeK s6 t3 5 0 ⟨#[]⟩ op [p, y]
 else none
theorem PRow.one {W : World} {qb : Nat} {p : PV} (h : W.heap[qb]? = some (.cells #[.int .i64 p.x.f0, .int .i64 p.x.f1, .string p.x.f2, .int .i64 p.x.f3, .slice p.A p.x.f4.length p.c, .int .i64 p.d] 137 (0, 0))) : PRow W (some ⟨qb, 0, none⟩) [p] := by
 intro j z hj hz
 have h2 : j.toNat = 0 := by
  rcases Nat.lt_or_ge j.toNat 1 with q | q
  ·omega
  ·rw [List.getElem?_eq_none (by simpa using q)] at hz; cases hz
 rw [h2] at hz ⊢; injection hz with hz; subst hz; exact z_70
theorem call_L (T : List S58) (ab : Int → PSt → Option Res) (AC0 : AboC T ab) (t0 : Int) (t1 : ByteArray) (t2 t3 op a n q b : Int) (r : Res) (g : Nat) (A : Option Addr) (c : Nat) (w : World) (h : callS T ab t3 op ⟨a, n, q, b⟩ = some r) (hrd : RD w g A c T ⟨a, n, q, b⟩) :
    Calls Try.prog 138 #[.pointer (some ⟨g, 0, none⟩), .agg #[.int .i64 t0, .string t1, .int .i64 t2, .int .i64 t3], .int .i64 op] w (PPart w g A c T r) := by
  have AC := A_0 AC0; clear AC0; unfold callS at h; by_cases hg : 0 ≤ a ∧ a < T.length
  rotate_left
  · rw [if_neg hg] at h; cases h
  rw [if_pos hg] at h; obtain ⟨h0, h1⟩ := hg; dsimp only at h; have HL := A_0 h; clear h; have HT0 := A_0 hrd.tk; have hmx := hrd.max; have Bg : Aside0 (w.heap[g]? = some (b79 A T.length c a n q b)) := ⟨hrd.bk⟩; have HK := A_0 (KeepBut.refl w g none); have HLT := A_0 hrd.lt; clear hrd; have gz := five_ Bg.out; have hwa : wrap64 (a + 1) = a + 1 := by unfold wrap64; omega
  clear h0 h1
  go_enter Try.func138, Try.ntmps138
  go_wp2_with (first | ((with_reducible refine gate_dst (N := 4) rfl ?_); refine bx (a58 t0 t1 t2 t3) 58 ?_; intro tb hg wt hbox hb; have Bt := A_0 hbox; have Gt := A_0 (show w.heap.size ≤ tb by rw [hg]; exact keep_size HK.out); replace HK := xk1 HK hb; have htg := (show tb ≠ g by rw [hg]; exact z_71); have hgt := Ne.symm htg; replace Bg := xk4 Bg hb; clear hb hbox hg; replace gz := five_ Bg.out; have tz := four Bt.out) | ((with_reducible refine gate_dst (N := 6) rfl ?_); refine bx #[.int .i64 0, .int .i64 0, .string (⟨#[]⟩ : ByteArray), .int .i64 0, .slice none 0 0, .int .i64 0] 137 ?_; intro rb hg wr hbox hb; have Br := A_0 hbox; have Gr := A_0 (show w.heap.size ≤ rb by rw [hg]; exact keep_size HK.out); replace HK := xk1 HK hb; have hrg := (show rb ≠ g by rw [hg]; exact z_71); have hgr := Ne.symm hrg; replace Bg := xk4 Bg hb; have hrt := (show rb ≠ tb by rw [hg]; exact z_72); have htr := Ne.symm hrt; replace Bt := xk4 Bt hb; clear hb hbox hg; replace gz := five_ Bg.out; replace tz := four Bt.out; have rz := sixc Br.out))
  generalize hq_ : World.setCell _ ⟨g, 1, none⟩ _ = wa; have hq := hq_; clear hq_; replace Bg : Aside0 (wa.heap[g]? = some (b79 A T.length c (a + 1) n q b)) := ⟨z_73⟩; replace Bt : Aside0 (wa.heap[tb]? = some (b58 t0 t1 t2 t3)) := ⟨z_74⟩; replace Br : Aside0 (wa.heap[rb]? = some (.cells #[.int .i64 0, .int .i64 0, .string (⟨#[]⟩ : ByteArray), .int .i64 0, .slice none 0 0, .int .i64 0] 137 (0, 0))) := ⟨z_75⟩; replace HK : Aside0 (KeepBut w wa g none) := ⟨z_76⟩; clear hq; replace gz := five_ Bg.out; replace tz := four Bt.out; replace rz := sixc Br.out; clear hwa; obtain ⟨⟨h0, h1⟩, hcase⟩ := wantK_some HL.out; clear HL; dsimp only at h0 h1 hcase; rcases hcase with ⟨hq, h⟩ | ⟨hq, rfl⟩
  rotate_left
  · (with_reducible refine (want_L g A c T ((a + 1)) n q b _ ⟨#[40]⟩ (⟨Bg.out, Kd.F_keep HT0.out HK.out (fun _ h => h)⟩ : RD _ g A c T _) h0 h1).mono ?_)
    intro e wn hp; unfold wantP at hp; rw [if_neg (by rw [hq]; simp)] at hp; obtain ⟨rfl, hk⟩ := hp.err; exact z_77
  (with_reducible refine (want_L g A c T ((a + 1)) n q b _ ⟨#[40]⟩ (⟨Bg.out, Kd.F_keep HT0.out HK.out (fun _ h => h)⟩ : RD _ g A c T _) h0 h1).mono ?_)
  intro e wn hp; unfold wantP at hp; rw [if_pos hq] at hp; obtain ⟨rfl, hx, hk⟩ := hp.ok; generalize rd_T58 T ((a + 1)) = o at *; obtain ⟨o0, o1, o2, o3⟩ := o; have HL := A_0 h; clear hp hq h h0 h1; unfold tokV; replace Bg : Aside0 (wn.heap[g]? = some (b79 A T.length c ((a + 1) + 1) n q b)) := ⟨hx.bk⟩; replace Bt := xk2 hk Bt htg; replace Br := xk2 hk Br hrg; replace HK := xk3 HK hk; clear hk hx; replace gz := five_ Bg.out; replace tz := four Bt.out; replace rz := sixc Br.out
  go_wp2_with fail
  obtain ⟨⟨h0, h1⟩, hcase⟩ := enterK_some HL.out; clear HL; dsimp only at h0 h1 hcase; rcases hcase with ⟨hq, h⟩ | ⟨hq, rfl⟩
  rotate_left
  · (with_reducible refine (enter_L g A c T (((a + 1) + 1)) n q b _ o0 o1 o2 o3 (⟨Bg.out, Kd.F_keep HT0.out HK.out (fun _ h => h)⟩ : RD _ g A c T _) h0 h1).mono ?_)
    intro e wn hp; unfold enterP at hp; rw [if_pos hq] at hp; obtain ⟨rfl, hk⟩ := hp.err; exact z_77
  (with_reducible refine (enter_L g A c T (((a + 1) + 1)) n q b _ o0 o1 o2 o3 (⟨Bg.out, Kd.F_keep HT0.out HK.out (fun _ h => h)⟩ : RD _ g A c T _) h0 h1).mono ?_)
  intro e wn hp; unfold enterP at hp; rw [if_neg hq] at hp; obtain ⟨rfl, hx, hk⟩ := hp.ok; have HL := A_0 h; clear hp hq h h0 h1; unfold unitV; replace Bg : Aside0 (wn.heap[g]? = some (b79 A T.length c ((a + 1) + 1) n (q + 1) b)) := ⟨hx.bk⟩; replace Bt := xk2 hk Bt htg; replace Br := xk2 hk Br hrg; replace HK := xk3 HK hk; clear hk hx; replace gz := five_ Bg.out; replace tz := four Bt.out; replace rz := sixc Br.out
  go_wp2_with fail
  have HSZ := A_0 (show w.heap.size ≤ wn.heap.size ∧ tb < wn.heap.size ∧ rb < wn.heap.size from ⟨keep_size HK.out, blk_lt Bt.out, blk_lt Br.out⟩); rcases exK_some HL.out with ⟨er, at_, hab, rfl⟩ | ⟨p0, s1, hab, h⟩
  · (with_reducible refine (AC.out.use 1 ⟨((a + 1) + 1), n, (q + 1), b⟩ (.error (er, at_)) g A c _ hab (⟨Bg.out, Kd.F_keep HT0.out HK.out (fun _ h => h)⟩ : RD _ g A c T _)).mono ?_)
    intro e wn hp; obtain ⟨rfl, hk⟩ := PPartO.err hp; exact z_77
  (with_reducible refine (AC.out.use 1 ⟨((a + 1) + 1), n, (q + 1), b⟩ (.ok (p0, s1)) g A c _ hab (⟨Bg.out, Kd.F_keep HT0.out HK.out (fun _ h => h)⟩ : RD _ g A c T _)).mono ?_)
  intro e wn hp; obtain ⟨p, rfl, hpx, hpo, hx, hk⟩ := PPartO.ok hp; clear hp hab HL; subst hpx; have HL := A_0 h; clear h; obtain ⟨a1, n1, q1, b1⟩ := s1; unfold PV.val; replace Bg : Aside0 (wn.heap[g]? = some (b79 A T.length c a1 n1 q1 b1)) := ⟨hx.bk⟩; replace Bt := xk2 hk Bt htg; replace Br := xk2 hk Br hrg; replace HK := xk3 HK hk; clear gz tz rz hk hx; have gz := five_ Bg.out; have tz := four Bt.out; have rz := sixc Br.out; have Ep : Aside0 (∃ op_ : Nat → Prop, PV.ok wn op_ p ∧ ∀ k, op_ k → w.heap.size ≤ k ∧ k ≠ tb ∧ k ≠ rb) := ⟨⟨_, hpo, fun k hk => by have := hk.1; have := HSZ.out; omega⟩⟩
  clear HSZ hpo; go_upto_region 4 with (first | ((with_reducible refine gate_dst (N := 7) rfl ?_); refine bx #[.int .i64 0, .int .i64 0, .string (⟨#[]⟩ : ByteArray), .int .i64 0, .slice none 0 0, .int .i64 0] 137 ?_; intro pb hg wp hbox hb; replace Ep : Aside0 (∃ op_ : Nat → Prop, PV.ok wp op_ p ∧ ∀ k, op_ k → w.heap.size ≤ k ∧ k ≠ tb ∧ k ≠ rb ∧ k ≠ pb) := ⟨z_78⟩; have Bp := A_0 hbox; have Gp := A_0 (show w.heap.size ≤ pb by rw [hg]; exact keep_size HK.out); replace HK := xk1 HK hb; have hpg := (show pb ≠ g by rw [hg]; exact z_71); have hgp := Ne.symm hpg; replace Bg := xk4 Bg hb; have hpt := (show pb ≠ tb by rw [hg]; exact z_72); have htp := Ne.symm hpt; replace Bt := xk4 Bt hb; have hpr := (show pb ≠ rb by rw [hg]; exact z_79); have hrp := Ne.symm hpr; replace Br := xk4 Br hb; clear hb hbox hg; replace gz := five_ Bg.out; replace tz := four Bt.out; replace rz := sixc Br.out; have pz := sixc Bp.out))
  generalize hq_ : World.setCell _ ⟨pb, 5, none⟩ _ = wb; have e0_ : Aside0 (∃ op_ : Nat → Prop, PV.ok wb op_ p ∧ ∀ k, op_ k → w.heap.size ≤ k ∧ k ≠ tb ∧ k ≠ rb ∧ k ≠ pb) := ⟨z_80⟩; clear Ep; have Ep := e0_; clear e0_; have hq := hq_; clear hq_; replace Bg : Aside0 (wb.heap[g]? = some (b79 A T.length c a1 n1 q1 b1)) := ⟨z_81⟩; replace Bt : Aside0 (wb.heap[tb]? = some (b58 t0 t1 t2 t3)) := ⟨z_82⟩; replace Br : Aside0 (wb.heap[rb]? = some (.cells #[.int .i64 0, .int .i64 0, .string (⟨#[]⟩ : ByteArray), .int .i64 0, .slice none 0 0, .int .i64 0] 137 (0, 0))) := ⟨z_83⟩; replace Bp : Aside0 (wb.heap[pb]? = some (.cells #[.int .i64 p.x.f0, .int .i64 p.x.f1, .string p.x.f2, .int .i64 p.x.f3, .slice p.A p.x.f4.length p.c, .int .i64 p.d] 137 (0, 0))) := ⟨z_84⟩; replace HK : Aside0 (KeepBut w wb g none) := ⟨z_85⟩; clear hq; replace gz := five_ Bg.out; replace tz := four Bt.out; replace rz := sixc Br.out; replace pz := sixc Bp.out
  go_wp2_with fail
  obtain ⟨⟨h0, h1⟩, hcase⟩ := wantK_some HL.out; clear HL; dsimp only at h0 h1 hcase; rcases hcase with ⟨hq, h⟩ | ⟨hq, rfl⟩
  rotate_left
  · (with_reducible refine (want_L g A c T a1 n1 q1 b1 _ ⟨#[44]⟩ (⟨Bg.out, Kd.F_keep HT0.out HK.out (fun _ h => h)⟩ : RD _ g A c T _) h0 h1).mono ?_)
    intro e wn hp; unfold wantP at hp; rw [if_neg (by rw [hq]; simp)] at hp; obtain ⟨rfl, hk⟩ := hp.err; exact z_77
  (with_reducible refine (want_L g A c T a1 n1 q1 b1 _ ⟨#[44]⟩ (⟨Bg.out, Kd.F_keep HT0.out HK.out (fun _ h => h)⟩ : RD _ g A c T _) h0 h1).mono ?_)
  intro e wn hp; unfold wantP at hp; rw [if_pos hq] at hp; obtain ⟨rfl, hx, hk⟩ := hp.ok; generalize rd_T58 T a1 = m at *; obtain ⟨m0, m1, m2, m3⟩ := m; have HL := A_0 h; clear hp hq h h0 h1; unfold tokV; replace Ep : Aside0 (∃ op_ : Nat → Prop, PV.ok wn op_ p ∧ ∀ k, op_ k → w.heap.size ≤ k ∧ k ≠ tb ∧ k ≠ rb ∧ k ≠ pb) := ⟨z_86⟩; replace Bg : Aside0 (wn.heap[g]? = some (b79 A T.length c (a1 + 1) n1 q1 b1)) := ⟨hx.bk⟩; replace Bt := xk2 hk Bt htg; replace Br := xk2 hk Br hrg; replace Bp := xk2 hk Bp hpg; replace HK := xk3 HK hk; clear hk hx; replace gz := five_ Bg.out; replace tz := four Bt.out; replace rz := sixc Br.out; replace pz := sixc Bp.out
  go_wp2_with fail
  have HSZ := A_0 (show w.heap.size ≤ wn.heap.size ∧ tb < wn.heap.size ∧ rb < wn.heap.size ∧ pb < wn.heap.size from ⟨keep_size HK.out, blk_lt Bt.out, blk_lt Br.out, blk_lt Bp.out⟩); rcases exK_some HL.out with ⟨er, at_, hab, rfl⟩ | ⟨p0, s1, hab, h⟩
  · (with_reducible refine (AC.out.use 1 ⟨(a1 + 1), n1, q1, b1⟩ (.error (er, at_)) g A c _ hab (⟨Bg.out, Kd.F_keep HT0.out HK.out (fun _ h => h)⟩ : RD _ g A c T _)).mono ?_)
    intro e wn hp; obtain ⟨rfl, hk⟩ := PPartO.err hp; exact z_77
  (with_reducible refine (AC.out.use 1 ⟨(a1 + 1), n1, q1, b1⟩ (.ok (p0, s1)) g A c _ hab (⟨Bg.out, Kd.F_keep HT0.out HK.out (fun _ h => h)⟩ : RD _ g A c T _)).mono ?_)
  intro e wn hp; obtain ⟨y, rfl, hpx, hpo, hx, hk⟩ := PPartO.ok hp; clear hp hab HL; subst hpx; have HL := A_0 h; clear h; obtain ⟨a2, n2, q2, b2⟩ := s1; unfold PV.val; replace Ep : Aside0 (∃ op_ : Nat → Prop, PV.ok wn op_ p ∧ ∀ k, op_ k → w.heap.size ≤ k ∧ k ≠ tb ∧ k ≠ rb ∧ k ≠ pb) := ⟨z_86⟩; replace Bg : Aside0 (wn.heap[g]? = some (b79 A T.length c a2 n2 q2 b2)) := ⟨hx.bk⟩; replace Bt := xk2 hk Bt htg; replace Br := xk2 hk Br hrg; replace Bp := xk2 hk Bp hpg; replace HK := xk3 HK hk; clear gz tz rz pz hk hx; have gz := five_ Bg.out; have tz := four Bt.out; have rz := sixc Br.out; have pz := sixc Bp.out; have Ey : Aside0 (∃ op_ : Nat → Prop, PV.ok wn op_ y ∧ ∀ k, op_ k → w.heap.size ≤ k ∧ k ≠ tb ∧ k ≠ rb ∧ k ≠ pb) := ⟨⟨_, hpo, fun k hk => by have := hk.1; have := HSZ.out; omega⟩⟩
  clear HSZ hpo; go_upto_region 6 with (first | ((with_reducible refine gate_dst (N := 8) rfl ?_); refine bx #[.int .i64 0, .int .i64 0, .string (⟨#[]⟩ : ByteArray), .int .i64 0, .slice none 0 0, .int .i64 0] 137 ?_; intro yb hg wy hbox hb; replace Ep : Aside0 (∃ op_ : Nat → Prop, PV.ok wy op_ p ∧ ∀ k, op_ k → w.heap.size ≤ k ∧ k ≠ tb ∧ k ≠ rb ∧ k ≠ pb ∧ k ≠ yb) := ⟨z_78⟩; replace Ey : Aside0 (∃ op_ : Nat → Prop, PV.ok wy op_ y ∧ ∀ k, op_ k → w.heap.size ≤ k ∧ k ≠ tb ∧ k ≠ rb ∧ k ≠ pb ∧ k ≠ yb) := ⟨z_87⟩; have By := A_0 hbox; have Gy := A_0 (show w.heap.size ≤ yb by rw [hg]; exact keep_size HK.out); replace HK := xk1 HK hb; have hyg := (show yb ≠ g by rw [hg]; exact z_71); have hgy := Ne.symm hyg; replace Bg := xk4 Bg hb; have hyt := (show yb ≠ tb by rw [hg]; exact z_72); have hty := Ne.symm hyt; replace Bt := xk4 Bt hb; have hyr := (show yb ≠ rb by rw [hg]; exact z_79); have hry := Ne.symm hyr; replace Br := xk4 Br hb; have hyp := (show yb ≠ pb by rw [hg]; exact Ne.symm (xnl (blk_lt Bp.out))); have hpy := Ne.symm hyp; replace Bp := xk4 Bp hb; clear hb hbox hg; replace gz := five_ Bg.out; replace tz := four Bt.out; replace rz := sixc Br.out; replace pz := sixc Bp.out; have yz := sixc By.out))
  generalize hq_ : World.setCell _ ⟨yb, 5, none⟩ _ = wc; have e0_ : Aside0 (∃ op_ : Nat → Prop, PV.ok wc op_ p ∧ ∀ k, op_ k → w.heap.size ≤ k ∧ k ≠ tb ∧ k ≠ rb ∧ k ≠ pb ∧ k ≠ yb) := ⟨z_88⟩; have e1_ : Aside0 (∃ op_ : Nat → Prop, PV.ok wc op_ y ∧ ∀ k, op_ k → w.heap.size ≤ k ∧ k ≠ tb ∧ k ≠ rb ∧ k ≠ pb ∧ k ≠ yb) := ⟨z_89⟩; clear Ep; clear Ey; have Ep := e0_; clear e0_; have Ey := e1_; clear e1_; have hq := hq_; clear hq_; replace Bg : Aside0 (wc.heap[g]? = some (b79 A T.length c a2 n2 q2 b2)) := ⟨by rw [← hq]; refine bf6 ?_ hgy; exact Bg.out⟩; replace Bt : Aside0 (wc.heap[tb]? = some (b58 t0 t1 t2 t3)) := ⟨by rw [← hq]; refine bf6 ?_ hty; exact Bt.out⟩; replace Br : Aside0 (wc.heap[rb]? = some (.cells #[.int .i64 0, .int .i64 0, .string (⟨#[]⟩ : ByteArray), .int .i64 0, .slice none 0 0, .int .i64 0] 137 (0, 0))) := ⟨by rw [← hq]; refine bf6 ?_ hry; exact Br.out⟩; replace Bp : Aside0 (wc.heap[pb]? = some (.cells #[.int .i64 p.x.f0, .int .i64 p.x.f1, .string p.x.f2, .int .i64 p.x.f3, .slice p.A p.x.f4.length p.c, .int .i64 p.d] 137 (0, 0))) := ⟨by rw [← hq]; refine bf6 ?_ hpy; exact Bp.out⟩; replace By : Aside0 (wc.heap[yb]? = some (.cells #[.int .i64 y.x.f0, .int .i64 y.x.f1, .string y.x.f2, .int .i64 y.x.f3, .slice y.A y.x.f4.length y.c, .int .i64 y.d] 137 (0, 0))) := ⟨by rw [← hq]; apply p6_5; apply p6_4; apply p6_3; apply p6_2; apply p6_1; apply p6_0; exact By.out⟩; replace HK : Aside0 (KeepBut w wc g none) := ⟨by rw [← hq]; refine kf6 ?_ Gy.out; exact HK.out⟩; clear hq; replace gz := five_ Bg.out; replace tz := four Bt.out; replace rz := sixc Br.out; replace pz := sixc Bp.out; replace yz := sixc By.out
  go_wp2_with fail
  obtain ⟨⟨⟨h0, h1⟩, h2, h3⟩, hcase⟩ := leaveK_some HL.out; clear HL; dsimp only at h0 h1 h2 h3 hcase; rcases hcase with ⟨hq, h⟩ | ⟨hq, rfl⟩
  rotate_left
  · (with_reducible refine (leave_L g A c T a2 n2 q2 b2 _ ⟨#[41]⟩ (⟨Bg.out, Kd.F_keep HT0.out HK.out (fun _ h => h)⟩ : RD _ g A c T _) h0 h1 h2 h3).mono ?_)
    intro e wn hp; unfold leaveP at hp; rw [if_neg (by rw [hq]; simp)] at hp; obtain ⟨rfl, hk⟩ := hp.err; exact z_77
  (with_reducible refine (leave_L g A c T a2 n2 q2 b2 _ ⟨#[41]⟩ (⟨Bg.out, Kd.F_keep HT0.out HK.out (fun _ h => h)⟩ : RD _ g A c T _) h0 h1 h2 h3).mono ?_)
  intro e wn hp; unfold leaveP at hp; rw [if_pos hq] at hp; obtain ⟨rfl, hx, hk⟩ := hp.ok; have HL := A_0 h; clear hp hq h h0 h1 h2 h3; unfold unitV; replace Ep : Aside0 (∃ op_ : Nat → Prop, PV.ok wn op_ p ∧ ∀ k, op_ k → w.heap.size ≤ k ∧ k ≠ tb ∧ k ≠ rb ∧ k ≠ pb ∧ k ≠ yb) := ⟨z_86⟩; replace Ey : Aside0 (∃ op_ : Nat → Prop, PV.ok wn op_ y ∧ ∀ k, op_ k → w.heap.size ≤ k ∧ k ≠ tb ∧ k ≠ rb ∧ k ≠ pb ∧ k ≠ yb) := ⟨by obtain ⟨op_, h1, h2⟩ := Ey.out; exact z_90⟩; replace Bg : Aside0 (wn.heap[g]? = some (b79 A T.length c (a2 + 1) n2 (q2 - 1) b2)) := ⟨hx.bk⟩; replace Bt := xk2 hk Bt htg; replace Br := xk2 hk Br hrg; replace Bp := xk2 hk Bp hpg; replace By := xk2 hk By hyg; replace HK := xk3 HK hk; clear hk hx; replace gz := five_ Bg.out; replace tz := four Bt.out; replace rz := sixc Br.out; replace pz := sixc Bp.out; replace yz := sixc By.out
  go_wp2_with fail
  generalize hqa : World.alloc wn _ = wz; have hb : Below wn.heap.size wn wz := z_91; have HPR := A_0 (show PRow wz (some ⟨wn.heap.size, 0, none⟩) [p, y] from PRow.two (by rw [← hqa]; exact blk_new _ _)); clear hqa; replace Ep : Aside0 (∃ op_ : Nat → Prop, PV.ok wz op_ p ∧ ∀ k, op_ k → w.heap.size ≤ k ∧ k ≠ tb ∧ k ≠ rb ∧ k ≠ pb ∧ k ≠ yb) := ⟨z_92⟩; replace Ey : Aside0 (∃ op_ : Nat → Prop, PV.ok wz op_ y ∧ ∀ k, op_ k → w.heap.size ≤ k ∧ k ≠ tb ∧ k ≠ rb ∧ k ≠ pb ∧ k ≠ yb) := ⟨by obtain ⟨op_, h1, h2⟩ := Ey.out; exact z_93⟩; replace Bg := xk4 Bg hb; replace Bt := xk4 Bt hb; replace Br := xk4 Br hb; replace Bp := xk4 Bp hb; replace By := xk4 By hb; replace HK := xk1 HK hb; clear hb; replace gz := five_ Bg.out; replace tz := four Bt.out; replace rz := sixc Br.out; replace pz := sixc Bp.out; replace yz := sixc By.out; have HSZ := A_0 (show w.heap.size ≤ wz.heap.size ∧ tb < wz.heap.size ∧ rb < wz.heap.size ∧ pb < wz.heap.size ∧ yb < wz.heap.size from ⟨keep_size HK.out, blk_lt Bt.out, blk_lt Br.out, blk_lt Bp.out, blk_lt By.out⟩); obtain ⟨⟨hm0, hm1⟩, hdd, h⟩ := nodeK_some HL.out; clear HL; dsimp only at hm0 hm1 hdd h; obtain ⟨o0, hp0, hc0⟩ := Ep.out; obtain ⟨o1, hp1, hc1⟩ := Ey.out; have HCC := A_0 (show (∀ k, o0 k → w.heap.size ≤ k ∧ k ≠ tb ∧ k ≠ rb ∧ k ≠ pb ∧ k ≠ yb) ∧ (∀ k, o1 k → w.heap.size ≤ k ∧ k ≠ tb ∧ k ≠ rb ∧ k ≠ pb ∧ k ≠ yb) from ⟨hc0, hc1⟩)
  have hN := node_L (fun k => o0 k ∨ o1 k) g A c T ((a2 + 1)) n2 ((q2 - 1)) b2 _ t0 t1 t2 t3 5 0 ⟨#[]⟩ op (some ⟨wn.heap.size, 0, none⟩) 2 2 [p, y] (⟨Bg.out, Kd.F_keep HT0.out HK.out (fun _ h => h)⟩ : RD _ g A c T _) hm0 hm1 rfl (by simp) HPR.out (fun k hk => by have := HLT.out; rcases hk with z | z; (have := hc0 k z; omega); (have := hc1 k z; omega)) (fun z hz => by
    rcases List.mem_cons.1 hz with e | e
    · subst e; exact ⟨hp0.mono (fun _ h => .inl h), (hdd _ (List.mem_cons_self ..))⟩
    · rcases List.mem_cons.1 e with e | e
      · subst e; exact ⟨hp1.mono (fun _ h => .inr h), (hdd _ (List.mem_cons_of_mem _ (List.mem_cons_self ..)))⟩
      · cases e)
  rw [nodeQ_eq, show ([p, y]).map PV.pr = [(p.x, p.d), (y.x, y.d)] from rfl] at hN; rw [h] at hN; clear Ep hp0 hc0 Ey hp1 hc1 HPR; have HN := A_0 hN; clear hN h hdd hm0 hm1; rcases r with ⟨er, at_⟩ | ⟨p3, s3⟩
  · (with_reducible refine HN.out.mono ?_)
    intro e wn hp; obtain ⟨rfl, hk⟩ := PPartO.err hp; exact z_77
  (with_reducible refine HN.out.mono ?_)
  intro e wn hp; obtain ⟨z, rfl, hpz, hpo, hx, hk⟩ := PPartO.ok hp; clear hp HN; obtain ⟨a9, n9, q9, b9⟩ := s3; unfold PV.val; replace Bg : Aside0 (wn.heap[g]? = some (b79 A T.length c a9 n9 q9 b9)) := ⟨hx.bk⟩; replace Bt := xk2 hk Bt htg; replace Br := xk2 hk Br hrg; replace Bp := xk2 hk Bp hpg; replace By := xk2 hk By hyg; replace HK := xk3 HK hk; clear hk hx; replace gz := five_ Bg.out; replace tz := four Bt.out; replace rz := sixc Br.out; replace pz := sixc Bp.out; replace yz := sixc By.out
  have Ez : Aside0 (∃ op_ : Nat → Prop, PV.ok wn op_ z ∧ ∀ k, op_ k → w.heap.size ≤ k ∧ k ≠ tb ∧ k ≠ rb ∧ k ≠ pb ∧ k ≠ yb) := ⟨⟨_, hpo, fun k hk => by
      have := HSZ.out; rcases hk with (hk | hk) | hk
      · exact HCC.out.1 k hk
      · exact HCC.out.2 k hk
      · have := hk.1; omega⟩⟩
  clear HSZ hpo HCC
  go_wp2_with fail
  generalize hq_ : World.setCell _ ⟨rb, 5, none⟩ _ = wv; have e0_ : Aside0 (∃ op_ : Nat → Prop, PV.ok wv op_ z ∧ ∀ k, op_ k → w.heap.size ≤ k ∧ k ≠ tb ∧ k ≠ rb ∧ k ≠ pb ∧ k ≠ yb) := ⟨z_94⟩; clear Ez; have Ez := e0_; clear e0_; have hq := hq_; clear hq_; replace Bg : Aside0 (wv.heap[g]? = some (b79 A T.length c a9 n9 q9 b9)) := ⟨z_95⟩; replace Bt : Aside0 (wv.heap[tb]? = some (b58 t0 t1 t2 t3)) := ⟨z_96⟩; replace Br : Aside0 (wv.heap[rb]? = some (.cells #[.int .i64 z.x.f0, .int .i64 z.x.f1, .string z.x.f2, .int .i64 z.x.f3, .slice z.A z.x.f4.length z.c, .int .i64 z.d] 137 (0, 0))) := ⟨z_97⟩; replace Bp : Aside0 (wv.heap[pb]? = some (.cells #[.int .i64 p.x.f0, .int .i64 p.x.f1, .string p.x.f2, .int .i64 p.x.f3, .slice p.A p.x.f4.length p.c, .int .i64 p.d] 137 (0, 0))) := ⟨z_98⟩; replace By : Aside0 (wv.heap[yb]? = some (.cells #[.int .i64 y.x.f0, .int .i64 y.x.f1, .string y.x.f2, .int .i64 y.x.f3, .slice y.A y.x.f4.length y.c, .int .i64 y.d] 137 (0, 0))) := ⟨by rw [← hq]; refine bf6 ?_ hyr; exact By.out⟩; replace HK : Aside0 (KeepBut w wv g none) := ⟨z_99⟩; clear hq; replace gz := five_ Bg.out; replace tz := four Bt.out; replace rz := sixc Br.out; replace pz := sixc Bp.out; replace yz := sixc By.out; refine bodyPost_ret (v := z.val) (by simp [results, Try.results138, go_sem, rz, PV.val]) rfl ?_; obtain ⟨op_, h1, h2⟩ := Ez.out; exact z_100
def signOp (t : S58) : Option Int := if isB t ⟨#[45]⟩ = true then some 19 else if isB t ⟨#[126]⟩ = true then some 20 else if isB t ⟨#[33]⟩ = true then some 21 else none
def openK {α : Type} (s : PSt) (k : PSt → Option (Except Er α)) : Option (Except Er α) := if 1 ≤ s.op ∧ s.op ≤ 100 then k ⟨s.at_, s.nodes, s.op - 1, s.bl⟩ else none
theorem openK_some {α : Type} {s : PSt} {k : PSt → Option (Except Er α)} {r : Except Er α} (h : openK s k = some r) : (1 ≤ s.op ∧ s.op ≤ 100) ∧ k ⟨s.at_, s.nodes, s.op - 1, s.bl⟩ = some r := by
 unfold openK at h; by_cases hg : 1 ≤ s.op ∧ s.op ≤ 100
 ·rw [if_pos hg] at h; exact ⟨hg, h⟩
 ·rw [if_neg hg] at h; cases h
def signS (T : List S58) (on : PSt → Option Res) (s : PSt) : Option Res :=
 if 0 ≤ s.at_ ∧ s.at_ < T.length then
  match signOp (rd_T58 T s.at_) with
  | none => some (.error (40, (rd_T58 T s.at_).f3))
  | some op => enterK ⟨s.at_ + 1, s.nodes, s.op, s.bl⟩ (rd_T58 T s.at_).f3 fun s2 => exK (on s2) fun p s3 => openK s3 fun s4 => nodeK s4 (rd_T58 T s.at_).f3 4 0 ⟨#[]⟩ op [p]
 else none
theorem Q4 (a b c : Bool) : a = true ∨ (a = false ∧ b = true) ∨ (a = false ∧ b = false ∧ c = true) ∨ (a = false ∧ b = false ∧ c = false) := by cases a <;> cases b <;> cases c <;> simp
theorem signed_L (T : List S58) (on : PSt → Option Res) (OC0 : OneC T on) (t0 : Int) (t1 : ByteArray) (t2 t3 a n q b : Int) (r : Res) (g : Nat) (A : Option Addr) (c : Nat) (w : World) (ht : rd_T58 T a = ⟨t0, t1, t2, t3⟩) (h : signS T on ⟨a, n, q, b⟩ = some r) (hrd : RD w g A c T ⟨a, n, q, b⟩) :
    Calls Try.prog 139 #[.pointer (some ⟨g, 0, none⟩), .agg #[.int .i64 t0, .string t1, .int .i64 t2, .int .i64 t3]] w (PPart w g A c T r) := by
  have OC := A_0 OC0; clear OC0; unfold signS at h; by_cases hg : 0 ≤ a ∧ a < T.length
  rotate_left
  · rw [if_neg hg] at h; cases h
  rw [if_pos hg] at h; obtain ⟨h0, h1⟩ := hg; dsimp only at h; rw [ht] at h; dsimp only at h; have HTK := A_0 ht; have HL := A_0 h; clear h ht; have HT0 := A_0 hrd.tk; have hmx := hrd.max; have Bg : Aside0 (w.heap[g]? = some (b79 A T.length c a n q b)) := ⟨hrd.bk⟩; have HK := A_0 (KeepBut.refl w g none); have HLT := A_0 hrd.lt; clear hrd; have gz := five_ Bg.out; have hwa : wrap64 (a + 1) = a + 1 := by unfold wrap64; omega
  go_enter Try.func139, Try.ntmps139
  go_wp2_with (first | ((with_reducible refine gate_dst (N := 3) rfl ?_); refine bx (a58 t0 t1 t2 t3) 58 ?_; intro tb hg wt hbox hb; have Bt := A_0 hbox; have Gt := A_0 (show w.heap.size ≤ tb by rw [hg]; exact keep_size HK.out); replace HK := xk1 HK hb; have htg := (show tb ≠ g by rw [hg]; exact z_71); have hgt := Ne.symm htg; replace Bg := xk4 Bg hb; clear hb hbox hg; replace gz := five_ Bg.out; have tz := four Bt.out) | ((with_reducible refine gate_dst (N := 4) rfl ?_); refine bx #[.int .i64 0, .int .i64 0, .string (⟨#[]⟩ : ByteArray), .int .i64 0, .slice none 0 0, .int .i64 0] 137 ?_; intro rb hg wr hbox hb; have Br := A_0 hbox; have Gr := A_0 (show w.heap.size ≤ rb by rw [hg]; exact keep_size HK.out); replace HK := xk1 HK hb; have hrg := (show rb ≠ g by rw [hg]; exact z_71); have hgr := Ne.symm hrg; replace Bg := xk4 Bg hb; have hrt := (show rb ≠ tb by rw [hg]; exact z_72); have htr := Ne.symm hrt; replace Bt := xk4 Bt hb; clear hb hbox hg; replace gz := five_ Bg.out; replace tz := four Bt.out; have rz := sixc Br.out))
  unfold signOp at HL; rcases Q4 (isB (⟨t0, t1, t2, t3⟩ : S58) ⟨#[45]⟩) (isB (⟨t0, t1, t2, t3⟩ : S58) ⟨#[126]⟩) (isB (⟨t0, t1, t2, t3⟩ : S58) ⟨#[33]⟩) with hq0 | ⟨hq0, hq1⟩ | ⟨hq0, hq1, hq2⟩ | ⟨hq0, hq1, hq2⟩
  all_goals
    go_wp2_with fail
    (with_reducible refine (is_L g A c T a n q b _ ⟨#[45]⟩ (⟨Bg.out, Kd.F_keep HT0.out HK.out (fun _ h => h)⟩ : RD _ g A c T _) h0 h1 _ ((congrArg (fun z => isB z ⟨#[45]⟩) HTK.out).trans hq0)).mono ?_)
    rintro e wn ⟨rfl, hb⟩; replace Bg := xk4 Bg hb; replace Bt := xk4 Bt hb; replace Br := xk4 Br hb; replace HK := xk1 HK hb; clear hb; replace gz := five_ Bg.out; replace tz := four Bt.out; replace rz := sixc Br.out
  all_goals
    try
      have := hq1
      go_wp2_with fail
      (with_reducible refine (is_L g A c T a n q b _ ⟨#[126]⟩ (⟨Bg.out, Kd.F_keep HT0.out HK.out (fun _ h => h)⟩ : RD _ g A c T _) h0 h1 _ ((congrArg (fun z => isB z ⟨#[126]⟩) HTK.out).trans hq1)).mono ?_)
      rintro e wn ⟨rfl, hb⟩; replace Bg := xk4 Bg hb; replace Bt := xk4 Bt hb; replace Br := xk4 Br hb; replace HK := xk1 HK hb; clear hb; replace gz := five_ Bg.out; replace tz := four Bt.out; replace rz := sixc Br.out
  all_goals
    try
      have := hq2
      go_wp2_with fail
      (with_reducible refine (is_L g A c T a n q b _ ⟨#[33]⟩ (⟨Bg.out, Kd.F_keep HT0.out HK.out (fun _ h => h)⟩ : RD _ g A c T _) h0 h1 _ ((congrArg (fun z => isB z ⟨#[33]⟩) HTK.out).trans hq2)).mono ?_)
      rintro e wn ⟨rfl, hb⟩; replace Bg := xk4 Bg hb; replace Bt := xk4 Bt hb; replace Br := xk4 Br hb; replace HK := xk1 HK hb; clear hb; replace gz := five_ Bg.out; replace tz := four Bt.out; replace rz := sixc Br.out
  rotate_right
  · go_wp2_with fail
    have h := HL.out; clear HL; rw [if_neg (by rw [hq0]; simp), if_neg (by rw [hq1]; simp), if_neg (by rw [hq2]; simp)] at h; dsimp only at h; have h' := xsi h; subst h'
    (with_reducible refine (give_A 40 t0 t1 t2 t3 _).mono ?_)
    rintro e wn ⟨rfl, hb⟩; exact z_101
  all_goals
    have h := HL.out; clear HL
    first | rw [if_pos hq0] at h | rw [if_neg (by rw [hq0]; simp), if_pos hq1] at h | rw [if_neg (by rw [hq0]; simp), if_neg (by rw [hq1]; simp), if_pos hq2] at h
    dsimp only at h; have HL := A_0 h; clear h; go_upto_region 10 with fail; generalize hq_ : World.setCell _ ⟨g, 1, none⟩ _ = wa; have hq := hq_; clear hq_; replace Bg : Aside0 (wa.heap[g]? = some (b79 A T.length c (a + 1) n q b)) := ⟨z_73⟩; replace Bt : Aside0 (wa.heap[tb]? = some (b58 t0 t1 t2 t3)) := ⟨z_74⟩; replace Br : Aside0 (wa.heap[rb]? = some (.cells #[.int .i64 0, .int .i64 0, .string (⟨#[]⟩ : ByteArray), .int .i64 0, .slice none 0 0, .int .i64 0] 137 (0, 0))) := ⟨z_75⟩; replace HK : Aside0 (KeepBut w wa g none) := ⟨z_76⟩; clear hq; replace gz := five_ Bg.out; replace tz := four Bt.out; replace rz := sixc Br.out; clear hwa h0 h1
    go_wp2_with fail
    obtain ⟨⟨h0, h1⟩, hcase⟩ := enterK_some HL.out; clear HL; dsimp only at h0 h1 hcase; rcases hcase with ⟨hq, h⟩ | ⟨hq, rfl⟩
    rotate_left
    · (with_reducible refine (enter_L g A c T ((a + 1)) n q b _ t0 t1 t2 t3 (⟨Bg.out, Kd.F_keep HT0.out HK.out (fun _ h => h)⟩ : RD _ g A c T _) h0 h1).mono ?_)
      intro e wn hp; unfold enterP at hp; rw [if_pos hq] at hp; obtain ⟨rfl, hk⟩ := hp.err; exact z_77
    (with_reducible refine (enter_L g A c T ((a + 1)) n q b _ t0 t1 t2 t3 (⟨Bg.out, Kd.F_keep HT0.out HK.out (fun _ h => h)⟩ : RD _ g A c T _) h0 h1).mono ?_)
    intro e wn hp; unfold enterP at hp; rw [if_neg hq] at hp; obtain ⟨rfl, hx, hk⟩ := hp.ok; have HL := A_0 h; clear hp hq h h0 h1; unfold unitV; replace Bg : Aside0 (wn.heap[g]? = some (b79 A T.length c (a + 1) n (q + 1) b)) := ⟨hx.bk⟩; replace Bt := xk2 hk Bt htg; replace Br := xk2 hk Br hrg; replace HK := xk3 HK hk; clear hk hx; replace gz := five_ Bg.out; replace tz := four Bt.out; replace rz := sixc Br.out
    go_wp2_with fail
    have HSZ := A_0 (show w.heap.size ≤ wn.heap.size ∧ tb < wn.heap.size ∧ rb < wn.heap.size from ⟨keep_size HK.out, blk_lt Bt.out, blk_lt Br.out⟩); rcases exK_some HL.out with ⟨er, at_, hab, rfl⟩ | ⟨p0, s1, hab, h⟩
    · (with_reducible refine (OC.out.use ⟨(a + 1), n, (q + 1), b⟩ (.error (er, at_)) g A c _ hab (⟨Bg.out, Kd.F_keep HT0.out HK.out (fun _ h => h)⟩ : RD _ g A c T _)).mono ?_)
      intro e wn hp; obtain ⟨rfl, hk⟩ := PPartO.err hp; exact z_77
    (with_reducible refine (OC.out.use ⟨(a + 1), n, (q + 1), b⟩ (.ok (p0, s1)) g A c _ hab (⟨Bg.out, Kd.F_keep HT0.out HK.out (fun _ h => h)⟩ : RD _ g A c T _)).mono ?_)
    intro e wn hp; obtain ⟨p, rfl, hpx, hpo, hx, hk⟩ := PPartO.ok hp; clear hp hab HL; subst hpx; have HL := A_0 h; clear h; obtain ⟨a1, n1, q1, b1⟩ := s1; unfold PV.val; replace Bg : Aside0 (wn.heap[g]? = some (b79 A T.length c a1 n1 q1 b1)) := ⟨hx.bk⟩; replace Bt := xk2 hk Bt htg; replace Br := xk2 hk Br hrg; replace HK := xk3 HK hk; clear gz tz rz hk hx; have gz := five_ Bg.out; have tz := four Bt.out; have rz := sixc Br.out; have Ep : Aside0 (∃ op_ : Nat → Prop, PV.ok wn op_ p ∧ ∀ k, op_ k → w.heap.size ≤ k ∧ k ≠ tb ∧ k ≠ rb) := ⟨⟨_, hpo, fun k hk => by have := hk.1; have := HSZ.out; omega⟩⟩
    clear HSZ hpo; obtain ⟨⟨h2, h3⟩, h⟩ := openK_some HL.out; clear HL; dsimp only at h2 h3 h; have HL := A_0 h; clear h; have hwq : wrap64 (q1 - 1) = q1 - 1 := by unfold wrap64; omega
    go_upto_region 12 with (first | ((with_reducible refine gate_dst (N := 6) rfl ?_); refine bx #[.int .i64 0, .int .i64 0, .string (⟨#[]⟩ : ByteArray), .int .i64 0, .slice none 0 0, .int .i64 0] 137 ?_; intro pb hg wp hbox hb; replace Ep : Aside0 (∃ op_ : Nat → Prop, PV.ok wp op_ p ∧ ∀ k, op_ k → w.heap.size ≤ k ∧ k ≠ tb ∧ k ≠ rb ∧ k ≠ pb) := ⟨z_78⟩; have Bp := A_0 hbox; have Gp := A_0 (show w.heap.size ≤ pb by rw [hg]; exact keep_size HK.out); replace HK := xk1 HK hb; have hpg := (show pb ≠ g by rw [hg]; exact z_71); have hgp := Ne.symm hpg; replace Bg := xk4 Bg hb; have hpt := (show pb ≠ tb by rw [hg]; exact z_72); have htp := Ne.symm hpt; replace Bt := xk4 Bt hb; have hpr := (show pb ≠ rb by rw [hg]; exact z_79); have hrp := Ne.symm hpr; replace Br := xk4 Br hb; clear hb hbox hg; replace gz := five_ Bg.out; replace tz := four Bt.out; replace rz := sixc Br.out; have pz := sixc Bp.out))
    generalize hq_ : World.setCell _ ⟨pb, 5, none⟩ _ = wb; have e0_ : Aside0 (∃ op_ : Nat → Prop, PV.ok wb op_ p ∧ ∀ k, op_ k → w.heap.size ≤ k ∧ k ≠ tb ∧ k ≠ rb ∧ k ≠ pb) := ⟨z_80⟩; clear Ep; have Ep := e0_; clear e0_; have hq := hq_; clear hq_; replace Bg : Aside0 (wb.heap[g]? = some (b79 A T.length c a1 n1 q1 b1)) := ⟨z_81⟩; replace Bt : Aside0 (wb.heap[tb]? = some (b58 t0 t1 t2 t3)) := ⟨z_82⟩; replace Br : Aside0 (wb.heap[rb]? = some (.cells #[.int .i64 0, .int .i64 0, .string (⟨#[]⟩ : ByteArray), .int .i64 0, .slice none 0 0, .int .i64 0] 137 (0, 0))) := ⟨z_83⟩; replace Bp : Aside0 (wb.heap[pb]? = some (.cells #[.int .i64 p.x.f0, .int .i64 p.x.f1, .string p.x.f2, .int .i64 p.x.f3, .slice p.A p.x.f4.length p.c, .int .i64 p.d] 137 (0, 0))) := ⟨z_84⟩; replace HK : Aside0 (KeepBut w wb g none) := ⟨z_85⟩; clear hq; replace gz := five_ Bg.out; replace tz := four Bt.out; replace rz := sixc Br.out; replace pz := sixc Bp.out; go_upto_region 13 with fail; generalize hq_ : World.setCell _ ⟨g, 3, none⟩ _ = wc; have e0_ : Aside0 (∃ op_ : Nat → Prop, PV.ok wc op_ p ∧ ∀ k, op_ k → w.heap.size ≤ k ∧ k ≠ tb ∧ k ≠ rb ∧ k ≠ pb) := ⟨z_102⟩; clear Ep; have Ep := e0_; clear e0_; have hq := hq_; clear hq_; replace Bg : Aside0 (wc.heap[g]? = some (b79 A T.length c a1 n1 (q1 - 1) b1)) := ⟨by rw [← hq]; apply p5_3; exact Bg.out⟩; replace Bt : Aside0 (wc.heap[tb]? = some (b58 t0 t1 t2 t3)) := ⟨z_74⟩; replace Br : Aside0 (wc.heap[rb]? = some (.cells #[.int .i64 0, .int .i64 0, .string (⟨#[]⟩ : ByteArray), .int .i64 0, .slice none 0 0, .int .i64 0] 137 (0, 0))) := ⟨z_75⟩; replace Bp : Aside0 (wc.heap[pb]? = some (.cells #[.int .i64 p.x.f0, .int .i64 p.x.f1, .string p.x.f2, .int .i64 p.x.f3, .slice p.A p.x.f4.length p.c, .int .i64 p.d] 137 (0, 0))) := ⟨by rw [← hq]; refine blk_far ?_ hpg _; exact Bp.out⟩; replace HK : Aside0 (KeepBut w wc g none) := ⟨z_76⟩; clear hq; replace gz := five_ Bg.out; replace tz := four Bt.out; replace rz := sixc Br.out; replace pz := sixc Bp.out; clear hwq h2 h3
    go_wp2_with fail
    generalize hqa : World.alloc wc _ = wz; have hb : Below wc.heap.size wc wz := z_91; have HPR := A_0 (show PRow wz (some ⟨wc.heap.size, 0, none⟩) [p] from PRow.one (by rw [← hqa]; exact blk_new _ _)); clear hqa; replace Ep : Aside0 (∃ op_ : Nat → Prop, PV.ok wz op_ p ∧ ∀ k, op_ k → w.heap.size ≤ k ∧ k ≠ tb ∧ k ≠ rb ∧ k ≠ pb) := ⟨z_92⟩; replace Bg := xk4 Bg hb; replace Bt := xk4 Bt hb; replace Br := xk4 Br hb; replace Bp := xk4 Bp hb; replace HK := xk1 HK hb; clear hb; replace gz := five_ Bg.out; replace tz := four Bt.out; replace rz := sixc Br.out; replace pz := sixc Bp.out; have HSZ := A_0 (show w.heap.size ≤ wz.heap.size ∧ tb < wz.heap.size ∧ rb < wz.heap.size ∧ pb < wz.heap.size from ⟨keep_size HK.out, blk_lt Bt.out, blk_lt Br.out, blk_lt Bp.out⟩); obtain ⟨⟨hm0, hm1⟩, hdd, h⟩ := nodeK_some HL.out; clear HL; dsimp only at hm0 hm1 hdd h; obtain ⟨o0, hp0, hc0⟩ := Ep.out; have HCC := A_0 (show (∀ k, o0 k → w.heap.size ≤ k ∧ k ≠ tb ∧ k ≠ rb ∧ k ≠ pb) from hc0)
    have hNf := fun op : Int => node_L (fun k => o0 k) g A c T a1 n1 ((q1 - 1)) b1 _ t0 t1 t2 t3 4 0 ⟨#[]⟩ op (some ⟨wc.heap.size, 0, none⟩) 1 1 [p] (⟨Bg.out, Kd.F_keep HT0.out HK.out (fun _ h => h)⟩ : RD _ g A c T _) hm0 hm1 rfl (by simp) HPR.out (fun k hk => by have := HLT.out; have := hc0 k hk; omega) (fun z hz => by
      rcases List.mem_cons.1 hz with e | e
      · subst e; exact ⟨hp0, (hdd _ (List.mem_cons_self ..))⟩
      · cases e)
    first
      | (have hN := hNf 19; rw [nodeQ_eq, show ([p]).map PV.pr = [(p.x, p.d)] from rfl, h] at hN; have HN := A_0 hN; clear hN)
      | (have hN := hNf 20; rw [nodeQ_eq, show ([p]).map PV.pr = [(p.x, p.d)] from rfl, h] at hN; have HN := A_0 hN; clear hN)
      | (have hN := hNf 21; rw [nodeQ_eq, show ([p]).map PV.pr = [(p.x, p.d)] from rfl, h] at hN; have HN := A_0 hN; clear hN)
    clear Ep hp0 hc0 HPR; clear hNf h hdd hm0 hm1; rcases r with ⟨er, at_⟩ | ⟨p3, s3⟩
    · (with_reducible refine HN.out.mono ?_)
      intro e wn hp; obtain ⟨rfl, hk⟩ := PPartO.err hp; exact z_77
    (with_reducible refine HN.out.mono ?_)
    intro e wn hp; obtain ⟨z, rfl, hpz, hpo, hx, hk⟩ := PPartO.ok hp; clear hp HN; obtain ⟨a9, n9, q9, b9⟩ := s3; unfold PV.val; replace Bg : Aside0 (wn.heap[g]? = some (b79 A T.length c a9 n9 q9 b9)) := ⟨hx.bk⟩; replace Bt := xk2 hk Bt htg; replace Br := xk2 hk Br hrg; replace Bp := xk2 hk Bp hpg; replace HK := xk3 HK hk; clear hk hx; replace gz := five_ Bg.out; replace tz := four Bt.out; replace rz := sixc Br.out; replace pz := sixc Bp.out
    have Ez : Aside0 (∃ op_ : Nat → Prop, PV.ok wn op_ z ∧ ∀ k, op_ k → w.heap.size ≤ k ∧ k ≠ tb ∧ k ≠ rb ∧ k ≠ pb) := ⟨⟨_, hpo, fun k hk => by
        have := HSZ.out; rcases hk with hk | hk
        · exact HCC.out k hk
        · have := hk.1; omega⟩⟩
    clear HSZ hpo HCC
    go_wp2_with fail
    generalize hq_ : World.setCell _ ⟨rb, 5, none⟩ _ = wv; have e0_ : Aside0 (∃ op_ : Nat → Prop, PV.ok wv op_ z ∧ ∀ k, op_ k → w.heap.size ≤ k ∧ k ≠ tb ∧ k ≠ rb ∧ k ≠ pb) := ⟨z_94⟩; clear Ez; have Ez := e0_; clear e0_; have hq := hq_; clear hq_; replace Bg : Aside0 (wv.heap[g]? = some (b79 A T.length c a9 n9 q9 b9)) := ⟨z_95⟩; replace Bt : Aside0 (wv.heap[tb]? = some (b58 t0 t1 t2 t3)) := ⟨z_96⟩; replace Br : Aside0 (wv.heap[rb]? = some (.cells #[.int .i64 z.x.f0, .int .i64 z.x.f1, .string z.x.f2, .int .i64 z.x.f3, .slice z.A z.x.f4.length z.c, .int .i64 z.d] 137 (0, 0))) := ⟨z_97⟩; replace Bp : Aside0 (wv.heap[pb]? = some (.cells #[.int .i64 p.x.f0, .int .i64 p.x.f1, .string p.x.f2, .int .i64 p.x.f3, .slice p.A p.x.f4.length p.c, .int .i64 p.d] 137 (0, 0))) := ⟨z_98⟩; replace HK : Aside0 (KeepBut w wv g none) := ⟨z_99⟩; clear hq; replace gz := five_ Bg.out; replace tz := four Bt.out; replace rz := sixc Br.out; replace pz := sixc Bp.out; refine bodyPost_ret (v := z.val) (by simp [results, Try.results139, go_sem, rz, PV.val]) rfl ?_; obtain ⟨op_, h1, h2⟩ := Ez.out; exact z_100
end Go.Proofs.Ytobkdmmnbnpemaa.K
