/- The reference's `one`: a statement's lines, walked by hand, kind by kind. -/
import Derived.Test.YtobkdmmnbnpemaaXWS0
import Derived.Lib.Hide
namespace Go.Proofs.Ytobkdmmnbnpemaa.K
open Go.RowKit Go.Proofs.YtobkdmmnbnpemaaW.PrintWords Go.Proofs.YtobkdmmnbnpemaaW.PrintLast Go.Proofs.YtobkdmmnbnpemaaW.PrintMore
attribute [local go_sem] max2_int min2_int max_two min_two max_three min_three max_four min_four
set_option linter.unusedVariables false
set_option linter.unusedSimpArgs false
structure OX (w W : World) (k : Int) (f1 : ByteArray) (f2 : Int) (A3 : Option Addr) (L3 c3 : Nat) (A4 : Option Addr) (L4 c4 : Nat) (A5 : Option Addr) (L5 c5 sb : Nat) : Prop where
  be : W.heap[sb]? = some (.cells #[.int .i64 k, .string f1, .int .i64 f2, .slice A3 L3 c3, .slice A4 L4 c4, .slice A5 L5 c5] 41 (0, 0))
  hb : Below w.heap.size w W
theorem OX.below {w W W1 : World} {k : Int} {f1 : ByteArray} {f2 : Int} {A3 : Option Addr} {L3 c3 : Nat} {A4 : Option Addr} {L4 c4 : Nat} {A5 : Option Addr} {L5 c5 sb : Nat} (h : OX w W k f1 f2 A3 L3 c3 A4 L4 c4 A5 L5 c5 sb) (b : Below W.heap.size W W1) : OX w W1 k f1 f2 A3 L3 c3 A4 L4 c4 A5 L5 c5 sb :=
  ⟨blk_below h.be b, below_step h.hb b⟩
structure EL (W : World) (ad : Addr) (x : S38) (A : Option Addr) (c : Nat) : Prop where
  h0 : W.cell? ad = some (.int .i64 x.f0)
  h1 : W.cell? ⟨ad.block, ad.off + 1, none⟩ = some (.int .i64 x.f1)
  h2 : W.cell? ⟨ad.block, ad.off + 2, none⟩ = some (.string x.f2)
  h3 : W.cell? ⟨ad.block, ad.off + 3, none⟩ = some (.int .i64 x.f3)
  h4 : W.cell? ⟨ad.block, ad.off + 4, none⟩ = some (.slice A x.f4.length c)
  hC : k38.C W A x.f4.length x.f4
  hl : x.f4.length ≤ c
theorem cell_keep {W W1 : World} {a : Addr} {v : Value} (h : W.cell? a = some v) (b : Below W.heap.size W W1) : W1.cell? a = some v := (b.cell (World.block_lt_of_cell? W _ h)).trans h
theorem EL.below {W W1 : World} {ad : Addr} {x : S38} {A : Option Addr} {c : Nat} (h : EL W ad x A c) (b : Below W.heap.size W W1) : EL W1 ad x A c :=
  ⟨cell_keep h.h0 b, cell_keep h.h1 b, cell_keep h.h2 b, cell_keep h.h3 b, cell_keep h.h4 b, Kd.C_below h.hC b, h.hl⟩
theorem EL.cells {W : World} {ad : Addr} {x : S38} {A : Option Addr} {c : Nat} (h : EL W ad x A c) : W.cell? ad = some (.int .i64 x.f0) ∧ W.cell? ⟨ad.block, ad.off + 1, none⟩ = some (.int .i64 x.f1) ∧ W.cell? ⟨ad.block, ad.off + 2, none⟩ = some (.string x.f2) ∧ W.cell? ⟨ad.block, ad.off + 3, none⟩ = some (.int .i64 x.f3) ∧ W.cell? ⟨ad.block, ad.off + 4, none⟩ = some (.slice A x.f4.length c) :=
  ⟨h.h0, h.h1, h.h2, h.h3, h.h4⟩
theorem EL.cells2 {W : World} {b o : Nat} {x : S38} {A : Option Addr} {c : Nat} (h : EL W ⟨b, o, none⟩ x A c) : W.cell? ⟨b, o, none⟩ = some (.int .i64 x.f0) ∧ W.cell? ⟨b, o + 1, none⟩ = some (.int .i64 x.f1) ∧ W.cell? ⟨b, o + 2, none⟩ = some (.string x.f2) ∧ W.cell? ⟨b, o + 3, none⟩ = some (.int .i64 x.f3) ∧ W.cell? ⟨b, o + 4, none⟩ = some (.slice A x.f4.length c) :=
  ⟨h.h0, h.h1, h.h2, h.h3, h.h4⟩
theorem EL.one {w : World} {A : Option Addr} {x : S38} {xs : List S38} {n : Nat} (h : Kd.C k38 w A n (x :: xs)) (hn : 0 < n) : ∃ ad A' c', A = some ad ∧ EL w ad x A' c' := by
  obtain ⟨ad, A', c', e, h0, h1, h2, h3, h4, hl, hC⟩ := at_T38 h 0 (by decide) (by omega)
  have z : ad.add ((0 : Int).toNat * 5) = ad := by rw [show (0 : Int).toNat * 5 = 0 from rfl, Addr.add_zero']
  rw [z] at h0 h1 h2 h3 h4
  exact ⟨ad, A', c', e, h0, h1, h2, h3, h4, hC, hl⟩
theorem EL.two {w : World} {ad : Addr} {x y : S38} {xs : List S38} {n : Nat} (h : Kd.C k38 w (some ad) n (x :: y :: xs)) (hn : 1 < n) : ∃ A' c', EL w ⟨ad.block, ad.off + 5, none⟩ y A' c' := by
  obtain ⟨ad', A', c', e, h0, h1, h2, h3, h4, hl, hC⟩ := at_T38 h 1 (by decide) (by omega)
  injection e with e
  subst e
  exact ⟨A', c', h0, h1, h2, h3, h4, hC, hl⟩
theorem refx_L {W : World} {ad : Addr} {x : S38} {A : Option Addr} {c : Nat} (h : EL W ad x A c) (hx : okA x = true) (hn : cntE x ≤ 1000000) :
    Calls Try.prog 24 #[.agg #[.int .i64 x.f0, .int .i64 x.f1, .string x.f2, .int .i64 x.f3, .slice A x.f4.length c]] W fun r w' => r = .returned (.string (txt x)) ∧ Below W.heap.size W w' :=
  (ref_ok 100 48).use x.f0 x.f1 x.f2 x.f3 x.f4 x.f4.length A c (txt x) W (by rw [eta38]; exact ref_txt 48 x (okA_open hx).2 hn (okA_open hx).1) rfl h.hC h.hl
theorem rnum_L (a : Int) (ha : 0 ≤ a) (W : World) : Calls Try.prog 43 #[.int .i64 a] W fun r w' => r = .returned (.string (bs (textB a))) ∧ Below W.heap.size W w' :=
  outriderref01_Text.calls 100 a _ W (rtext_ok a ha)
def LinC (b : Nat) : Prop := ∀ (l : List S41) (A : Option Addr) (c n : Nat) (bl : ByteArray) (w : World), bl = blB n → n + b ≤ 20 → l.all (fitSt (fitB b)) = true → cntB l ≤ 1000 → Kd.C k41 w A l.length l → l.length ≤ c →
  Calls Try.prog 40 #[.slice A l.length c, .string bl] w (XPost (lTx l n) w)
theorem LinC.use {b : Nat} (h : LinC b) (l : List S41) (A : Option Addr) (c n : Nat) (bl : ByteArray) (w : World) (h0 : bl = blB n) (h1 : n + b ≤ 20) (h2 : l.all (fitSt (fitB b)) = true) (h3 : cntB l ≤ 1000) (h4 : Kd.C k41 w A l.length l) (h5 : l.length ≤ c) :
  Calls Try.prog 40 #[.slice A l.length c, .string bl] w fun r w' => r = .returned (.string (lTx l n)) ∧ Below w.heap.size w w' := h l A c n bl w h0 h1 h2 h3 h4 h5
theorem LinC.use1 {b : Nat} (h : LinC b) (y : S41) (A : Option Addr) (c n : Nat) (bl : ByteArray) (w : World) (h0 : bl = blB n) (h1 : n + b ≤ 20) (h2 : [y].all (fitSt (fitB b)) = true) (h3 : cntB [y] ≤ 1000) (h4 : Kd.C k41 w A 1 [y]) (h5 : 1 ≤ c) :
  Calls Try.prog 40 #[.slice A 1 c, .string bl] w fun r w' => r = .returned (.string (lTx [y] n)) ∧ Below w.heap.size w w' := h [y] A c n bl w h0 h1 h2 h3 h4 h5
def OneC (b : Nat) : Prop := ∀ (s : S41) (A3 A4 A5 : Option Addr) (c3 c4 c5 n : Nat) (bl : ByteArray) (w : World), bl = blB n → n + b ≤ 20 → fitSt (fitB b) s = true → cntS s ≤ 1000 → Kd.C k38 w A3 s.f3.length s.f3 → s.f3.length ≤ c3 → Kd.C k41 w A4 s.f4.length s.f4 → s.f4.length ≤ c4 → Kd.C k41 w A5 s.f5.length s.f5 → s.f5.length ≤ c5 →
  Calls Try.prog 63 #[.agg #[.int .i64 s.f0, .string s.f1, .int .i64 s.f2, .slice A3 s.f3.length c3, .slice A4 s.f4.length c4, .slice A5 s.f5.length c5], .string bl] w (XPost (sTx s n) w)
theorem OneC.use {b : Nat} (h : OneC b) (s : S41) (A3 A4 A5 : Option Addr) (c3 c4 c5 n : Nat) (bl : ByteArray) (w : World) (h0 : bl = blB n) (h1 : n + b ≤ 20) (h2 : fitSt (fitB b) s = true) (h3 : cntS s ≤ 1000) (h4 : Kd.C k38 w A3 s.f3.length s.f3) (h5 : s.f3.length ≤ c3) (h6 : Kd.C k41 w A4 s.f4.length s.f4) (h7 : s.f4.length ≤ c4) (h8 : Kd.C k41 w A5 s.f5.length s.f5) (h9 : s.f5.length ≤ c5) :
  Calls Try.prog 63 #[.agg #[.int .i64 s.f0, .string s.f1, .int .i64 s.f2, .slice A3 s.f3.length c3, .slice A4 s.f4.length c4, .slice A5 s.f5.length c5], .string bl] w fun r w' => r = .returned (.string (sTx s n)) ∧ Below w.heap.size w w' := h s A3 A4 A5 c3 c4 c5 n bl w h0 h1 h2 h3 h4 h5 h6 h7 h8 h9
set_option maxHeartbeats 8000000 in
set_option maxRecDepth 100000 in
theorem one_1 (x : S38) (f1 : ByteArray) (f2 : Int) (A3 : Option Addr) (c3 : Nat) (A4 : Option Addr) (L4 c4 : Nat) (A5 : Option Addr) (L5 c5 : Nat) (bl : ByteArray) (w : World) (hx : okA x = true) (hnx : cntE x ≤ 1000) (hf1 : f1.size ≤ 12) (hC3 : Kd.C k38 w A3 1 [x]) :
    Calls Try.prog 63 #[.agg #[.int .i64 1, .string f1, .int .i64 f2, .slice A3 1 c3, .slice A4 L4 c4, .slice A5 L5 c5], .string bl] w (XPost ((((⟨#[118, 97, 114, 32]⟩ ++ f1) ++ ⟨#[32, 61, 32]⟩) ++ txt x) ++ ⟨#[59, 10]⟩) w) := by
  have hu41 := Try.underlying41
  have hu38 := Try.underlying38
  obtain ⟨a3, Ax, cx, rfl, hE⟩ := EL.one hC3 (by omega)
  have HE := Aside0.mk hE
  have HQ := Aside0.mk (show okA x = true ∧ cntE x ≤ 1000000 from ⟨hx, by omega⟩)
  have hsx : (txt x).size ≤ 20000 := by have := txt_size x (okA_open hx).1; omega
  clear hC3 hE hx hnx
  have u0_ : (9223372036854775807 < 4 + f1.size) = False := eq_false (by omega)
  have u1_ : (9223372036854775807 < 4 + f1.size + 3) = False := eq_false (by omega)
  have u2_ : (9223372036854775807 < 4 + f1.size + 3 + (txt x).size) = False := eq_false (by omega)
  have u3_ : (9223372036854775807 < 4 + f1.size + 3 + (txt x).size + 2) = False := eq_false (by omega)
  obtain ⟨ez0, ez1, ez2, ez3, ez4⟩ := HE.out.cells
  go_enter Try.func63, Try.ntmps63
  go_wp2_with (first | ((with_reducible refine gate_dst (N := 2) rfl ?_); (try (refine gate_guard (by rfl) ?_; dsimp only)); refine box_event ?hg (N := 2) ?hd (cs := #[.int .i64 1, .string f1, .int .i64 f2, .slice (some a3) 1 c3, .slice A4 L4 c4, .slice A5 L5 c5]) (t := 41) ?hr ?_; (case hd => rfl); (case hg => rfl); (case hr => first | (go_simp; done) | (go_simp; rfl)); intro sb hg ws hbox hb; have m0_ := Aside0.mk (HE.out.below hb); have n0_ := Aside0.mk (show OX w ws _ _ _ _ _ _ _ _ _ _ _ _ sb from ⟨hbox, hb⟩); clear ez0 ez1 ez2 ez3 ez4 HE; clear hbox hg hb; have HX := n0_; clear n0_; have HE := m0_; clear m0_; obtain ⟨ez0, ez1, ez2, ez3, ez4⟩ := HE.out.cells; obtain ⟨⟨sz0, sz1, sz2, sz3, sz4, sz5⟩, sf0, sf1, sf2, sf3, sf4, sf5⟩ := six HX.out.be) | (go_at_call 24; (with_reducible refine (refx_L HE.out HQ.out.1 HQ.out.2).mono ?_); rintro r wn ⟨rfl, hb⟩; have n0_ := Aside0.mk (HX.out.below hb); have m0_ := Aside0.mk (HE.out.below hb); clear sz0 sz1 sz2 sz3 sz4 sz5 sf0 sf1 sf2 sf3 sf4 sf5; clear ez0 ez1 ez2 ez3 ez4 HE; clear HX hb; have HX := n0_; clear n0_; have HE := m0_; clear m0_; obtain ⟨ez0, ez1, ez2, ez3, ez4⟩ := HE.out.cells; obtain ⟨⟨sz0, sz1, sz2, sz3, sz4, sz5⟩, sf0, sf1, sf2, sf3, sf4, sf5⟩ := six HX.out.be))
  go_ret
  exact ⟨rfl, HX.out.hb⟩
set_option maxHeartbeats 8000000 in
set_option maxRecDepth 100000 in
theorem one_2 (x : S38) (f1 : ByteArray) (f2 : Int) (A3 : Option Addr) (c3 : Nat) (A4 : Option Addr) (L4 c4 : Nat) (A5 : Option Addr) (L5 c5 : Nat) (bl : ByteArray) (w : World) (hx : okA x = true) (hnx : cntE x ≤ 1000) (hf1 : f1.size ≤ 12) (hC3 : Kd.C k38 w A3 1 [x]) :
    Calls Try.prog 63 #[.agg #[.int .i64 2, .string f1, .int .i64 f2, .slice A3 1 c3, .slice A4 L4 c4, .slice A5 L5 c5], .string bl] w (XPost (((f1 ++ ⟨#[32, 61, 32]⟩) ++ txt x) ++ ⟨#[59, 10]⟩) w) := by
  have hu41 := Try.underlying41
  have hu38 := Try.underlying38
  obtain ⟨a3, Ax, cx, rfl, hE⟩ := EL.one hC3 (by omega)
  have HE := Aside0.mk hE
  have HQ := Aside0.mk (show okA x = true ∧ cntE x ≤ 1000000 from ⟨hx, by omega⟩)
  have hsx : (txt x).size ≤ 20000 := by have := txt_size x (okA_open hx).1; omega
  clear hC3 hE hx hnx
  have u0_ : (9223372036854775807 < f1.size + 3) = False := eq_false (by omega)
  have u1_ : (9223372036854775807 < f1.size + 3 + (txt x).size) = False := eq_false (by omega)
  have u2_ : (9223372036854775807 < f1.size + 3 + (txt x).size + 2) = False := eq_false (by omega)
  obtain ⟨ez0, ez1, ez2, ez3, ez4⟩ := HE.out.cells
  go_enter Try.func63, Try.ntmps63
  go_wp2_with (first | ((with_reducible refine gate_dst (N := 2) rfl ?_); (try (refine gate_guard (by rfl) ?_; dsimp only)); refine box_event ?hg (N := 2) ?hd (cs := #[.int .i64 2, .string f1, .int .i64 f2, .slice (some a3) 1 c3, .slice A4 L4 c4, .slice A5 L5 c5]) (t := 41) ?hr ?_; (case hd => rfl); (case hg => rfl); (case hr => first | (go_simp; done) | (go_simp; rfl)); intro sb hg ws hbox hb; have m0_ := Aside0.mk (HE.out.below hb); have n0_ := Aside0.mk (show OX w ws _ _ _ _ _ _ _ _ _ _ _ _ sb from ⟨hbox, hb⟩); clear ez0 ez1 ez2 ez3 ez4 HE; clear hbox hg hb; have HX := n0_; clear n0_; have HE := m0_; clear m0_; obtain ⟨ez0, ez1, ez2, ez3, ez4⟩ := HE.out.cells; obtain ⟨⟨sz0, sz1, sz2, sz3, sz4, sz5⟩, sf0, sf1, sf2, sf3, sf4, sf5⟩ := six HX.out.be) | (go_at_call 24; (with_reducible refine (refx_L HE.out HQ.out.1 HQ.out.2).mono ?_); rintro r wn ⟨rfl, hb⟩; have n0_ := Aside0.mk (HX.out.below hb); have m0_ := Aside0.mk (HE.out.below hb); clear sz0 sz1 sz2 sz3 sz4 sz5 sf0 sf1 sf2 sf3 sf4 sf5; clear ez0 ez1 ez2 ez3 ez4 HE; clear HX hb; have HX := n0_; clear n0_; have HE := m0_; clear m0_; obtain ⟨ez0, ez1, ez2, ez3, ez4⟩ := HE.out.cells; obtain ⟨⟨sz0, sz1, sz2, sz3, sz4, sz5⟩, sf0, sf1, sf2, sf3, sf4, sf5⟩ := six HX.out.be))
  go_ret
  exact ⟨rfl, HX.out.hb⟩
set_option maxHeartbeats 8000000 in
set_option maxRecDepth 100000 in
theorem one_3 (x y : S38) (f1 : ByteArray) (f2 : Int) (A3 : Option Addr) (c3 : Nat) (A4 : Option Addr) (L4 c4 : Nat) (A5 : Option Addr) (L5 c5 : Nat) (bl : ByteArray) (w : World) (hx : okA x = true) (hnx : cntE x ≤ 1000) (hy : okA y = true) (hny : cntE y ≤ 1000) (hC3 : Kd.C k38 w A3 2 [x, y]) :
    Calls Try.prog 63 #[.agg #[.int .i64 3, .string f1, .int .i64 f2, .slice A3 2 c3, .slice A4 L4 c4, .slice A5 L5 c5], .string bl] w (XPost ((((⟨#[109, 91]⟩ ++ txt x) ++ ⟨#[93, 32, 61, 32]⟩) ++ txt y) ++ ⟨#[59, 10]⟩) w) := by
  have hu41 := Try.underlying41
  have hu38 := Try.underlying38
  obtain ⟨a3, Ax, cx, rfl, hE⟩ := EL.one hC3 (by omega)
  have HE := Aside0.mk hE
  have HQ := Aside0.mk (show okA x = true ∧ cntE x ≤ 1000000 from ⟨hx, by omega⟩)
  have hsx : (txt x).size ≤ 20000 := by have := txt_size x (okA_open hx).1; omega
  obtain ⟨Ay, cy, hF⟩ := EL.two hC3 (by omega)
  have HF := Aside0.mk hF
  have HQ2 := Aside0.mk (show okA y = true ∧ cntE y ≤ 1000000 from ⟨hy, by omega⟩)
  have hsy : (txt y).size ≤ 20000 := by have := txt_size y (okA_open hy).1; omega
  clear hF hy hny
  clear hC3 hE hx hnx
  have u0_ : (9223372036854775807 < 2 + (txt x).size) = False := eq_false (by omega)
  have u1_ : (9223372036854775807 < 2 + (txt x).size + 4) = False := eq_false (by omega)
  have u2_ : (9223372036854775807 < 2 + (txt x).size + 4 + (txt y).size) = False := eq_false (by omega)
  have u3_ : (9223372036854775807 < 2 + (txt x).size + 4 + (txt y).size + 2) = False := eq_false (by omega)
  obtain ⟨ez0, ez1, ez2, ez3, ez4⟩ := HE.out.cells
  obtain ⟨ey0, ey1, ey2, ey3, ey4⟩ := HF.out.cells2
  go_enter Try.func63, Try.ntmps63
  go_wp2_with (first | ((with_reducible refine gate_dst (N := 2) rfl ?_); (try (refine gate_guard (by rfl) ?_; dsimp only)); refine box_event ?hg (N := 2) ?hd (cs := #[.int .i64 3, .string f1, .int .i64 f2, .slice (some a3) 2 c3, .slice A4 L4 c4, .slice A5 L5 c5]) (t := 41) ?hr ?_; (case hd => rfl); (case hg => rfl); (case hr => first | (go_simp; done) | (go_simp; rfl)); intro sb hg ws hbox hb; have m0_ := Aside0.mk (HE.out.below hb); have m1_ := Aside0.mk (HF.out.below hb); have n0_ := Aside0.mk (show OX w ws _ _ _ _ _ _ _ _ _ _ _ _ sb from ⟨hbox, hb⟩); clear ez0 ez1 ez2 ez3 ez4 HE; clear ey0 ey1 ey2 ey3 ey4 HF; clear hbox hg hb; have HX := n0_; clear n0_; have HE := m0_; clear m0_; obtain ⟨ez0, ez1, ez2, ez3, ez4⟩ := HE.out.cells; have HF := m1_; clear m1_; obtain ⟨ey0, ey1, ey2, ey3, ey4⟩ := HF.out.cells2; obtain ⟨⟨sz0, sz1, sz2, sz3, sz4, sz5⟩, sf0, sf1, sf2, sf3, sf4, sf5⟩ := six HX.out.be) | (go_at_call 24; first | ((with_reducible refine (refx_L HE.out HQ.out.1 HQ.out.2).mono ?_); rintro r wn ⟨rfl, hb⟩; have n0_ := Aside0.mk (HX.out.below hb); have m0_ := Aside0.mk (HE.out.below hb); have m1_ := Aside0.mk (HF.out.below hb); clear sz0 sz1 sz2 sz3 sz4 sz5 sf0 sf1 sf2 sf3 sf4 sf5; clear ez0 ez1 ez2 ez3 ez4 HE; clear ey0 ey1 ey2 ey3 ey4 HF; clear HX hb; have HX := n0_; clear n0_; have HE := m0_; clear m0_; obtain ⟨ez0, ez1, ez2, ez3, ez4⟩ := HE.out.cells; have HF := m1_; clear m1_; obtain ⟨ey0, ey1, ey2, ey3, ey4⟩ := HF.out.cells2; obtain ⟨⟨sz0, sz1, sz2, sz3, sz4, sz5⟩, sf0, sf1, sf2, sf3, sf4, sf5⟩ := six HX.out.be) | ((with_reducible refine (refx_L HF.out HQ2.out.1 HQ2.out.2).mono ?_); rintro r wn ⟨rfl, hb⟩; have n0_ := Aside0.mk (HX.out.below hb); have m0_ := Aside0.mk (HE.out.below hb); have m1_ := Aside0.mk (HF.out.below hb); clear sz0 sz1 sz2 sz3 sz4 sz5 sf0 sf1 sf2 sf3 sf4 sf5; clear ez0 ez1 ez2 ez3 ez4 HE; clear ey0 ey1 ey2 ey3 ey4 HF; clear HX hb; have HX := n0_; clear n0_; have HE := m0_; clear m0_; obtain ⟨ez0, ez1, ez2, ez3, ez4⟩ := HE.out.cells; have HF := m1_; clear m1_; obtain ⟨ey0, ey1, ey2, ey3, ey4⟩ := HF.out.cells2; obtain ⟨⟨sz0, sz1, sz2, sz3, sz4, sz5⟩, sf0, sf1, sf2, sf3, sf4, sf5⟩ := six HX.out.be)))
  go_ret
  exact ⟨rfl, HX.out.hb⟩
set_option maxHeartbeats 8000000 in
set_option maxRecDepth 100000 in
theorem one_4 (x : S38) (f1 : ByteArray) (f2 : Int) (A3 : Option Addr) (c3 : Nat) (A4 : Option Addr) (L4 c4 : Nat) (A5 : Option Addr) (L5 c5 : Nat) (bl : ByteArray) (w : World) (hx : okA x = true) (hnx : cntE x ≤ 1000) (hC3 : Kd.C k38 w A3 1 [x]) :
    Calls Try.prog 63 #[.agg #[.int .i64 4, .string f1, .int .i64 f2, .slice A3 1 c3, .slice A4 L4 c4, .slice A5 L5 c5], .string bl] w (XPost ((⟨#[101, 109, 105, 116, 32]⟩ ++ txt x) ++ ⟨#[59, 10]⟩) w) := by
  have hu41 := Try.underlying41
  have hu38 := Try.underlying38
  obtain ⟨a3, Ax, cx, rfl, hE⟩ := EL.one hC3 (by omega)
  have HE := Aside0.mk hE
  have HQ := Aside0.mk (show okA x = true ∧ cntE x ≤ 1000000 from ⟨hx, by omega⟩)
  have hsx : (txt x).size ≤ 20000 := by have := txt_size x (okA_open hx).1; omega
  clear hC3 hE hx hnx
  have u0_ : (9223372036854775807 < 5 + (txt x).size) = False := eq_false (by omega)
  have u1_ : (9223372036854775807 < 5 + (txt x).size + 2) = False := eq_false (by omega)
  obtain ⟨ez0, ez1, ez2, ez3, ez4⟩ := HE.out.cells
  go_enter Try.func63, Try.ntmps63
  go_wp2_with (first | ((with_reducible refine gate_dst (N := 2) rfl ?_); (try (refine gate_guard (by rfl) ?_; dsimp only)); refine box_event ?hg (N := 2) ?hd (cs := #[.int .i64 4, .string f1, .int .i64 f2, .slice (some a3) 1 c3, .slice A4 L4 c4, .slice A5 L5 c5]) (t := 41) ?hr ?_; (case hd => rfl); (case hg => rfl); (case hr => first | (go_simp; done) | (go_simp; rfl)); intro sb hg ws hbox hb; have m0_ := Aside0.mk (HE.out.below hb); have n0_ := Aside0.mk (show OX w ws _ _ _ _ _ _ _ _ _ _ _ _ sb from ⟨hbox, hb⟩); clear ez0 ez1 ez2 ez3 ez4 HE; clear hbox hg hb; have HX := n0_; clear n0_; have HE := m0_; clear m0_; obtain ⟨ez0, ez1, ez2, ez3, ez4⟩ := HE.out.cells; obtain ⟨⟨sz0, sz1, sz2, sz3, sz4, sz5⟩, sf0, sf1, sf2, sf3, sf4, sf5⟩ := six HX.out.be) | (go_at_call 24; (with_reducible refine (refx_L HE.out HQ.out.1 HQ.out.2).mono ?_); rintro r wn ⟨rfl, hb⟩; have n0_ := Aside0.mk (HX.out.below hb); have m0_ := Aside0.mk (HE.out.below hb); clear sz0 sz1 sz2 sz3 sz4 sz5 sf0 sf1 sf2 sf3 sf4 sf5; clear ez0 ez1 ez2 ez3 ez4 HE; clear HX hb; have HX := n0_; clear n0_; have HE := m0_; clear m0_; obtain ⟨ez0, ez1, ez2, ez3, ez4⟩ := HE.out.cells; obtain ⟨⟨sz0, sz1, sz2, sz3, sz4, sz5⟩, sf0, sf1, sf2, sf3, sf4, sf5⟩ := six HX.out.be))
  go_ret
  exact ⟨rfl, HX.out.hb⟩
set_option maxHeartbeats 8000000 in
set_option maxRecDepth 100000 in
theorem one_8 (x : S38) (f1 : ByteArray) (f2 : Int) (A3 : Option Addr) (c3 : Nat) (A4 : Option Addr) (L4 c4 : Nat) (A5 : Option Addr) (L5 c5 : Nat) (bl : ByteArray) (w : World) (hx : okA x = true) (hnx : cntE x ≤ 1000) (hC3 : Kd.C k38 w A3 1 [x]) :
    Calls Try.prog 63 #[.agg #[.int .i64 8, .string f1, .int .i64 f2, .slice A3 1 c3, .slice A4 L4 c4, .slice A5 L5 c5], .string bl] w (XPost ((⟨#[102, 97, 105, 108, 32]⟩ ++ txt x) ++ ⟨#[59, 10]⟩) w) := by
  have hu41 := Try.underlying41
  have hu38 := Try.underlying38
  obtain ⟨a3, Ax, cx, rfl, hE⟩ := EL.one hC3 (by omega)
  have HE := Aside0.mk hE
  have HQ := Aside0.mk (show okA x = true ∧ cntE x ≤ 1000000 from ⟨hx, by omega⟩)
  have hsx : (txt x).size ≤ 20000 := by have := txt_size x (okA_open hx).1; omega
  clear hC3 hE hx hnx
  have u0_ : (9223372036854775807 < 5 + (txt x).size) = False := eq_false (by omega)
  have u1_ : (9223372036854775807 < 5 + (txt x).size + 2) = False := eq_false (by omega)
  obtain ⟨ez0, ez1, ez2, ez3, ez4⟩ := HE.out.cells
  go_enter Try.func63, Try.ntmps63
  go_wp2_with (first | ((with_reducible refine gate_dst (N := 2) rfl ?_); (try (refine gate_guard (by rfl) ?_; dsimp only)); refine box_event ?hg (N := 2) ?hd (cs := #[.int .i64 8, .string f1, .int .i64 f2, .slice (some a3) 1 c3, .slice A4 L4 c4, .slice A5 L5 c5]) (t := 41) ?hr ?_; (case hd => rfl); (case hg => rfl); (case hr => first | (go_simp; done) | (go_simp; rfl)); intro sb hg ws hbox hb; have m0_ := Aside0.mk (HE.out.below hb); have n0_ := Aside0.mk (show OX w ws _ _ _ _ _ _ _ _ _ _ _ _ sb from ⟨hbox, hb⟩); clear ez0 ez1 ez2 ez3 ez4 HE; clear hbox hg hb; have HX := n0_; clear n0_; have HE := m0_; clear m0_; obtain ⟨ez0, ez1, ez2, ez3, ez4⟩ := HE.out.cells; obtain ⟨⟨sz0, sz1, sz2, sz3, sz4, sz5⟩, sf0, sf1, sf2, sf3, sf4, sf5⟩ := six HX.out.be) | (go_at_call 24; (with_reducible refine (refx_L HE.out HQ.out.1 HQ.out.2).mono ?_); rintro r wn ⟨rfl, hb⟩; have n0_ := Aside0.mk (HX.out.below hb); have m0_ := Aside0.mk (HE.out.below hb); clear sz0 sz1 sz2 sz3 sz4 sz5 sf0 sf1 sf2 sf3 sf4 sf5; clear ez0 ez1 ez2 ez3 ez4 HE; clear HX hb; have HX := n0_; clear n0_; have HE := m0_; clear m0_; obtain ⟨ez0, ez1, ez2, ez3, ez4⟩ := HE.out.cells; obtain ⟨⟨sz0, sz1, sz2, sz3, sz4, sz5⟩, sf0, sf1, sf2, sf3, sf4, sf5⟩ := six HX.out.be))
  go_ret
  exact ⟨rfl, HX.out.hb⟩
set_option maxHeartbeats 8000000 in
set_option maxRecDepth 100000 in
theorem one_5 (x : S38) (f1 : ByteArray) (f2 : Int) (A3 : Option Addr) (c3 : Nat) (A4 : Option Addr) (L4 c4 : Nat) (A5 : Option Addr) (L5 c5 : Nat) (bl : ByteArray) (w : World) (hx : okA x = true) (hnx : cntE x ≤ 1000) (hf2 : 0 ≤ f2) (hC3 : Kd.C k38 w A3 1 [x]) :
    Calls Try.prog 63 #[.agg #[.int .i64 5, .string f1, .int .i64 f2, .slice A3 1 c3, .slice A4 L4 c4, .slice A5 L5 c5], .string bl] w (XPost ((((⟨#[105, 110, 116, 111, 32]⟩ ++ bs (textB f2)) ++ ⟨#[32]⟩) ++ txt x) ++ ⟨#[59, 10]⟩) w) := by
  have hu41 := Try.underlying41
  have hu38 := Try.underlying38
  obtain ⟨a3, Ax, cx, rfl, hE⟩ := EL.one hC3 (by omega)
  have HE := Aside0.mk hE
  have HQ := Aside0.mk (show okA x = true ∧ cntE x ≤ 1000000 from ⟨hx, by omega⟩)
  have hsx : (txt x).size ≤ 20000 := by have := txt_size x (okA_open hx).1; omega
  clear hC3 hE hx hnx
  have hsn : (bs (textB f2)).size ≤ 20 := by rw [size_bs]; exact textB_len f2 hf2
  have HF2 := Aside0.mk hf2
  clear hf2
  have u0_ : (9223372036854775807 < 5 + (bs (textB f2)).size) = False := eq_false (by omega)
  have u1_ : (9223372036854775807 < 5 + (bs (textB f2)).size + 1) = False := eq_false (by omega)
  have u2_ : (9223372036854775807 < 5 + (bs (textB f2)).size + 1 + (txt x).size) = False := eq_false (by omega)
  have u3_ : (9223372036854775807 < 5 + (bs (textB f2)).size + 1 + (txt x).size + 2) = False := eq_false (by omega)
  obtain ⟨ez0, ez1, ez2, ez3, ez4⟩ := HE.out.cells
  go_enter Try.func63, Try.ntmps63
  go_wp2_with (first | ((with_reducible refine gate_dst (N := 2) rfl ?_); (try (refine gate_guard (by rfl) ?_; dsimp only)); refine box_event ?hg (N := 2) ?hd (cs := #[.int .i64 5, .string f1, .int .i64 f2, .slice (some a3) 1 c3, .slice A4 L4 c4, .slice A5 L5 c5]) (t := 41) ?hr ?_; (case hd => rfl); (case hg => rfl); (case hr => first | (go_simp; done) | (go_simp; rfl)); intro sb hg ws hbox hb; have m0_ := Aside0.mk (HE.out.below hb); have n0_ := Aside0.mk (show OX w ws _ _ _ _ _ _ _ _ _ _ _ _ sb from ⟨hbox, hb⟩); clear ez0 ez1 ez2 ez3 ez4 HE; clear hbox hg hb; have HX := n0_; clear n0_; have HE := m0_; clear m0_; obtain ⟨ez0, ez1, ez2, ez3, ez4⟩ := HE.out.cells; obtain ⟨⟨sz0, sz1, sz2, sz3, sz4, sz5⟩, sf0, sf1, sf2, sf3, sf4, sf5⟩ := six HX.out.be) | (go_at_call 24; (with_reducible refine (refx_L HE.out HQ.out.1 HQ.out.2).mono ?_); rintro r wn ⟨rfl, hb⟩; have n0_ := Aside0.mk (HX.out.below hb); have m0_ := Aside0.mk (HE.out.below hb); clear sz0 sz1 sz2 sz3 sz4 sz5 sf0 sf1 sf2 sf3 sf4 sf5; clear ez0 ez1 ez2 ez3 ez4 HE; clear HX hb; have HX := n0_; clear n0_; have HE := m0_; clear m0_; obtain ⟨ez0, ez1, ez2, ez3, ez4⟩ := HE.out.cells; obtain ⟨⟨sz0, sz1, sz2, sz3, sz4, sz5⟩, sf0, sf1, sf2, sf3, sf4, sf5⟩ := six HX.out.be) | (go_at_call 43; (with_reducible refine (rnum_L f2 HF2.out _).mono ?_); rintro r wn ⟨rfl, hb⟩; have n0_ := Aside0.mk (HX.out.below hb); have m0_ := Aside0.mk (HE.out.below hb); clear sz0 sz1 sz2 sz3 sz4 sz5 sf0 sf1 sf2 sf3 sf4 sf5; clear ez0 ez1 ez2 ez3 ez4 HE; clear HX hb; have HX := n0_; clear n0_; have HE := m0_; clear m0_; obtain ⟨ez0, ez1, ez2, ez3, ez4⟩ := HE.out.cells; obtain ⟨⟨sz0, sz1, sz2, sz3, sz4, sz5⟩, sf0, sf1, sf2, sf3, sf4, sf5⟩ := six HX.out.be))
  go_ret
  exact ⟨rfl, HX.out.hb⟩
set_option maxHeartbeats 8000000 in
set_option maxRecDepth 100000 in
theorem one_9 (f1 : ByteArray) (f2 : Int) (A3 : Option Addr) (c3 : Nat) (A4 : Option Addr) (L4 c4 : Nat) (A5 : Option Addr) (L5 c5 : Nat) (bl : ByteArray) (w : World) (hC3 : Kd.C k38 w A3 0 []) :
    Calls Try.prog 63 #[.agg #[.int .i64 9, .string f1, .int .i64 f2, .slice A3 0 c3, .slice A4 L4 c4, .slice A5 L5 c5], .string bl] w (XPost (⟨#[115, 116, 111, 112, 59, 10]⟩) w) := by
  have hu41 := Try.underlying41
  have hu38 := Try.underlying38
  clear hC3
  go_enter Try.func63, Try.ntmps63
  go_wp2_with (first | ((with_reducible refine gate_dst (N := 2) rfl ?_); (try (refine gate_guard (by rfl) ?_; dsimp only)); refine box_event ?hg (N := 2) ?hd (cs := #[.int .i64 9, .string f1, .int .i64 f2, .slice A3 0 c3, .slice A4 L4 c4, .slice A5 L5 c5]) (t := 41) ?hr ?_; (case hd => rfl); (case hg => rfl); (case hr => first | (go_simp; done) | (go_simp; rfl)); intro sb hg ws hbox hb; have n0_ := Aside0.mk (show OX w ws _ _ _ _ _ _ _ _ _ _ _ _ sb from ⟨hbox, hb⟩); clear hbox hg hb; have HX := n0_; clear n0_; obtain ⟨⟨sz0, sz1, sz2, sz3, sz4, sz5⟩, sf0, sf1, sf2, sf3, sf4, sf5⟩ := six HX.out.be))
  go_ret
  exact ⟨rfl, HX.out.hb⟩
structure ES (W : World) (ad : Addr) (y : S41) (B3 : Option Addr) (d3 : Nat) (B4 : Option Addr) (d4 : Nat) (B5 : Option Addr) (d5 : Nat) : Prop where
  h0 : W.cell? ad = some (.int .i64 y.f0)
  h1 : W.cell? ⟨ad.block, ad.off + 1, none⟩ = some (.string y.f1)
  h2 : W.cell? ⟨ad.block, ad.off + 2, none⟩ = some (.int .i64 y.f2)
  h3 : W.cell? ⟨ad.block, ad.off + 3, none⟩ = some (.slice B3 y.f3.length d3)
  h4 : W.cell? ⟨ad.block, ad.off + 4, none⟩ = some (.slice B4 y.f4.length d4)
  h5 : W.cell? ⟨ad.block, ad.off + 5, none⟩ = some (.slice B5 y.f5.length d5)
  l3 : y.f3.length ≤ d3
  l4 : y.f4.length ≤ d4
  l5 : y.f5.length ≤ d5
  g3 : k38.C W B3 y.f3.length y.f3
  g4 : k41.C W B4 y.f4.length y.f4
  g5 : k41.C W B5 y.f5.length y.f5
theorem ES.below {W W1 : World} {ad : Addr} {y : S41} {B3 : Option Addr} {d3 : Nat} {B4 : Option Addr} {d4 : Nat} {B5 : Option Addr} {d5 : Nat} (h : ES W ad y B3 d3 B4 d4 B5 d5) (b : Below W.heap.size W W1) : ES W1 ad y B3 d3 B4 d4 B5 d5 :=
  ⟨cell_keep h.h0 b, cell_keep h.h1 b, cell_keep h.h2 b, cell_keep h.h3 b, cell_keep h.h4 b, cell_keep h.h5 b, h.l3, h.l4, h.l5, Kd.C_below h.g3 b, Kd.C_below h.g4 b, Kd.C_below h.g5 b⟩
theorem ES.cells {W : World} {ad : Addr} {y : S41} {B3 : Option Addr} {d3 : Nat} {B4 : Option Addr} {d4 : Nat} {B5 : Option Addr} {d5 : Nat} (h : ES W ad y B3 d3 B4 d4 B5 d5) : W.cell? ad = some (.int .i64 y.f0) ∧ W.cell? ⟨ad.block, ad.off + 1, none⟩ = some (.string y.f1) ∧ W.cell? ⟨ad.block, ad.off + 2, none⟩ = some (.int .i64 y.f2) ∧ W.cell? ⟨ad.block, ad.off + 3, none⟩ = some (.slice B3 y.f3.length d3) ∧ W.cell? ⟨ad.block, ad.off + 4, none⟩ = some (.slice B4 y.f4.length d4) ∧ W.cell? ⟨ad.block, ad.off + 5, none⟩ = some (.slice B5 y.f5.length d5) :=
  ⟨h.h0, h.h1, h.h2, h.h3, h.h4, h.h5⟩
theorem ES.one {w : World} {A : Option Addr} {y : S41} {ys : List S41} {n : Nat} (h : Kd.C k41 w A n (y :: ys)) (hn : 0 < n) : ∃ ad B3 d3 B4 d4 B5 d5, A = some ad ∧ ES w ad y B3 d3 B4 d4 B5 d5 := by
  obtain ⟨ad, B3, d3, B4, d4, B5, d5, e, h0, h1, h2, h3, h4, h5, l3, g3, l4, g4, l5, g5⟩ := at_T41 h 0 (by decide) (by omega)
  have z : ad.add ((0 : Int).toNat * 6) = ad := by rw [show (0 : Int).toNat * 6 = 0 from rfl, Addr.add_zero']
  rw [z] at h0 h1 h2 h3 h4 h5
  exact ⟨ad, B3, d3, B4, d4, B5, d5, e, h0, h1, h2, h3, h4, h5, l3, l4, l5, g3, g4, g5⟩
set_option maxHeartbeats 8000000 in
set_option maxRecDepth 100000 in
theorem one_7 (b : Nat) (LC0 : LinC b) (x : S38) (f1 : ByteArray) (f2 : Int) (A3 : Option Addr) (c3 : Nat) (A4 : Option Addr) (c4 : Nat) (l4 : List S41) (A5 : Option Addr) (c5 : Nat) (n : Nat) (bl : ByteArray) (w : World) (L5 : Nat) (hbl : bl = blB n) (hn : n + 1 + b ≤ 20) (h4 : l4.all (fitSt (fitB b)) = true) (hc4 : cntB l4 ≤ 1000) (hl4 : l4.length ≤ c4) (hC4 : Kd.C k41 w A4 l4.length l4) (hx : okA x = true) (hnx : cntE x ≤ 1000) (hC3 : Kd.C k38 w A3 1 [x]) :
    Calls Try.prog 63 #[.agg #[.int .i64 7, .string f1, .int .i64 f2, .slice A3 1 c3, .slice A4 l4.length c4, .slice A5 L5 c5], .string bl] w (XPost (((((⟨#[119, 104, 105, 108, 101, 32, 40]⟩ ++ txt x) ++ ⟨#[41, 32, 123, 10]⟩) ++ lTx l4 (n + 1)) ++ bl) ++ ⟨#[125, 10]⟩) w) := by
  have hu41 := Try.underlying41
  have hu38 := Try.underlying38
  obtain ⟨a3, Ax, cx, rfl, hE⟩ := EL.one hC3 (by omega)
  have HE := Aside0.mk hE
  have HQ := Aside0.mk (show okA x = true ∧ cntE x ≤ 1000000 from ⟨hx, by omega⟩)
  have hsx : (txt x).size ≤ 20000 := by have := txt_size x (okA_open hx).1; omega
  have hsl : (lTx l4 (n + 1)).size ≤ 190000 := by have := lsizes b l4 h4 (n + 1) (by omega); omega
  have hsb : bl.size ≤ 40 := by rw [hbl, blB_size]; omega
  have LC := Aside0.mk LC0
  have HBL := Aside0.mk hbl
  have HN := Aside0.mk hn
  have H4 := Aside0.mk (show l4.all (fitSt (fitB b)) = true ∧ cntB l4 ≤ 1000 ∧ l4.length ≤ c4 from ⟨h4, hc4, hl4⟩)
  have HC4 := Aside0.mk hC4
  clear hC3 hE hx hnx LC0 hbl hn h4 hc4 hl4 hC4
  have u0_ : (9223372036854775807 < bl.size + 2) = False := eq_false (by omega)
  have u1_ : (9223372036854775807 < 7 + (txt x).size) = False := eq_false (by omega)
  have u2_ : (9223372036854775807 < 7 + (txt x).size + 4) = False := eq_false (by omega)
  have u3_ : (9223372036854775807 < 7 + (txt x).size + 4 + (lTx l4 (n + 1)).size) = False := eq_false (by omega)
  have u4_ : (9223372036854775807 < 7 + (txt x).size + 4 + (lTx l4 (n + 1)).size + bl.size) = False := eq_false (by omega)
  have u5_ : (9223372036854775807 < 7 + (txt x).size + 4 + (lTx l4 (n + 1)).size + bl.size + 2) = False := eq_false (by omega)
  obtain ⟨ez0, ez1, ez2, ez3, ez4⟩ := HE.out.cells
  go_enter Try.func63, Try.ntmps63
  go_wp2_with (first | ((with_reducible refine gate_dst (N := 2) rfl ?_); (try (refine gate_guard (by rfl) ?_; dsimp only)); refine box_event ?hg (N := 2) ?hd (cs := #[.int .i64 7, .string f1, .int .i64 f2, .slice (some a3) 1 c3, .slice A4 l4.length c4, .slice A5 L5 c5]) (t := 41) ?hr ?_; (case hd => rfl); (case hg => rfl); (case hr => first | (go_simp; done) | (go_simp; rfl)); intro sb hg ws hbox hb; have m0_ := Aside0.mk (HE.out.below hb); have n0_ := Aside0.mk (show OX w ws _ _ _ _ _ _ _ _ _ _ _ _ sb from ⟨hbox, hb⟩); clear ez0 ez1 ez2 ez3 ez4 HE; clear hbox hg hb; have HX := n0_; clear n0_; have HE := m0_; clear m0_; obtain ⟨ez0, ez1, ez2, ez3, ez4⟩ := HE.out.cells; obtain ⟨⟨sz0, sz1, sz2, sz3, sz4, sz5⟩, sf0, sf1, sf2, sf3, sf4, sf5⟩ := six HX.out.be) | (go_at_call 24; (with_reducible refine (refx_L HE.out HQ.out.1 HQ.out.2).mono ?_); rintro r wn ⟨rfl, hb⟩; have n0_ := Aside0.mk (HX.out.below hb); have m0_ := Aside0.mk (HE.out.below hb); clear sz0 sz1 sz2 sz3 sz4 sz5 sf0 sf1 sf2 sf3 sf4 sf5; clear ez0 ez1 ez2 ez3 ez4 HE; clear HX hb; have HX := n0_; clear n0_; have HE := m0_; clear m0_; obtain ⟨ez0, ez1, ez2, ez3, ez4⟩ := HE.out.cells; obtain ⟨⟨sz0, sz1, sz2, sz3, sz4, sz5⟩, sf0, sf1, sf2, sf3, sf4, sf5⟩ := six HX.out.be) | (go_at_call 40; (with_reducible refine (LC.out.use l4 A4 c4 (n + 1) _ _ (by rw [HBL.out, blB_succ]) HN.out H4.out.1 H4.out.2.1 (Kd.C_below HC4.out HX.out.hb) H4.out.2.2).mono ?_); rintro r wn ⟨rfl, hb⟩; have n0_ := Aside0.mk (HX.out.below hb); have m0_ := Aside0.mk (HE.out.below hb); clear sz0 sz1 sz2 sz3 sz4 sz5 sf0 sf1 sf2 sf3 sf4 sf5; clear ez0 ez1 ez2 ez3 ez4 HE; clear HX hb; have HX := n0_; clear n0_; have HE := m0_; clear m0_; obtain ⟨ez0, ez1, ez2, ez3, ez4⟩ := HE.out.cells; obtain ⟨⟨sz0, sz1, sz2, sz3, sz4, sz5⟩, sf0, sf1, sf2, sf3, sf4, sf5⟩ := six HX.out.be))
  go_ret
  exact ⟨rfl, HX.out.hb⟩
set_option maxHeartbeats 8000000 in
set_option maxRecDepth 100000 in
theorem one_6a (b : Nat) (LC0 : LinC b) (x : S38) (f1 : ByteArray) (f2 : Int) (A3 : Option Addr) (c3 : Nat) (A4 : Option Addr) (c4 : Nat) (l4 : List S41) (A5 : Option Addr) (c5 : Nat) (n : Nat) (bl : ByteArray) (w : World) (hbl : bl = blB n) (hn : n + 1 + b ≤ 20) (h4 : l4.all (fitSt (fitB b)) = true) (hc4 : cntB l4 ≤ 1000) (hl4 : l4.length ≤ c4) (hC4 : Kd.C k41 w A4 l4.length l4) (hx : okA x = true) (hnx : cntE x ≤ 1000) (hC3 : Kd.C k38 w A3 1 [x]) :
    Calls Try.prog 63 #[.agg #[.int .i64 6, .string f1, .int .i64 f2, .slice A3 1 c3, .slice A4 l4.length c4, .slice A5 0 c5], .string bl] w (XPost ((((((⟨#[105, 102, 32, 40]⟩ ++ txt x) ++ ⟨#[41, 32, 123, 10]⟩) ++ lTx l4 (n + 1)) ++ bl) ++ ⟨#[125]⟩) ++ ⟨#[10]⟩) w) := by
  have hu41 := Try.underlying41
  have hu38 := Try.underlying38
  obtain ⟨a3, Ax, cx, rfl, hE⟩ := EL.one hC3 (by omega)
  have HE := Aside0.mk hE
  have HQ := Aside0.mk (show okA x = true ∧ cntE x ≤ 1000000 from ⟨hx, by omega⟩)
  have hsx : (txt x).size ≤ 20000 := by have := txt_size x (okA_open hx).1; omega
  have hsl : (lTx l4 (n + 1)).size ≤ 190000 := by have := lsizes b l4 h4 (n + 1) (by omega); omega
  have hsb : bl.size ≤ 40 := by rw [hbl, blB_size]; omega
  have LC := Aside0.mk LC0
  have HBL := Aside0.mk hbl
  have HN := Aside0.mk hn
  have H4 := Aside0.mk (show l4.all (fitSt (fitB b)) = true ∧ cntB l4 ≤ 1000 ∧ l4.length ≤ c4 from ⟨h4, hc4, hl4⟩)
  have HC4 := Aside0.mk hC4
  clear hC3 hE hx hnx LC0 hbl hn h4 hc4 hl4 hC4
  have u0_ : (9223372036854775807 < bl.size + 2) = False := eq_false (by omega)
  have u1_ : (9223372036854775807 < 4 + (txt x).size) = False := eq_false (by omega)
  have u2_ : (9223372036854775807 < 4 + (txt x).size + 4) = False := eq_false (by omega)
  have u3_ : (9223372036854775807 < 4 + (txt x).size + 4 + (lTx l4 (n + 1)).size) = False := eq_false (by omega)
  have u4_ : (9223372036854775807 < 4 + (txt x).size + 4 + (lTx l4 (n + 1)).size + bl.size) = False := eq_false (by omega)
  have u5_ : (9223372036854775807 < 4 + (txt x).size + 4 + (lTx l4 (n + 1)).size + bl.size + 1) = False := eq_false (by omega)
  have u6_ : (9223372036854775807 < 4 + (txt x).size + 4 + (lTx l4 (n + 1)).size + bl.size + 1 + 1) = False := eq_false (by omega)
  obtain ⟨ez0, ez1, ez2, ez3, ez4⟩ := HE.out.cells
  go_enter Try.func63, Try.ntmps63
  go_wp2_with (first | ((with_reducible refine gate_dst (N := 2) rfl ?_); (try (refine gate_guard (by rfl) ?_; dsimp only)); refine box_event ?hg (N := 2) ?hd (cs := #[.int .i64 6, .string f1, .int .i64 f2, .slice (some a3) 1 c3, .slice A4 l4.length c4, .slice A5 0 c5]) (t := 41) ?hr ?_; (case hd => rfl); (case hg => rfl); (case hr => first | (go_simp; done) | (go_simp; rfl)); intro sb hg ws hbox hb; have m0_ := Aside0.mk (HE.out.below hb); have n0_ := Aside0.mk (show OX w ws _ _ _ _ _ _ _ _ _ _ _ _ sb from ⟨hbox, hb⟩); clear ez0 ez1 ez2 ez3 ez4 HE; clear hbox hg hb; have HX := n0_; clear n0_; have HE := m0_; clear m0_; obtain ⟨ez0, ez1, ez2, ez3, ez4⟩ := HE.out.cells; obtain ⟨⟨sz0, sz1, sz2, sz3, sz4, sz5⟩, sf0, sf1, sf2, sf3, sf4, sf5⟩ := six HX.out.be) | (go_at_call 24; (with_reducible refine (refx_L HE.out HQ.out.1 HQ.out.2).mono ?_); rintro r wn ⟨rfl, hb⟩; have n0_ := Aside0.mk (HX.out.below hb); have m0_ := Aside0.mk (HE.out.below hb); clear sz0 sz1 sz2 sz3 sz4 sz5 sf0 sf1 sf2 sf3 sf4 sf5; clear ez0 ez1 ez2 ez3 ez4 HE; clear HX hb; have HX := n0_; clear n0_; have HE := m0_; clear m0_; obtain ⟨ez0, ez1, ez2, ez3, ez4⟩ := HE.out.cells; obtain ⟨⟨sz0, sz1, sz2, sz3, sz4, sz5⟩, sf0, sf1, sf2, sf3, sf4, sf5⟩ := six HX.out.be) | (go_at_call 40; (with_reducible refine (LC.out.use l4 A4 c4 (n + 1) _ _ (by rw [HBL.out, blB_succ]) HN.out H4.out.1 H4.out.2.1 (Kd.C_below HC4.out HX.out.hb) H4.out.2.2).mono ?_); rintro r wn ⟨rfl, hb⟩; have n0_ := Aside0.mk (HX.out.below hb); have m0_ := Aside0.mk (HE.out.below hb); clear sz0 sz1 sz2 sz3 sz4 sz5 sf0 sf1 sf2 sf3 sf4 sf5; clear ez0 ez1 ez2 ez3 ez4 HE; clear HX hb; have HX := n0_; clear n0_; have HE := m0_; clear m0_; obtain ⟨ez0, ez1, ez2, ez3, ez4⟩ := HE.out.cells; obtain ⟨⟨sz0, sz1, sz2, sz3, sz4, sz5⟩, sf0, sf1, sf2, sf3, sf4, sf5⟩ := six HX.out.be))
  go_ret
  exact ⟨rfl, HX.out.hb⟩
set_option maxHeartbeats 8000000 in
set_option maxRecDepth 100000 in
theorem one_6b (b : Nat) (LC0 : LinC b) (x : S38) (f1 : ByteArray) (f2 : Int) (A3 : Option Addr) (c3 : Nat) (A4 : Option Addr) (c4 : Nat) (l4 : List S41) (A5 : Option Addr) (c5 : Nat) (n : Nat) (bl : ByteArray) (w : World) (OC0 : OneC b) (y : S41) (hy : fitSt (fitB b) y = true) (hy6 : y.f0 = 6) (hcy : cntS y ≤ 1000) (hC5 : Kd.C k41 w A5 1 [y]) (hbl : bl = blB n) (hn : n + 1 + b ≤ 20) (h4 : l4.all (fitSt (fitB b)) = true) (hc4 : cntB l4 ≤ 1000) (hl4 : l4.length ≤ c4) (hC4 : Kd.C k41 w A4 l4.length l4) (hx : okA x = true) (hnx : cntE x ≤ 1000) (hC3 : Kd.C k38 w A3 1 [x]) :
    Calls Try.prog 63 #[.agg #[.int .i64 6, .string f1, .int .i64 f2, .slice A3 1 c3, .slice A4 l4.length c4, .slice A5 1 c5], .string bl] w (XPost (((((((⟨#[105, 102, 32, 40]⟩ ++ txt x) ++ ⟨#[41, 32, 123, 10]⟩) ++ lTx l4 (n + 1)) ++ bl) ++ ⟨#[125]⟩) ++ ⟨#[32, 101, 108, 115, 101, 32]⟩) ++ sTx y n) w) := by
  have hu41 := Try.underlying41
  have hu38 := Try.underlying38
  obtain ⟨a3, Ax, cx, rfl, hE⟩ := EL.one hC3 (by omega)
  have HE := Aside0.mk hE
  have HQ := Aside0.mk (show okA x = true ∧ cntE x ≤ 1000000 from ⟨hx, by omega⟩)
  have hsx : (txt x).size ≤ 20000 := by have := txt_size x (okA_open hx).1; omega
  have hsl : (lTx l4 (n + 1)).size ≤ 190000 := by have := lsizes b l4 h4 (n + 1) (by omega); omega
  have hsb : bl.size ≤ 40 := by rw [hbl, blB_size]; omega
  have LC := Aside0.mk LC0
  have HBL := Aside0.mk hbl
  have HN := Aside0.mk hn
  have H4 := Aside0.mk (show l4.all (fitSt (fitB b)) = true ∧ cntB l4 ≤ 1000 ∧ l4.length ≤ c4 from ⟨h4, hc4, hl4⟩)
  have HC4 := Aside0.mk hC4
  obtain ⟨a5, B3, d3, B4, d4, B5, d5, rfl, hG⟩ := ES.one hC5 (by omega)
  have HG := Aside0.mk hG
  have OC := Aside0.mk OC0
  have HY := Aside0.mk (show fitSt (fitB b) y = true ∧ cntS y ≤ 1000 from ⟨hy, hcy⟩)
  have hsy : (sTx y n).size ≤ 191000 := by have := sizes b y hy n (by omega); omega
  have hy6' : (y.f0 == 6) = true := beq_iff_eq.2 hy6
  clear hC5 hG OC0 hy hy6 hcy
  clear hC3 hE hx hnx LC0 hbl hn h4 hc4 hl4 hC4
  have u0_ : (9223372036854775807 < bl.size + 2) = False := eq_false (by omega)
  have u1_ : (9223372036854775807 < 4 + (txt x).size) = False := eq_false (by omega)
  have u2_ : (9223372036854775807 < 4 + (txt x).size + 4) = False := eq_false (by omega)
  have u3_ : (9223372036854775807 < 4 + (txt x).size + 4 + (lTx l4 (n + 1)).size) = False := eq_false (by omega)
  have u4_ : (9223372036854775807 < 4 + (txt x).size + 4 + (lTx l4 (n + 1)).size + bl.size) = False := eq_false (by omega)
  have u5_ : (9223372036854775807 < 4 + (txt x).size + 4 + (lTx l4 (n + 1)).size + bl.size + 1) = False := eq_false (by omega)
  have u6_ : (9223372036854775807 < 4 + (txt x).size + 4 + (lTx l4 (n + 1)).size + bl.size + 1 + 6) = False := eq_false (by omega)
  have u7_ : (9223372036854775807 < 4 + (txt x).size + 4 + (lTx l4 (n + 1)).size + bl.size + 1 + 6 + (sTx y n).size) = False := eq_false (by omega)
  obtain ⟨ez0, ez1, ez2, ez3, ez4⟩ := HE.out.cells
  obtain ⟨ew0, ew1, ew2, ew3, ew4, ew5⟩ := HG.out.cells
  go_enter Try.func63, Try.ntmps63
  go_wp2_with (first | ((with_reducible refine gate_dst (N := 2) rfl ?_); (try (refine gate_guard (by rfl) ?_; dsimp only)); refine box_event ?hg (N := 2) ?hd (cs := #[.int .i64 6, .string f1, .int .i64 f2, .slice (some a3) 1 c3, .slice A4 l4.length c4, .slice (some a5) 1 c5]) (t := 41) ?hr ?_; (case hd => rfl); (case hg => rfl); (case hr => first | (go_simp; done) | (go_simp; rfl)); intro sb hg ws hbox hb; have m0_ := Aside0.mk (HE.out.below hb); have m1_ := Aside0.mk (HG.out.below hb); have n0_ := Aside0.mk (show OX w ws _ _ _ _ _ _ _ _ _ _ _ _ sb from ⟨hbox, hb⟩); clear ez0 ez1 ez2 ez3 ez4 HE; clear ew0 ew1 ew2 ew3 ew4 ew5 HG; clear hbox hg hb; have HX := n0_; clear n0_; have HE := m0_; clear m0_; obtain ⟨ez0, ez1, ez2, ez3, ez4⟩ := HE.out.cells; have HG := m1_; clear m1_; obtain ⟨ew0, ew1, ew2, ew3, ew4, ew5⟩ := HG.out.cells; obtain ⟨⟨sz0, sz1, sz2, sz3, sz4, sz5⟩, sf0, sf1, sf2, sf3, sf4, sf5⟩ := six HX.out.be) | (go_at_call 24; (with_reducible refine (refx_L HE.out HQ.out.1 HQ.out.2).mono ?_); rintro r wn ⟨rfl, hb⟩; have n0_ := Aside0.mk (HX.out.below hb); have m0_ := Aside0.mk (HE.out.below hb); have m1_ := Aside0.mk (HG.out.below hb); clear sz0 sz1 sz2 sz3 sz4 sz5 sf0 sf1 sf2 sf3 sf4 sf5; clear ez0 ez1 ez2 ez3 ez4 HE; clear ew0 ew1 ew2 ew3 ew4 ew5 HG; clear HX hb; have HX := n0_; clear n0_; have HE := m0_; clear m0_; obtain ⟨ez0, ez1, ez2, ez3, ez4⟩ := HE.out.cells; have HG := m1_; clear m1_; obtain ⟨ew0, ew1, ew2, ew3, ew4, ew5⟩ := HG.out.cells; obtain ⟨⟨sz0, sz1, sz2, sz3, sz4, sz5⟩, sf0, sf1, sf2, sf3, sf4, sf5⟩ := six HX.out.be) | (go_at_call 40; (with_reducible refine (LC.out.use l4 A4 c4 (n + 1) _ _ (by rw [HBL.out, blB_succ]) HN.out H4.out.1 H4.out.2.1 (Kd.C_below HC4.out HX.out.hb) H4.out.2.2).mono ?_); rintro r wn ⟨rfl, hb⟩; have n0_ := Aside0.mk (HX.out.below hb); have m0_ := Aside0.mk (HE.out.below hb); have m1_ := Aside0.mk (HG.out.below hb); clear sz0 sz1 sz2 sz3 sz4 sz5 sf0 sf1 sf2 sf3 sf4 sf5; clear ez0 ez1 ez2 ez3 ez4 HE; clear ew0 ew1 ew2 ew3 ew4 ew5 HG; clear HX hb; have HX := n0_; clear n0_; have HE := m0_; clear m0_; obtain ⟨ez0, ez1, ez2, ez3, ez4⟩ := HE.out.cells; have HG := m1_; clear m1_; obtain ⟨ew0, ew1, ew2, ew3, ew4, ew5⟩ := HG.out.cells; obtain ⟨⟨sz0, sz1, sz2, sz3, sz4, sz5⟩, sf0, sf1, sf2, sf3, sf4, sf5⟩ := six HX.out.be) | (go_at_call 63; (with_reducible refine (OC.out.use y B3 B4 B5 d3 d4 d5 n bl _ HBL.out (by have := HN.out; omega) HY.out.1 HY.out.2 HG.out.g3 HG.out.l3 HG.out.g4 HG.out.l4 HG.out.g5 HG.out.l5).mono ?_); rintro r wn ⟨rfl, hb⟩; have n0_ := Aside0.mk (HX.out.below hb); have m0_ := Aside0.mk (HE.out.below hb); have m1_ := Aside0.mk (HG.out.below hb); clear sz0 sz1 sz2 sz3 sz4 sz5 sf0 sf1 sf2 sf3 sf4 sf5; clear ez0 ez1 ez2 ez3 ez4 HE; clear ew0 ew1 ew2 ew3 ew4 ew5 HG; clear HX hb; have HX := n0_; clear n0_; have HE := m0_; clear m0_; obtain ⟨ez0, ez1, ez2, ez3, ez4⟩ := HE.out.cells; have HG := m1_; clear m1_; obtain ⟨ew0, ew1, ew2, ew3, ew4, ew5⟩ := HG.out.cells; obtain ⟨⟨sz0, sz1, sz2, sz3, sz4, sz5⟩, sf0, sf1, sf2, sf3, sf4, sf5⟩ := six HX.out.be))
  go_ret
  exact ⟨rfl, HX.out.hb⟩
set_option maxHeartbeats 8000000 in
set_option maxRecDepth 100000 in
theorem one_6d (b : Nat) (LC0 : LinC b) (x : S38) (f1 : ByteArray) (f2 : Int) (A3 : Option Addr) (c3 : Nat) (A4 : Option Addr) (c4 : Nat) (l4 : List S41) (A5 : Option Addr) (c5 : Nat) (n : Nat) (bl : ByteArray) (w : World) (l5 : List S41) (h5 : l5.all (fitSt (fitB b)) = true) (hc5 : cntB l5 ≤ 1000) (hl5 : l5.length ≤ c5) (hC5 : Kd.C k41 w A5 l5.length l5) (hl0 : l5.length ≠ 0) (hl1 : l5.length ≠ 1) (hbl : bl = blB n) (hn : n + 1 + b ≤ 20) (h4 : l4.all (fitSt (fitB b)) = true) (hc4 : cntB l4 ≤ 1000) (hl4 : l4.length ≤ c4) (hC4 : Kd.C k41 w A4 l4.length l4) (hx : okA x = true) (hnx : cntE x ≤ 1000) (hC3 : Kd.C k38 w A3 1 [x]) :
    Calls Try.prog 63 #[.agg #[.int .i64 6, .string f1, .int .i64 f2, .slice A3 1 c3, .slice A4 l4.length c4, .slice A5 l5.length c5], .string bl] w (XPost (((((((((⟨#[105, 102, 32, 40]⟩ ++ txt x) ++ ⟨#[41, 32, 123, 10]⟩) ++ lTx l4 (n + 1)) ++ bl) ++ ⟨#[125]⟩) ++ ⟨#[32, 101, 108, 115, 101, 32, 123, 10]⟩) ++ lTx l5 (n + 1)) ++ bl) ++ ⟨#[125, 10]⟩) w) := by
  have hu41 := Try.underlying41
  have hu38 := Try.underlying38
  obtain ⟨a3, Ax, cx, rfl, hE⟩ := EL.one hC3 (by omega)
  have HE := Aside0.mk hE
  have HQ := Aside0.mk (show okA x = true ∧ cntE x ≤ 1000000 from ⟨hx, by omega⟩)
  have hsx : (txt x).size ≤ 20000 := by have := txt_size x (okA_open hx).1; omega
  have hsl : (lTx l4 (n + 1)).size ≤ 190000 := by have := lsizes b l4 h4 (n + 1) (by omega); omega
  have hsb : bl.size ≤ 40 := by rw [hbl, blB_size]; omega
  have LC := Aside0.mk LC0
  have HBL := Aside0.mk hbl
  have HN := Aside0.mk hn
  have H4 := Aside0.mk (show l4.all (fitSt (fitB b)) = true ∧ cntB l4 ≤ 1000 ∧ l4.length ≤ c4 from ⟨h4, hc4, hl4⟩)
  have HC4 := Aside0.mk hC4
  have hsm : (lTx l5 (n + 1)).size ≤ 190000 := by have := lsizes b l5 h5 (n + 1) (by omega); omega
  have H5 := Aside0.mk (show l5.all (fitSt (fitB b)) = true ∧ cntB l5 ≤ 1000 ∧ l5.length ≤ c5 from ⟨h5, hc5, hl5⟩)
  have HC5 := Aside0.mk hC5
  have q0 : ((l5.length : Int) == 0) = false := beq_eq_false_iff_ne.2 (by omega)
  have q1 : ((l5.length : Int) == 1) = false := beq_eq_false_iff_ne.2 (by omega)
  clear h5 hc5 hl5 hC5 hl0 hl1
  clear hC3 hE hx hnx LC0 hbl hn h4 hc4 hl4 hC4
  have u0_ : (9223372036854775807 < bl.size + 2) = False := eq_false (by omega)
  have u1_ : (9223372036854775807 < 4 + (txt x).size) = False := eq_false (by omega)
  have u2_ : (9223372036854775807 < 4 + (txt x).size + 4) = False := eq_false (by omega)
  have u3_ : (9223372036854775807 < 4 + (txt x).size + 4 + (lTx l4 (n + 1)).size) = False := eq_false (by omega)
  have u4_ : (9223372036854775807 < 4 + (txt x).size + 4 + (lTx l4 (n + 1)).size + bl.size) = False := eq_false (by omega)
  have u5_ : (9223372036854775807 < 4 + (txt x).size + 4 + (lTx l4 (n + 1)).size + bl.size + 1) = False := eq_false (by omega)
  have u6_ : (9223372036854775807 < 4 + (txt x).size + 4 + (lTx l4 (n + 1)).size + bl.size + 1 + 8) = False := eq_false (by omega)
  have u7_ : (9223372036854775807 < 4 + (txt x).size + 4 + (lTx l4 (n + 1)).size + bl.size + 1 + 8 + (lTx l5 (n + 1)).size) = False := eq_false (by omega)
  have u8_ : (9223372036854775807 < 4 + (txt x).size + 4 + (lTx l4 (n + 1)).size + bl.size + 1 + 8 + (lTx l5 (n + 1)).size + bl.size) = False := eq_false (by omega)
  have u9_ : (9223372036854775807 < 4 + (txt x).size + 4 + (lTx l4 (n + 1)).size + bl.size + 1 + 8 + (lTx l5 (n + 1)).size + bl.size + 2) = False := eq_false (by omega)
  obtain ⟨ez0, ez1, ez2, ez3, ez4⟩ := HE.out.cells
  go_enter Try.func63, Try.ntmps63
  go_wp2_with (first | ((with_reducible refine gate_dst (N := 2) rfl ?_); (try (refine gate_guard (by rfl) ?_; dsimp only)); refine box_event ?hg (N := 2) ?hd (cs := #[.int .i64 6, .string f1, .int .i64 f2, .slice (some a3) 1 c3, .slice A4 l4.length c4, .slice A5 l5.length c5]) (t := 41) ?hr ?_; (case hd => rfl); (case hg => rfl); (case hr => first | (go_simp; done) | (go_simp; rfl)); intro sb hg ws hbox hb; have m0_ := Aside0.mk (HE.out.below hb); have n0_ := Aside0.mk (show OX w ws _ _ _ _ _ _ _ _ _ _ _ _ sb from ⟨hbox, hb⟩); clear ez0 ez1 ez2 ez3 ez4 HE; clear hbox hg hb; have HX := n0_; clear n0_; have HE := m0_; clear m0_; obtain ⟨ez0, ez1, ez2, ez3, ez4⟩ := HE.out.cells; obtain ⟨⟨sz0, sz1, sz2, sz3, sz4, sz5⟩, sf0, sf1, sf2, sf3, sf4, sf5⟩ := six HX.out.be) | (go_at_call 24; (with_reducible refine (refx_L HE.out HQ.out.1 HQ.out.2).mono ?_); rintro r wn ⟨rfl, hb⟩; have n0_ := Aside0.mk (HX.out.below hb); have m0_ := Aside0.mk (HE.out.below hb); clear sz0 sz1 sz2 sz3 sz4 sz5 sf0 sf1 sf2 sf3 sf4 sf5; clear ez0 ez1 ez2 ez3 ez4 HE; clear HX hb; have HX := n0_; clear n0_; have HE := m0_; clear m0_; obtain ⟨ez0, ez1, ez2, ez3, ez4⟩ := HE.out.cells; obtain ⟨⟨sz0, sz1, sz2, sz3, sz4, sz5⟩, sf0, sf1, sf2, sf3, sf4, sf5⟩ := six HX.out.be) | (go_at_call 40; first | ((with_reducible refine (LC.out.use l4 A4 c4 (n + 1) _ _ (by rw [HBL.out, blB_succ]) HN.out H4.out.1 H4.out.2.1 (Kd.C_below HC4.out HX.out.hb) H4.out.2.2).mono ?_); rintro r wn ⟨rfl, hb⟩; have F4_ := Aside0.mk True.intro; have n0_ := Aside0.mk (HX.out.below hb); have m0_ := Aside0.mk (HE.out.below hb); clear sz0 sz1 sz2 sz3 sz4 sz5 sf0 sf1 sf2 sf3 sf4 sf5; clear ez0 ez1 ez2 ez3 ez4 HE; clear HX hb; have HX := n0_; clear n0_; have HE := m0_; clear m0_; obtain ⟨ez0, ez1, ez2, ez3, ez4⟩ := HE.out.cells; obtain ⟨⟨sz0, sz1, sz2, sz3, sz4, sz5⟩, sf0, sf1, sf2, sf3, sf4, sf5⟩ := six HX.out.be) | ((with_reducible refine (LC.out.use l5 A5 c5 (n + 1) _ _ (by rw [HBL.out, blB_succ]) HN.out H5.out.1 H5.out.2.1 (Kd.C_below HC5.out HX.out.hb) H5.out.2.2).mono ?_); rintro r wn ⟨rfl, hb⟩; have n0_ := Aside0.mk (HX.out.below hb); have m0_ := Aside0.mk (HE.out.below hb); clear sz0 sz1 sz2 sz3 sz4 sz5 sf0 sf1 sf2 sf3 sf4 sf5; clear ez0 ez1 ez2 ez3 ez4 HE; clear HX hb; have HX := n0_; clear n0_; have HE := m0_; clear m0_; obtain ⟨ez0, ez1, ez2, ez3, ez4⟩ := HE.out.cells; obtain ⟨⟨sz0, sz1, sz2, sz3, sz4, sz5⟩, sf0, sf1, sf2, sf3, sf4, sf5⟩ := six HX.out.be)))
  go_ret
  exact ⟨rfl, HX.out.hb⟩
set_option maxHeartbeats 8000000 in
set_option maxRecDepth 100000 in
theorem one_6c (b : Nat) (LC0 : LinC b) (x : S38) (f1 : ByteArray) (f2 : Int) (A3 : Option Addr) (c3 : Nat) (A4 : Option Addr) (c4 : Nat) (l4 : List S41) (A5 : Option Addr) (c5 : Nat) (n : Nat) (bl : ByteArray) (w : World) (y : S41) (h5 : [y].all (fitSt (fitB b)) = true) (hc5 : cntB [y] ≤ 1000) (hl5 : 1 ≤ c5) (hC5 : Kd.C k41 w A5 1 [y]) (hy6 : y.f0 ≠ 6) (hbl : bl = blB n) (hn : n + 1 + b ≤ 20) (h4 : l4.all (fitSt (fitB b)) = true) (hc4 : cntB l4 ≤ 1000) (hl4 : l4.length ≤ c4) (hC4 : Kd.C k41 w A4 l4.length l4) (hx : okA x = true) (hnx : cntE x ≤ 1000) (hC3 : Kd.C k38 w A3 1 [x]) :
    Calls Try.prog 63 #[.agg #[.int .i64 6, .string f1, .int .i64 f2, .slice A3 1 c3, .slice A4 l4.length c4, .slice A5 1 c5], .string bl] w (XPost (((((((((⟨#[105, 102, 32, 40]⟩ ++ txt x) ++ ⟨#[41, 32, 123, 10]⟩) ++ lTx l4 (n + 1)) ++ bl) ++ ⟨#[125]⟩) ++ ⟨#[32, 101, 108, 115, 101, 32, 123, 10]⟩) ++ lTx [y] (n + 1)) ++ bl) ++ ⟨#[125, 10]⟩) w) := by
  have hu41 := Try.underlying41
  have hu38 := Try.underlying38
  obtain ⟨a3, Ax, cx, rfl, hE⟩ := EL.one hC3 (by omega)
  have HE := Aside0.mk hE
  have HQ := Aside0.mk (show okA x = true ∧ cntE x ≤ 1000000 from ⟨hx, by omega⟩)
  have hsx : (txt x).size ≤ 20000 := by have := txt_size x (okA_open hx).1; omega
  have hsl : (lTx l4 (n + 1)).size ≤ 190000 := by have := lsizes b l4 h4 (n + 1) (by omega); omega
  have hsb : bl.size ≤ 40 := by rw [hbl, blB_size]; omega
  have LC := Aside0.mk LC0
  have HBL := Aside0.mk hbl
  have HN := Aside0.mk hn
  have H4 := Aside0.mk (show l4.all (fitSt (fitB b)) = true ∧ cntB l4 ≤ 1000 ∧ l4.length ≤ c4 from ⟨h4, hc4, hl4⟩)
  have HC4 := Aside0.mk hC4
  have hsm : (lTx [y] (n + 1)).size ≤ 190000 := by have := lsizes b [y] h5 (n + 1) (by omega); omega
  have H5 := Aside0.mk (show [y].all (fitSt (fitB b)) = true ∧ cntB [y] ≤ 1000 ∧ 1 ≤ c5 from ⟨h5, hc5, hl5⟩)
  have HC5 := Aside0.mk hC5
  obtain ⟨a5, B3, d3, B4, d4, B5, d5, rfl, hG⟩ := ES.one hC5 (by omega)
  have HG := Aside0.mk hG
  have hy6' : (y.f0 == 6) = false := beq_eq_false_iff_ne.2 hy6
  clear h5 hc5 hl5 hC5 hG hy6
  clear hC3 hE hx hnx LC0 hbl hn h4 hc4 hl4 hC4
  have u0_ : (9223372036854775807 < bl.size + 2) = False := eq_false (by omega)
  have u1_ : (9223372036854775807 < 4 + (txt x).size) = False := eq_false (by omega)
  have u2_ : (9223372036854775807 < 4 + (txt x).size + 4) = False := eq_false (by omega)
  have u3_ : (9223372036854775807 < 4 + (txt x).size + 4 + (lTx l4 (n + 1)).size) = False := eq_false (by omega)
  have u4_ : (9223372036854775807 < 4 + (txt x).size + 4 + (lTx l4 (n + 1)).size + bl.size) = False := eq_false (by omega)
  have u5_ : (9223372036854775807 < 4 + (txt x).size + 4 + (lTx l4 (n + 1)).size + bl.size + 1) = False := eq_false (by omega)
  have u6_ : (9223372036854775807 < 4 + (txt x).size + 4 + (lTx l4 (n + 1)).size + bl.size + 1 + 8) = False := eq_false (by omega)
  have u7_ : (9223372036854775807 < 4 + (txt x).size + 4 + (lTx l4 (n + 1)).size + bl.size + 1 + 8 + (lTx [y] (n + 1)).size) = False := eq_false (by omega)
  have u8_ : (9223372036854775807 < 4 + (txt x).size + 4 + (lTx l4 (n + 1)).size + bl.size + 1 + 8 + (lTx [y] (n + 1)).size + bl.size) = False := eq_false (by omega)
  have u9_ : (9223372036854775807 < 4 + (txt x).size + 4 + (lTx l4 (n + 1)).size + bl.size + 1 + 8 + (lTx [y] (n + 1)).size + bl.size + 2) = False := eq_false (by omega)
  obtain ⟨ez0, ez1, ez2, ez3, ez4⟩ := HE.out.cells
  obtain ⟨ew0, ew1, ew2, ew3, ew4, ew5⟩ := HG.out.cells
  go_enter Try.func63, Try.ntmps63
  go_wp2_with (first | ((with_reducible refine gate_dst (N := 2) rfl ?_); (try (refine gate_guard (by rfl) ?_; dsimp only)); refine box_event ?hg (N := 2) ?hd (cs := #[.int .i64 6, .string f1, .int .i64 f2, .slice (some a3) 1 c3, .slice A4 l4.length c4, .slice (some a5) 1 c5]) (t := 41) ?hr ?_; (case hd => rfl); (case hg => rfl); (case hr => first | (go_simp; done) | (go_simp; rfl)); intro sb hg ws hbox hb; have m0_ := Aside0.mk (HE.out.below hb); have m1_ := Aside0.mk (HG.out.below hb); have n0_ := Aside0.mk (show OX w ws _ _ _ _ _ _ _ _ _ _ _ _ sb from ⟨hbox, hb⟩); clear ez0 ez1 ez2 ez3 ez4 HE; clear ew0 ew1 ew2 ew3 ew4 ew5 HG; clear hbox hg hb; have HX := n0_; clear n0_; have HE := m0_; clear m0_; obtain ⟨ez0, ez1, ez2, ez3, ez4⟩ := HE.out.cells; have HG := m1_; clear m1_; obtain ⟨ew0, ew1, ew2, ew3, ew4, ew5⟩ := HG.out.cells; obtain ⟨⟨sz0, sz1, sz2, sz3, sz4, sz5⟩, sf0, sf1, sf2, sf3, sf4, sf5⟩ := six HX.out.be) | (go_at_call 24; (with_reducible refine (refx_L HE.out HQ.out.1 HQ.out.2).mono ?_); rintro r wn ⟨rfl, hb⟩; have n0_ := Aside0.mk (HX.out.below hb); have m0_ := Aside0.mk (HE.out.below hb); have m1_ := Aside0.mk (HG.out.below hb); clear sz0 sz1 sz2 sz3 sz4 sz5 sf0 sf1 sf2 sf3 sf4 sf5; clear ez0 ez1 ez2 ez3 ez4 HE; clear ew0 ew1 ew2 ew3 ew4 ew5 HG; clear HX hb; have HX := n0_; clear n0_; have HE := m0_; clear m0_; obtain ⟨ez0, ez1, ez2, ez3, ez4⟩ := HE.out.cells; have HG := m1_; clear m1_; obtain ⟨ew0, ew1, ew2, ew3, ew4, ew5⟩ := HG.out.cells; obtain ⟨⟨sz0, sz1, sz2, sz3, sz4, sz5⟩, sf0, sf1, sf2, sf3, sf4, sf5⟩ := six HX.out.be) | (go_at_call 40; first | ((with_reducible refine (LC.out.use l4 A4 c4 (n + 1) _ _ (by rw [HBL.out, blB_succ]) HN.out H4.out.1 H4.out.2.1 (Kd.C_below HC4.out HX.out.hb) H4.out.2.2).mono ?_); rintro r wn ⟨rfl, hb⟩; have F4_ := Aside0.mk True.intro; have n0_ := Aside0.mk (HX.out.below hb); have m0_ := Aside0.mk (HE.out.below hb); have m1_ := Aside0.mk (HG.out.below hb); clear sz0 sz1 sz2 sz3 sz4 sz5 sf0 sf1 sf2 sf3 sf4 sf5; clear ez0 ez1 ez2 ez3 ez4 HE; clear ew0 ew1 ew2 ew3 ew4 ew5 HG; clear HX hb; have HX := n0_; clear n0_; have HE := m0_; clear m0_; obtain ⟨ez0, ez1, ez2, ez3, ez4⟩ := HE.out.cells; have HG := m1_; clear m1_; obtain ⟨ew0, ew1, ew2, ew3, ew4, ew5⟩ := HG.out.cells; obtain ⟨⟨sz0, sz1, sz2, sz3, sz4, sz5⟩, sf0, sf1, sf2, sf3, sf4, sf5⟩ := six HX.out.be) | ((with_reducible refine (LC.out.use1 y (some a5) c5 (n + 1) _ _ (by rw [HBL.out, blB_succ]) HN.out H5.out.1 H5.out.2.1 (Kd.C_below HC5.out HX.out.hb) H5.out.2.2).mono ?_); rintro r wn ⟨rfl, hb⟩; have n0_ := Aside0.mk (HX.out.below hb); have m0_ := Aside0.mk (HE.out.below hb); have m1_ := Aside0.mk (HG.out.below hb); clear sz0 sz1 sz2 sz3 sz4 sz5 sf0 sf1 sf2 sf3 sf4 sf5; clear ez0 ez1 ez2 ez3 ez4 HE; clear ew0 ew1 ew2 ew3 ew4 ew5 HG; clear HX hb; have HX := n0_; clear n0_; have HE := m0_; clear m0_; obtain ⟨ez0, ez1, ez2, ez3, ez4⟩ := HE.out.cells; have HG := m1_; clear m1_; obtain ⟨ew0, ew1, ew2, ew3, ew4, ew5⟩ := HG.out.cells; obtain ⟨⟨sz0, sz1, sz2, sz3, sz4, sz5⟩, sf0, sf1, sf2, sf3, sf4, sf5⟩ := six HX.out.be)))
  go_ret
  exact ⟨rfl, HX.out.hb⟩
end Go.Proofs.Ytobkdmmnbnpemaa.K
