/- The parser's body, walked by hand. -/
import Derived.Test.YtobkdmmnbnpemaaXJP15
import Derived.Test.YtobkdmmnbnpemaaXJPT
namespace Go.Proofs.Ytobkdmmnbnpemaa.K
open Go.RowKit Go.Proofs.YtobkdmmnbnpemaaW.PrintWords Go.Proofs.YtobkdmmnbnpemaaW.PrintLast Go.Proofs.YtobkdmmnbnpemaaW.PrintMore
attribute [local go_sem] max2_int min2_int max_two min_two max_three min_three max_four min_four
set_option linter.unusedVariables false
set_option linter.unusedSimpArgs false
def deeperK {α : Type} (s : PSt) (t3 : Int) (k : PSt → Option (Except Er α)) : Option (Except Er α) :=
  if 0 ≤ s.bl ∧ s.bl ≤ 12 then (if 12 < s.bl + 1 then some (.error (41, t3)) else k ⟨s.at_, s.nodes, s.op, s.bl + 1⟩) else none
theorem deeperK_some {α : Type} {s : PSt} {t3 : Int} {k : PSt → Option (Except Er α)} {r : Except Er α} (h : deeperK s t3 k = some r) :
    (0 ≤ s.bl ∧ s.bl ≤ 12) ∧ ((¬ 12 < s.bl + 1 ∧ k ⟨s.at_, s.nodes, s.op, s.bl + 1⟩ = some r) ∨ (12 < s.bl + 1 ∧ r = .error (41, t3))) := by
  unfold deeperK at h; by_cases hg : 0 ≤ s.bl ∧ s.bl ≤ 12
  · rw [if_pos hg] at h
    refine ⟨hg, ?_⟩
    by_cases hq : 12 < s.bl + 1
    · rw [if_pos hq] at h; exact z_41
    · rw [if_neg hq] at h; exact .inl ⟨hq, h⟩
  · rw [if_neg hg] at h; cases h
def bodyL (T : List S58) (st : PSt → Option SRes) : Nat → List S41 → PSt → Option (Except Er (List S41 × PSt))
  | 0, _, _ => none
  | k + 1, xs, s => if (0 ≤ s.at_ ∧ s.at_ < T.length) ∧ xs.length < 1000 ∧ 1 ≤ s.bl ∧ s.bl ≤ 100 then
      (if isB (rd_T58 T s.at_) ⟨#[125]⟩ = true then some (.ok (xs, ⟨s.at_ + 1, s.nodes, s.op, s.bl - 1⟩)) else exK (st s) fun x s1 => bodyL T st k (xs ++ [x]) s1)
    else none
def bodyS (T : List S58) (st : PSt → Option SRes) (K : Nat) (s : PSt) : Option (Except Er (List S41 × PSt)) :=
  wantK T s ⟨#[123]⟩ fun t s1 => deeperK s1 t.f3 fun s2 => bodyL T st K [] s2
def PBody (w : World) (g : Nat) (A : Option Addr) (c : Nat) (T : List S58) (r : Except Er (List S41 × PSt)) (e : Ending) (w' : World) : Prop :=
  KeepBut w w' g none ∧ match r with
  | .ok (l, s) => ∃ A' c', e = .returned (.slice A' l.length c') ∧ Kd.F k41 w' (newO w w') A' l.length l ∧ l.length ≤ c' ∧ RD w' g A c T s
  | .error (er, at_) => e = .panicked [stopV er at_]
theorem PBody.ok {w w' : World} {g : Nat} {A : Option Addr} {c : Nat} {T : List S58} {l : List S41} {s : PSt} {e : Ending} (h : PBody w g A c T (.ok (l, s)) e w') : ∃ A' c', e = .returned (.slice A' l.length c') ∧ Kd.F k41 w' (newO w w') A' l.length l ∧ l.length ≤ c' ∧ RD w' g A c T s ∧ KeepBut w w' g none := by
  obtain ⟨h1, A', c', h2, h3, h4, h5⟩ := h; exact ⟨A', c', h2, h3, h4, h5, h1⟩
theorem PBody.err {w w' : World} {g : Nat} {A : Option Addr} {c : Nat} {T : List S58} {er at_ : Int} {e : Ending} (h : PBody w g A c T (.error (er, at_)) e w') : e = .panicked [stopV er at_] ∧ KeepBut w w' g none := ⟨h.2, h.1⟩
structure BI (w W : World) (g : Nat) (A : Option Addr) (c : Nat) (T : List S58) (s : PSt) (v : Value) (xs : List SV) : Prop where
  bk : W.heap[g]? = some (.cells #[.slice A T.length c, .int .i64 s.at_, .int .i64 s.nodes, .int .i64 s.op, .int .i64 s.bl] 79 (0, 0))
  row : W.ownsRow w.heap.size 41 6 v xs.length (xs.flatMap SV.cs)
  el : ∃ o : Nat → Prop, (∀ x ∈ xs, x.ok W o) ∧ ∀ k, o k → w.heap.size ≤ k ∧ k ≠ g ∧ v.ownBlock ≠ some k
  kp : KeepBut w W g none
  gl : g < w.heap.size
theorem BI.below {w W W1 : World} {g : Nat} {A : Option Addr} {c : Nat} {T : List S58} {s : PSt} {v : Value} {xs : List SV} (h : BI w W g A c T s v xs) (b : Below W.heap.size W W1) : BI w W1 g A c T s v xs := by
  obtain ⟨o, h1, h2⟩ := h.el; exact ⟨blk_below h.bk b, own_step h.row (fun k hk => b.block k (own_lt h.row k hk)), ⟨o, fun x hx => (h1 x hx).step (fun k _ hl => b.block k hl), h2⟩, h.kp.trans (KeepBut.of_below b g none) (.inl rfl), h.gl⟩
theorem BI.rd {w W : World} {g : Nat} {A : Option Addr} {c : Nat} {T : List S58} {s : PSt} {v : Value} {xs : List SV} (h : BI w W g A c T s v xs) (HT0 : Kd.F k58 w (fun k => k ≠ g) A T.length T) : RD W g A c T s := ⟨h.bk, Kd.F_keep HT0 h.kp (fun _ h => h)⟩
theorem BI.ne {w W : World} {g : Nat} {A : Option Addr} {c : Nat} {T : List S58} {s : PSt} {v : Value} {xs : List SV} (h : BI w W g A c T s v xs) : v.ownBlock ≠ some g := fun e => own_ne h.row h.bk (by decide) e.symm
theorem BI.call {w W W1 : World} {g : Nat} {A : Option Addr} {c : Nat} {T : List S58} {s s1 : PSt} {v : Value} {xs : List SV} (h : BI w W g A c T s v xs) (hk : KeepBut W W1 g none) (hx : RD W1 g A c T s1) : BI w W1 g A c T s1 v xs := by
  obtain ⟨o, h1, h2⟩ := h.el; have kk : ∀ k, k < W.heap.size → k ≠ g → W1.heap[k]? = W.heap[k]? := fun k hl hne => hk.2 k hl hne (by simp); exact ⟨hx.bk, own_step h.row (fun k hv => kk k (own_lt h.row k hv) (fun e => h.ne (by rw [hv, e]))), ⟨o, fun x hx => (h1 x hx).step (fun k ho hl => kk k hl (h2 k ho).2.1), h2⟩, h.kp.trans hk (.inl rfl), h.gl⟩
theorem BI.set1 {w W : World} {g : Nat} {A : Option Addr} {c : Nat} {T : List S58} {a n q b : Int} {v : Value} {xs : List SV} (h : BI w W g A c T ⟨a, n, q, b⟩ v xs) (u : Int) : BI w (W.setCell ⟨g, 1, none⟩ (.int .i64 u)) g A c T ⟨u, n, q, b⟩ v xs := by
  obtain ⟨o, h1, h2⟩ := h.el; have kk : ∀ k, k ≠ g → (W.setCell ⟨g, 1, none⟩ (.int .i64 u)).heap[k]? = W.heap[k]? := fun k hne => Below.heap_setCell _ _ _ k hne; exact ⟨blk_put h.bk 1 _ rfl, own_step h.row (fun k hv => kk k (fun e => h.ne (by rw [hv, e]))), ⟨o, fun x hx => (h1 x hx).step (fun k ho hl => kk k (h2 k ho).2.1), h2⟩, h.kp.set_ _ _, h.gl⟩
theorem BI.set4 {w W : World} {g : Nat} {A : Option Addr} {c : Nat} {T : List S58} {a n q b : Int} {v : Value} {xs : List SV} (h : BI w W g A c T ⟨a, n, q, b⟩ v xs) (u : Int) : BI w (W.setCell ⟨g, 4, none⟩ (.int .i64 u)) g A c T ⟨a, n, q, u⟩ v xs := by
  obtain ⟨o, h1, h2⟩ := h.el; have kk : ∀ k, k ≠ g → (W.setCell ⟨g, 4, none⟩ (.int .i64 u)).heap[k]? = W.heap[k]? := fun k hne => Below.heap_setCell _ _ _ k hne; exact ⟨blk_put h.bk 4 _ rfl, own_step h.row (fun k hv => kk k (fun e => h.ne (by rw [hv, e]))), ⟨o, fun x hx => (h1 x hx).step (fun k ho hl => kk k (h2 k ho).2.1), h2⟩, h.kp.set_ _ _, h.gl⟩
theorem BI.app {w W w1 : World} {g : Nat} {A : Option Addr} {c : Nat} {T : List S58} {s : PSt} {v v1 : Value} {xs : List SV} {x : SV} {ox : Nat → Prop} (h : BI w W g A c T s v xs)
    (hx : x.ok W ox) (hox : ∀ k, ox k → w.heap.size ≤ k ∧ k ≠ g ∧ v.ownBlock ≠ some k) (hg : W.grownBy w1 v.ownBlock) (hv : v1.ownBlock = v.ownBlock ∨ ∃ b, v1.ownBlock = some b ∧ W.heap.size ≤ b)
    (hr : w1.ownsRow w.heap.size 41 6 v1 (xs.length + 1) (xs.flatMap SV.cs ++ x.cs)) : BI w w1 g A c T s v1 (xs ++ [x]) := by
  obtain ⟨o', h3, h4⟩ := h.el; have nv : ∀ k, k < W.heap.size → v.ownBlock ≠ some k → v1.ownBlock ≠ some k := fun k hl hne e => by
    rcases hv with hv | ⟨b, hb, hle⟩
    · exact hne (hv ▸ e)
    · rw [hb] at e; injection e with e; omega
  have kk : ∀ k, k < W.heap.size → v.ownBlock ≠ some k → w1.heap[k]? = W.heap[k]? := fun k hl ho => hg.block k hl (fun e => ho e.symm); refine ⟨(kk g (blk_lt h.bk) h.ne).trans h.bk, by rw [List.length_append, List.flatMap_append]; simpa using hr, ⟨fun k => (o' k ∨ ox k) ∧ k < W.heap.size, ?_, ?_⟩, ?_, h.gl⟩
  · intro y hy
    rcases List.mem_append.1 hy with hy | hy
    · exact ((h3 y hy).bound.step (fun k hk hl => kk k hl (h4 k hk.1).2.2)).mono (fun k hk => ⟨.inl hk.1, hk.2⟩)
    · obtain rfl := List.mem_singleton.1 hy
      exact (hx.bound.step (fun k hk hl => kk k hl (hox k hk.1).2.2)).mono (fun k hk => ⟨.inr hk.1, hk.2⟩)
  · rintro k ⟨hk | hk, hl⟩
    · exact ⟨(h4 k hk).1, (h4 k hk).2.1, nv k hl (h4 k hk).2.2⟩
    · exact ⟨(hox k hk).1, (hox k hk).2.1, nv k hl (hox k hk).2.2⟩
  · refine h.kp.trans (KeepBut.of_grown hg g) ?_
    rcases hv0 : v.ownBlock with _ | b
    · exact .inl rfl
    · exact .inr ⟨b, rfl, own_base h.row b hv0⟩
theorem BI.rows {w W : World} {g : Nat} {A : Option Addr} {c : Nat} {T : List S58} {s : PSt} {v : Value} {xs : List SV} (h : BI w W g A c T s v xs) :
    ∃ A' c', v = .slice A' xs.length c' ∧ Kd.F k41 W (newO w W) A' (xs.map (·.x)).length (xs.map (·.x)) ∧ xs.length ≤ c' := by
  obtain ⟨o', h3, h4⟩ := h.el; have hF := F_own (d := k41) (ok := newO w W) h.row (fun k hk => ⟨own_base h.row k hk, own_lt h.row k hk⟩)
    (reps_sv xs (fun x hx => (h3 x hx).bound.mono (fun k hk => ⟨(h4 k hk.1).1, hk.2⟩))) (by simp) (by decide)
  obtain ⟨A', c', h1, h2, h5⟩ := hF; exact ⟨A', c', h1, by rw [List.length_map]; exact h2, h5⟩
theorem bodyL_some {T : List S58} {st : PSt → Option SRes} {k : Nat} {xs : List S41} {s : PSt} {r : Except Er (List S41 × PSt)} (h : bodyL T st (k + 1) xs s = some r) :
    ((0 ≤ s.at_ ∧ s.at_ < T.length) ∧ xs.length < 1000 ∧ 1 ≤ s.bl ∧ s.bl ≤ 100) ∧ ((isB (rd_T58 T s.at_) ⟨#[125]⟩ = true ∧ r = .ok (xs, ⟨s.at_ + 1, s.nodes, s.op, s.bl - 1⟩)) ∨ (isB (rd_T58 T s.at_) ⟨#[125]⟩ = false ∧ exK (st s) (fun x s1 => bodyL T st k (xs ++ [x]) s1) = some r)) := by
  unfold bodyL at h; by_cases hg : (0 ≤ s.at_ ∧ s.at_ < T.length) ∧ xs.length < 1000 ∧ 1 ≤ s.bl ∧ s.bl ≤ 100
  · rw [if_pos hg] at h
    refine ⟨hg, ?_⟩
    cases hq : isB (rd_T58 T s.at_) ⟨#[125]⟩ with
    | true => rw [if_pos hq] at h; exact .inl ⟨rfl, (Option.some.inj h).symm⟩
    | false => rw [if_neg (by rw [hq]; simp)] at h; exact .inr ⟨rfl, h⟩
  · rw [if_neg hg] at h; cases h
theorem sv_one (p : SV) : ∀ u ∈ p.cs, u.oneCell' = true := by
  intro u hu; simp only [SV.cs, List.mem_cons, List.not_mem_nil, or_false] at hu; rcases hu with rfl | rfl | rfl | rfl | rfl | rfl <;> rfl
theorem five9 {w : World} {g : Nat} {t : TypeId} {a0 a1 a2 a3 a4 : Value} (h : w.heap[g]? = some (.cells #[a0, a1, a2, a3, a4] t (0, 0))) :
    (w.cell? ⟨g, 1, none⟩ = some a1 ∧ w.cell? ⟨g, 4, none⟩ = some a4) ∧ w.frozen? ⟨g, 1, none⟩ = false ∧ w.frozen? ⟨g, 4, none⟩ = false := ⟨⟨blk_cell h 1, blk_cell h 4⟩, blk_frozen h 1, blk_frozen h 4⟩
def BRel9 (w : World) (g : Nat) (A : Option Addr) (c : Nat) (T : List S58) (st : PSt → Option SRes) (r : Except Er (List S41 × PSt)) (kq : Nat) (v3 : Value) (wq : World) : Prop :=
  ∃ (s : PSt) (Av : Option Addr) (cv : Nat) (xs : List SV), v3 = .slice Av xs.length cv ∧ Aside0 (bodyL T st kq (xs.map (·.x)) s = some r) ∧ Aside0 (BI w wq g A c T s (.slice Av xs.length cv) xs)
set_option maxHeartbeats 8000000 in
set_option maxRecDepth 100000 in
theorem body_L (T : List S58) (st : PSt → Option SRes) (SC0 : StmC T st) (K : Nat) (a n q b : Int) (r : Except Er (List S41 × PSt)) (g : Nat) (A : Option Addr) (c : Nat) (w : World) (h : bodyS T st K ⟨a, n, q, b⟩ = some r) (hrd : RD w g A c T ⟨a, n, q, b⟩) :
    Calls Try.prog 109 #[.pointer (some ⟨g, 0, none⟩)] w (PBody w g A c T r) := by
  have SC := A_0 SC0; clear SC0; unfold bodyS at h; have HL := A_0 h; clear h; have HT0 := A_0 hrd.tk; have hmx := hrd.max; have Bg : Aside0 (w.heap[g]? = some (.cells #[.slice A T.length c, .int .i64 a, .int .i64 n, .int .i64 q, .int .i64 b] 79 (0, 0))) := ⟨hrd.bk⟩; have HK := A_0 (KeepBut.refl w g none); have HLT := A_0 hrd.lt; clear hrd; have gz := five_ Bg.out
  go_enter Try.func109, Try.ntmps109
  go_wp2_with fail
  obtain ⟨⟨h0, h1⟩, hcase⟩ := wantK_some HL.out; clear HL; dsimp only at h0 h1 hcase; rcases hcase with ⟨hq, h⟩ | ⟨hq, rfl⟩
  rotate_left
  · (with_reducible refine (want_L g A c T a n q b _ ⟨#[123]⟩ (⟨Bg.out, Kd.F_keep HT0.out HK.out (fun _ h => h)⟩ : RD _ g A c T _) h0 h1).mono ?_)
    intro e wn hp; unfold wantP at hp; rw [if_neg (by rw [hq]; simp)] at hp; obtain ⟨rfl, hk⟩ := hp.err; exact z_49
  (with_reducible refine (want_L g A c T a n q b _ ⟨#[123]⟩ (⟨Bg.out, Kd.F_keep HT0.out HK.out (fun _ h => h)⟩ : RD _ g A c T _) h0 h1).mono ?_)
  intro e wn hp; unfold wantP at hp; rw [if_pos hq] at hp; obtain ⟨rfl, hx, hk⟩ := hp.ok; generalize rd_T58 T a = o at *; obtain ⟨o0, o1, o2, o3⟩ := o; have HL := A_0 h; clear hp hq h h0 h1; unfold tokV; have n0_ : Aside0 (wn.heap[g]? = some (.cells #[.slice A T.length c, .int .i64 (a + 1), .int .i64 n, .int .i64 q, .int .i64 b] 79 (0, 0))) := ⟨hx.bk⟩; have nk_ := A_0 (HK.out.trans hk (.inl rfl)); clear gz; clear HK hk Bg hx; have Bg := n0_; have HK := nk_; clear nk_ n0_; have gz := five_ Bg.out
  go_wp2_with fail
  obtain ⟨⟨h0, h1⟩, hcase⟩ := deeperK_some HL.out; clear HL; dsimp only at h0 h1 hcase; rcases hcase with ⟨hq, h⟩ | ⟨hq, rfl⟩
  rotate_left
  · (with_reducible refine (deeper_L g A c T ((a + 1)) n q b _ o0 o1 o2 o3 (⟨Bg.out, Kd.F_keep HT0.out HK.out (fun _ h => h)⟩ : RD _ g A c T _) h0 h1).mono ?_)
    intro e wn hp; unfold deeperP at hp; rw [if_pos hq] at hp; obtain ⟨rfl, hk⟩ := hp.err; exact z_49
  (with_reducible refine (deeper_L g A c T ((a + 1)) n q b _ o0 o1 o2 o3 (⟨Bg.out, Kd.F_keep HT0.out HK.out (fun _ h => h)⟩ : RD _ g A c T _) h0 h1).mono ?_)
  intro e wn hp; unfold deeperP at hp; rw [if_neg hq] at hp; obtain ⟨rfl, hx, hk⟩ := hp.ok; have HL := A_0 h; clear hp hq h h0 h1; unfold unitV; have n0_ : Aside0 (wn.heap[g]? = some (.cells #[.slice A T.length c, .int .i64 (a + 1), .int .i64 n, .int .i64 q, .int .i64 (b + 1)] 79 (0, 0))) := ⟨hx.bk⟩; have nk_ := A_0 (HK.out.trans hk (.inl rfl)); clear gz; clear HK hk Bg hx; have Bg := n0_; have HK := nk_; clear nk_ n0_; have gz := five_ Bg.out; have HP := A_0 (show BI w wn g A c T ⟨(a + 1), n, q, (b + 1)⟩ (.slice none 0 0) [] from ⟨Bg.out, World.ownsRow_nil _ _ _ _, ⟨fun _ => False, fun x hx => (List.not_mem_nil hx).elim, fun k hk => hk.elim⟩, HK.out, HLT.out⟩); clear gz; clear Bg HK; go_upto_region 3 with fail
  go_loopg [3] K (fun kq v3 wq => BRel9 w g A c T st r kq v3 wq)
  case atStart => exact ⟨_, none, 0, [], rfl, HL, HP⟩
  case round =>
    clear HP HL; unfold BRel9 at hrel; obtain ⟨s, Av, cv, xs, rfl, HL, HP⟩ := hrel; cases gk with
    | zero => exact absurd HL.out (by simp [bodyL])
    | succ k1 =>
    obtain ⟨⟨⟨h0, h1⟩, hx, h2, h3⟩, hcase⟩ := bodyL_some HL.out; clear HL; obtain ⟨a, n, q, b⟩ := s; dsimp only at h0 h1 h2 h3 hcase; have hxl : xs.length < 1000 := by simpa using hx
    clear hx; have HCS := A_0 hcase; clear hcase
    go_wp2_with fail
    rcases HCS.out with ⟨hq, rfl⟩ | ⟨hq, h⟩
    · (with_reducible refine (is_L g A c T a n q b _ ⟨#[125]⟩ (HP.out.rd HT0.out) h0 h1 true hq).mono ?_)
      rintro e wn ⟨rfl, hb⟩; have n0_ := A_0 (HP.out.below hb); clear HP hb HCS hq; have HP := n0_; clear n0_; have hwa : wrap64 (a + 1) = a + 1 := by unfold wrap64; omega
      have hwb : wrap64 (b - 1) = b - 1 := by unfold wrap64; omega
      obtain ⟨⟨z1, z4⟩, y1, y4⟩ := five9 HP.out.bk; go_upto_region 6 with fail; generalize hq : World.setCell _ ⟨g, 1, none⟩ _ = wa; have n0_ := A_0 (show BI w wa g A c T ⟨a + 1, n, q, b⟩ (.slice Av xs.length cv) xs by rw [← hq]; exact HP.out.set1 _)
      clear HP hq z1 z4 y1 y4; have HP := n0_; clear n0_; obtain ⟨⟨z1, z4⟩, y1, y4⟩ := five9 HP.out.bk
      go_wp2_with fail
      generalize hq : World.setCell _ ⟨g, 4, none⟩ _ = wb; have hP : BI w wb g A c T ⟨a + 1, n, q, b - 1⟩ (.slice Av xs.length cv) xs := by rw [← hq]; exact HP.out.set4 _
      obtain ⟨A', c', hv, hF, hc⟩ := hP.rows; injection hv with e1 e2 e3; subst e1 e3; refine bodyPost_ret (v := .slice Av xs.length cv) (by simp [results, Try.results109, go_sem]) rfl ?_; exact ⟨hP.kp, Av, cv, by rw [List.length_map], hF, by rw [List.length_map]; exact hc, hP.rd HT0.out⟩
    (with_reducible refine (is_L g A c T a n q b _ ⟨#[125]⟩ (HP.out.rd HT0.out) h0 h1 false hq).mono ?_)
    rintro e wn ⟨rfl, hb⟩; have n0_ := A_0 (HP.out.below hb); have HL := A_0 h; clear HP hb HCS hq h; have HP := n0_; clear n0_
    go_wp2_with fail
    rcases exK_some HL.out with ⟨er, at_, hab, rfl⟩ | ⟨x0, s1, hab, h⟩
    · (with_reducible refine (SC.out.use ⟨a, n, q, b⟩ (.error (er, at_)) g A c _ hab (HP.out.rd HT0.out)).mono ?_)
      intro e wn hp; obtain ⟨rfl, hk⟩ := PStm.err hp; exact ⟨rfl, HP.out.kp.trans hk (.inl rfl), rfl⟩
    have HZ := A_0 (show w.heap.size ≤ wn.heap.size from keep_size HP.out.kp)
    (with_reducible refine (SC.out.use ⟨a, n, q, b⟩ (.ok (x0, s1)) g A c _ hab (HP.out.rd HT0.out)).mono ?_)
    intro e wm hp; obtain ⟨x, rfl, hpx, hpo, hrd, hk⟩ := PStm.ok hp; clear hp hab HL; subst hpx; have HL := A_0 h; clear h; have HPO := A_0 (show ∃ ox : Nat → Prop, x.ok wm ox ∧ ∀ k, ox k → w.heap.size ≤ k ∧ k ≠ g ∧ (Value.slice Av xs.length cv).ownBlock ≠ some k from
      ⟨_, hpo, fun k hk' => by have := hk'.1; have := HZ.out; have := HLT.out; exact ⟨by omega, by omega, fun e => by have := own_lt HP.out.row k e; omega⟩⟩)
    have n0_ := A_0 (HP.out.call hk hrd); clear HP hk hrd hpo; have HP := n0_; clear n0_; obtain ⟨a1, n1, q1, b1⟩ := s1; unfold SV.val; dsimp only; have HSZ := A_0 (show w.heap.size ≤ wm.heap.size from keep_size HP.out.kp); have HXL := A_0 hxl; clear hxl h0 h1 h2 h3
    go_wp2_with (first | ((with_reducible refine gate_builtin (b := .append) (xs := #[.tmp 11, .tmp 14]) rfl ?_); at_builtin; refine print_append_cells (w0 := wm) w.heap.size rfl (.tmp 11) (.tmp 14) 22 41 zV41 6 104 rfl Try.underlying22 inf41 rfl (by decide) (by decide) (.slice Av xs.length cv) xs.length (xs.flatMap SV.cs) x.cs rfl rfl rfl (sv_one x) HP.out.row (Below.refl _ _) HSZ.out (by have := HXL.out; omega) ?_; intro v1 w1 ho1 hb1 hg1 hat; obtain ⟨A1, c1, rfl⟩ := own_slc ho1; obtain ⟨ox, hpo, hox⟩ := HPO.out; have n0_ := A_0 (show BI w w1 g A c T ⟨a1, n1, q1, b1⟩ (.slice A1 (xs ++ [x]).length c1) (xs ++ [x]) by rw [show (xs ++ [x]).length = xs.length + 1 from by simp]; exact HP.out.app hpo hox hg1 hat ho1); clear HP HPO ho1 hb1 hg1 hat hpo hox; have HP := n0_; clear n0_))
    go_roundg k1
    case measure => omega
    case rel => exact ⟨_, A1, c1, xs ++ [x], by simp, ⟨by rw [List.map_append, List.map_cons, List.map_nil]; exact HL.out⟩, HP⟩
end Go.Proofs.Ytobkdmmnbnpemaa.K
