/- The parser's Parse, walked by hand. -/
import Derived.Test.YtobkdmmnbnpemaaXJPT
import Derived.Deep.RegionLaw
import Derived.RegionDies
namespace Go.Proofs.Ytobkdmmnbnpemaa.K
open Go.RowKit Go.Proofs.YtobkdmmnbnpemaaW.PrintWords Go.Proofs.YtobkdmmnbnpemaaW.PrintLast Go.Proofs.YtobkdmmnbnpemaaW.PrintMore
attribute [local go_sem] max2_int min2_int max_two min_two max_three min_three max_four min_four
set_option linter.unusedVariables false
set_option linter.unusedSimpArgs false
def PRel (w : World) (T : List S58) (st : PSt → Option SRes) (r : Except (Int × Int) (List S41)) (g : Nat) (A : Option Addr) (c : Nat) (kq : Nat) (wq : World) : Prop :=
  ∃ (s : PSt) (Av : Option Addr) (cv : Nat) (xs : List SV), Aside0 (parsF T st kq (xs.map (·.x)) s = some r) ∧ Aside0 (PI w wq g A c T s (.slice Av xs.length cv) xs)
theorem parsF_succ {T : List S58} {st : PSt → Option SRes} {k : Nat} {xs : List S41} {s : PSt} {r : Except (Int × Int) (List S41)} (h : parsF T st (k + 1) xs s = some r) :
    ((0 ≤ s.at_ ∧ s.at_ < T.length) ∧ xs.length < 1000) ∧ (((rd_T58 T s.at_).f0 = 0 ∧ r = .ok xs) ∨ ((rd_T58 T s.at_).f0 ≠ 0 ∧ ((∃ er at_, st s = some (.error (er, at_)) ∧ r = .error (er, at_)) ∨ (∃ x s1, st s = some (.ok (x, s1)) ∧ parsF T st k (xs ++ [x]) s1 = some r)))) := by
  unfold parsF at h; by_cases hg : (0 ≤ s.at_ ∧ s.at_ < T.length) ∧ xs.length < 1000
  · rw [if_pos hg] at h
    refine ⟨hg, ?_⟩
    by_cases h0 : (rd_T58 T s.at_).f0 = 0
    · rw [if_pos h0] at h; exact .inl ⟨h0, (Option.some.inj h).symm⟩
    · rw [if_neg h0] at h
      refine .inr ⟨h0, ?_⟩
      rcases hst : st s with _ | r1
      · rw [hst] at h; cases h
      rw [hst] at h; rcases r1 with ⟨er, at_⟩ | ⟨x, s1⟩
      · exact .inl ⟨er, at_, rfl, (Option.some.inj h).symm⟩
      · exact .inr ⟨x, s1, rfl, h⟩
  · rw [if_neg hg] at h; cases h
theorem par_trap {w W : World} {v : Value} {er at_ : Int} {tm : Array Value} (h : W.heap[w.heap.size]? = some (.cells #[v] 22 (0, 0)) ∧ W.heap[w.heap.size + 1]? = some (.cells #[.int .i64 0] 3 (0, 0)) ∧ W.heap[w.heap.size + 2]? = some (.cells #[.int .i64 0] 24 (0, 0)) ∧ Below w.heap.size w W)
    (hr : ∀ W' : World, W'.cell? ⟨w.heap.size, 0, none⟩ = some (.slice none 0 0) → W'.cell? ⟨w.heap.size + 1, 0, none⟩ = some (.int .i64 at_) → W'.cell? ⟨w.heap.size + 2, 0, none⟩ = some (.int .i64 er) → (results Try.f25 tm).run Try.prog W' = .ok (.tuple #[.slice none 0 0, .int .i64 at_, .int .i64 er]) W') :
    Leaves Try.prog Try.f25 tm (PPar w (.error (er, at_))) [{ target := .fn (.func 45) #[.pointer (some ⟨w.heap.size, 0, none⟩), .pointer (some ⟨w.heap.size + 1, 0, none⟩), .pointer (some ⟨w.heap.size + 2, 0, none⟩)], args := #[] }] (.panicking [stopV er at_]) W := by
  obtain ⟨hl, ha, he, hb⟩ := h; refine leaves_cons (f := 45) (args := #[.pointer (some ⟨w.heap.size, 0, none⟩), .pointer (some ⟨w.heap.size + 1, 0, none⟩), .pointer (some ⟨w.heap.size + 2, 0, none⟩)]) (by simp) (by simp [go_sem]) ?_; refine (trap_L w.heap.size er at_ v W hl ha he).mono ?_; rintro e u' w' ⟨rfl, rfl, ⟨h0, h1, h2⟩, hB⟩; have hl := hr w' (one_ h0).1 (one_ h1).1 (one_ h2).1; simp only [settle, List.dropWhile]; exact ⟨_, hl, ⟨hb.trans hB, rfl⟩⟩
theorem PI.err {w W W1 : World} {g : Nat} {A : Option Addr} {c : Nat} {T : List S58} {s : PSt} {v : Value} {xs : List SV} (h : PI w W g A c T s v xs) (hk : KeepBut W W1 g none) :
    W1.heap[w.heap.size]? = some (.cells #[v] 22 (0, 0)) ∧ W1.heap[w.heap.size + 1]? = some (.cells #[.int .i64 0] 3 (0, 0)) ∧ W1.heap[w.heap.size + 2]? = some (.cells #[.int .i64 0] 24 (0, 0)) ∧ Below w.heap.size w W1 := by
  have hgw := h.hg; have kk : ∀ k, k < W.heap.size → k ≠ g → W1.heap[k]? = W.heap[k]? := fun k hl hne => hk.2 k hl hne (by simp); exact ⟨(kk _ (blk_lt h.bl) (by omega)).trans h.bl, (kk _ (blk_lt h.ba) (by omega)).trans h.ba, (kk _ (blk_lt h.be) (by omega)).trans h.be, hk.1.1.trans h.bw.os, hk.1.2.1.trans h.bw.tape, hk.1.2.2.1.trans h.bw.output, Nat.le_trans h.bw.size hk.size, fun k hl => (kk k (Nat.lt_of_lt_of_le hl h.bw.size) (by omega)).trans (h.bw.block k hl)⟩
theorem par_idle {w W : World} {tm : Array Value} {R : Ending → World → Prop} {v : Value}
    (hr : (results Try.f25 tm).run Try.prog W = .ok v W) (hR : R (.returned v) W) :
    Leaves Try.prog Try.f25 tm R [{ target := .fn (.func 45) #[.pointer (some ⟨w.heap.size, 0, none⟩), .pointer (some ⟨w.heap.size + 1, 0, none⟩), .pointer (some ⟨w.heap.size + 2, 0, none⟩)], args := #[] }] .returning W := by
  refine leaves_cons (f := 45) (args := #[.pointer (some ⟨w.heap.size, 0, none⟩), .pointer (some ⟨w.heap.size + 1, 0, none⟩), .pointer (some ⟨w.heap.size + 2, 0, none⟩)]) (by simp) (by simp [go_sem]) ?_
  refine (idle_L _ _ _ W).mono ?_
  rintro e u' w' ⟨rfl, rfl, rfl⟩; exact ⟨_, hr, hR⟩
theorem z6_one : ∀ u ∈ z6L, u.oneCell' = true := by
  intro u hu; simp only [z6L, List.mem_cons, List.not_mem_nil, or_false] at hu; rcases hu with rfl | rfl | rfl | rfl | rfl | rfl <;> rfl
theorem part_of {w W W0 w7 : World} {g : Nat} {A : Option Addr} {c : Nat} {T : List S58} {s : PSt} {v : Value} {xs : List SV} {p : SV} (h : PI w W g A c T s v xs) (hs : W.heap.size ≤ W0.heap.size) (hp : p.ok w7 (newO W0 w7)) :
    ∃ ox : Nat → Prop, p.ok w7 ox ∧ ∀ k, ox k → w.heap.size + 3 ≤ k ∧ k ≠ g ∧ v.ownBlock ≠ some k := by
  refine ⟨_, hp, fun k hk => ?_⟩
  have h1 := hk.1; have h2 := blk_lt h.bk; have h3 := h.hg; exact ⟨by omega, by omega, fun e => by have := own_lt h.row k e; omega⟩
theorem part_alloc {w7 : World} {p : SV} {ox : Nat → Prop} (h : p.ok w7 ox) (o : Obj) : p.ok (w7.alloc o) (fun k => ox k ∧ k < w7.heap.size) := h.bound.step (fun k hk hl => (below_alloc (Below.refl w7.heap.size w7) o).block k hl)
theorem new_ne {w W w1 : World} {g gb : Nat} {A : Option Addr} {c : Nat} {T : List S58} {s : PSt} {v : Value} {xs : List SV} (h : PI w W g A c T s v xs) (hg : W.grownBy w1 v.ownBlock) (hv : v.ownBlock = some gb ∨ gb = W.heap.size) :
    (gb ≠ w.heap.size ∧ w.heap.size ≠ gb) ∧ w1.cell? ⟨w.heap.size, 0, none⟩ = some v ∧ w1.frozen? ⟨w.heap.size, 0, none⟩ = false := by
  have n0 := own_ne_blk h; have hne : gb ≠ w.heap.size := by
    rcases hv with hv | hv
    · intro e; exact n0.2.1 (by rw [hv, e])
    · have := blk_lt h.bl; omega
  exact ⟨⟨hne, Ne.symm hne⟩, one_ (blk_grown h.bl hg (fun e => n0.2.1 e.symm))⟩
structure PFin (w w1 : World) (g gb cap : Nat) (A : Option Addr) (c : Nat) (T : List S58) (s : PSt) (xs : List SV) (x : SV) : Prop where
  a : PI w (((((((w1.setCell ⟨gb, xs.length * 6, none⟩ (.int .i64 x.x.f0)).setCell ⟨gb, xs.length * 6 + 1, none⟩ (.string x.x.f1)).setCell ⟨gb, xs.length * 6 + 2, none⟩ (.int .i64 x.x.f2)).setCell ⟨gb, xs.length * 6 + 3, none⟩ (.slice x.A3 x.x.f3.length x.c3)).setCell ⟨gb, xs.length * 6 + 4, none⟩ (.slice x.A4 x.x.f4.length x.c4)).setCell ⟨gb, xs.length * 6 + 5, none⟩ (.slice x.A5 x.x.f5.length x.c5)).setCell ⟨w.heap.size, 0, none⟩ (.slice (some ⟨gb, 0, none⟩) (xs.length + 1) cap)) g A c T s (.slice (some ⟨gb, 0, none⟩) (xs ++ [x]).length cap) (xs ++ [x])
  b : PI w (((((((w1.setCell ⟨w.heap.size, 0, none⟩ (.slice (some ⟨gb, 0, none⟩) (xs.length + 1) cap)).setCell ⟨gb, xs.length * 6, none⟩ (.int .i64 x.x.f0)).setCell ⟨gb, xs.length * 6 + 1, none⟩ (.string x.x.f1)).setCell ⟨gb, xs.length * 6 + 2, none⟩ (.int .i64 x.x.f2)).setCell ⟨gb, xs.length * 6 + 3, none⟩ (.slice x.A3 x.x.f3.length x.c3)).setCell ⟨gb, xs.length * 6 + 4, none⟩ (.slice x.A4 x.x.f4.length x.c4)).setCell ⟨gb, xs.length * 6 + 5, none⟩ (.slice x.A5 x.x.f5.length x.c5)) g A c T s (.slice (some ⟨gb, 0, none⟩) (xs ++ [x]).length cap) (xs ++ [x])
theorem PFin.mk' {w W w1 : World} {g gb cap : Nat} {A : Option Addr} {c : Nat} {T : List S58} {s : PSt} {v : Value} {xs : List SV} {x : SV} {ox : Nat → Prop} (h : PI w W g A c T s v xs)
    (hx : x.ok W ox) (hox : ∀ k, ox k → w.heap.size + 3 ≤ k ∧ k ≠ g ∧ v.ownBlock ≠ some k) (hg : W.grownBy w1 v.ownBlock) (hv : v.ownBlock = some gb ∨ gb = W.heap.size)
    (ho : w1.ownsRow w.heap.size 41 6 (.slice (some ⟨gb, 0, none⟩) (xs.length + 1) cap) (xs.length + 1) (xs.flatMap SV.cs ++ z6L)) : PFin w w1 g gb cap A c T s xs x := by
  have hf := h.finA hx hox hg (by rcases hv with hv | hv; exact .inl hv; exact .inr (Nat.le_of_eq hv.symm)) ho; have hne : gb ≠ w.heap.size := by
    have n0 := own_ne_blk h; rcases hv with hv | hv
    · intro e; exact n0.2.1 (by rw [hv, e])
    · have := blk_lt h.bl; omega
  have el : (xs ++ [x]).length = xs.length + 1 := by simp
  refine ⟨by rw [el]; exact hf, ?_⟩
  rw [el]; have hc : ∀ (W : World) (j : Nat) (u u' : Value), (W.setCell ⟨w.heap.size, 0, none⟩ u).setCell ⟨gb, j, none⟩ u' = (W.setCell ⟨gb, j, none⟩ u').setCell ⟨w.heap.size, 0, none⟩ u := fun W j u u' => setCell_comm W _ _ _ _ (Ne.symm hne); rw [hc, hc, hc, hc, hc, hc]; exact hf
theorem PI.again {w W : World} {g : Nat} {A : Option Addr} {c : Nat} {T : List S58} {s : PSt} {v : Value} {xs : List SV} (h : PI w W g A c T s v xs) :
    PI w (((W.setCell ⟨w.heap.size, 0, none⟩ v).setCell ⟨w.heap.size + 1, 0, none⟩ (.int .i64 0)).setCell ⟨w.heap.size + 2, 0, none⟩ (.int .i64 0)) g A c T s v xs := by
  refine h.same ?_ (Below.setCell (Below.setCell (Below.setCell h.bw (Nat.le_refl _) _) (Nat.le_add_right _ _) _) (Nat.le_add_right _ _) _)
  intro k hk; by_cases e2 : k = w.heap.size + 2
  · subst e2
    refine (blk_put (cs := #[.int .i64 0]) ?_ 0 _ rfl).trans h.be.symm
    refine blk_far ?_ (z_151) _; exact blk_far h.be (by show w.heap.size + 2 ≠ w.heap.size; omega) _
  rw [Below.heap_setCell _ _ _ k e2]; by_cases e1 : k = w.heap.size + 1
  · subst e1
    refine (blk_put (cs := #[.int .i64 0]) ?_ 0 _ rfl).trans h.ba.symm
    exact blk_far h.ba (by show w.heap.size + 1 ≠ w.heap.size; omega) _
  rw [Below.heap_setCell _ _ _ k e1]; by_cases e0 : k = w.heap.size
  · subst e0
    exact (blk_put (cs := #[v]) h.bl 0 _ rfl).trans h.bl.symm
  rw [Below.heap_setCell _ _ _ k e0]
set_option maxHeartbeats 8000000 in
set_option maxRecDepth 100000 in
theorem parse_L (s : ByteArray) (T : List S58) (HC0 : CutC s (.ok T)) (st : PSt → Option SRes) (SC0 : StmC T st) (K : Nat) (r : Except (Int × Int) (List S41)) (HF0 : parsF T st K [] ⟨0, 0, 0, 0⟩ = some r) (w : World) : Calls Try.prog 25 #[.string s] w (PPar w r) := by
  have HC := A_0 HC0; have SC := A_0 SC0; have HF := A_0 HF0; have hmf : ∀ (fn : Fn) (first cap : Array Value) (w : World), (Instr.makeFunc fn first cap).run Try.prog w = .ok (.func fn first cap) w := fun _ _ _ _ => rfl
  clear HC0 SC0 HF0
  go_enter_defers Try.func25, Try.ntmps25
  go_upto_region 1 with fail
  generalize hw3 : World.alloc _ (.cells #[.int .i64 0] 24) = w3; have hB3 : Below w.heap.size w w3 := by rw [← hw3]; exact below_alloc (below_alloc (below_alloc (Below.refl _ _) _) _) _
  have hs3 : w3.heap.size = w.heap.size + 3 := by rw [← hw3]; simp
  have hl3 : w3.heap[w.heap.size]? = some (.cells #[.slice none 0 0] 22 (0, 0)) := by rw [← hw3]; exact blk_alloc (blk_alloc (blk_new _ _) _) _
  have ha3 : w3.heap[w.heap.size + 1]? = some (.cells #[.int .i64 0] 3 (0, 0)) := by rw [← hw3]; exact blk_alloc (blk_new' (by simp)) _
  have he3 : w3.heap[w.heap.size + 2]? = some (.cells #[.int .i64 0] 24 (0, 0)) := by rw [← hw3]; exact blk_new' (by simp)
  clear hw3; rw [show w.heap.size + 1 + 1 = w.heap.size + 2 from rfl]; obtain ⟨zl, fl⟩ := one_ hl3; obtain ⟨za, fa⟩ := one_ ha3; obtain ⟨ze, fe⟩ := one_ he3; have n10 : w.heap.size + 1 ≠ w.heap.size := by omega
  have HB := A_0 hB3; have HL := A_0 hl3; have HA := A_0 ha3; have HE := A_0 he3; have HS := A_0 hs3; clear hB3 hl3 ha3 he3 hs3
  go_wp2_with fail
  (with_reducible refine (HC.out.use w3).mono ?_)
  rintro e w4 ⟨A, c, rfl, hT, hb4⟩; have n0_ := A_0 (below_step HB.out hb4); have n1_ := A_0 (blk_below HL.out hb4); have n2_ := A_0 (blk_below HA.out hb4); have n3_ := A_0 (blk_below HE.out hb4); have n4_ := A_0 (show w.heap.size + 3 ≤ w4.heap.size from by have := hb4.size; have := HS.out; omega)
  have n5_ := A_0 (show Kd.F k58 w4 (fun k => w.heap.size + 3 ≤ k ∧ k < w4.heap.size) A T.length T from Kd.F_mono hT (fun k hk => ⟨by have := hk.1; have := HS.out; omega, hk.2⟩)); clear zl fl za fa ze fe HB HL HA HE HS hT hb4 HC; have HB := n0_; have HL := n1_; have HA := n2_; have HE := n3_; have HS := n4_; have HT := n5_; clear n0_ n1_ n2_ n3_ n4_ n5_; obtain ⟨zl, fl⟩ := one_ HL.out; obtain ⟨za, fa⟩ := one_ HA.out; obtain ⟨ze, fe⟩ := one_ HE.out; go_upto_region 5 with fail; generalize hw5 : World.setCell _ ⟨w.heap.size + 2, 0, none⟩ _ = w5; have n0_ : Aside0 (Below w.heap.size w w5) := ⟨z_152⟩; have n1_ : Aside0 (w5.heap[w.heap.size]? = some (.cells #[.slice none 0 0] 22 (0, 0))) := ⟨z_153⟩; have n2_ : Aside0 (w5.heap[w.heap.size + 1]? = some (.cells #[.int .i64 0] 3 (0, 0))) := ⟨z_154⟩; have n3_ : Aside0 (w5.heap[w.heap.size + 2]? = some (.cells #[.int .i64 0] 24 (0, 0))) := ⟨z_155⟩; have n5_ : Aside0 (Kd.F k58 w5 (fun k => w.heap.size + 3 ≤ k ∧ k < w4.heap.size) A T.length T) := ⟨Kd.F_step HT.out (fun k hk hl => by rw [← hw5]; rw [Below.heap_setCell _ _ _ k (by show k ≠ w.heap.size + 2; omega), Below.heap_setCell _ _ _ k (by show k ≠ w.heap.size + 1; omega)])⟩
  have n6_ : w5.heap.size = w4.heap.size := by rw [← hw5]; simp [World.setCell]
  have n4_ := A_0 (show w.heap.size + 3 ≤ w5.heap.size from by have := HS.out; omega)
  rw [← n6_] at n5_; clear zl fl za fa ze fe HB HL HA HE HS HT n6_ hw5; have HB := n0_; have HL := n1_; have HA := n2_; have HE := n3_; have HS := n4_; have HT := n5_; clear n0_ n1_ n2_ n3_ n4_ n5_; obtain ⟨zl, fl⟩ := one_ HL.out; obtain ⟨za, fa⟩ := one_ HA.out; obtain ⟨ze, fe⟩ := one_ HE.out
  go_wp2_with (first | ((with_reducible refine gate_dst (N := 20) rfl ?_); (try (refine gate_guard (by rfl) ?_; dsimp only)); refine box_event ?hg (N := 20) ?hd (cs := #[.slice A T.length c, .int .i64 0, .int .i64 0, .int .i64 0, .int .i64 0]) (t := 79) ?hr ?_; (case hd => rfl); (case hg => rfl); (case hr => first | (go_simp; done) | (go_simp; rfl)); intro g hg w6 hbox hb; have HP := A_0 (show PI w w6 g A c T ⟨0, 0, 0, 0⟩ (.slice none 0 0) [] from ⟨hbox, ⟨_, Kd.F_below HT.out hb, fun k hk => ⟨hk.1, by rw [hg]; exact Nat.ne_of_lt hk.2, by simp [Value.ownBlock]⟩⟩, blk_below HL.out hb, blk_below HA.out hb, blk_below HE.out hb, World.ownsRow_nil _ _ _ _, ⟨fun _ => False, fun x hx => (List.not_mem_nil hx).elim, fun k hk => hk.elim⟩, below_step HB.out hb, by rw [hg]; exact HS.out⟩); clear zl fl za fa ze fe HB HL HA HE HS HT hbox hb hg))
  go_loopg [21] K (fun kq v21 wq => PRel w T st r g A c kq wq)
  case atStart => exact ⟨_, _, _, [], HF, HP⟩
  case round =>
    clear HP HF; unfold PRel at hrel; obtain ⟨s, Av, cv, xs, HF, HP⟩ := hrel; cases gk with
    | zero => exact absurd HF.out (by simp [parsF])
    | succ k1 =>
    obtain ⟨⟨⟨h0, h1⟩, hx⟩, hcase⟩ := parsF_succ HF.out; clear HF; have hxl : xs.length < 1000 := by simpa using hx
    clear hx; have HCS := A_0 hcase; clear hcase; obtain ⟨⟨z0, z1, z2⟩, y0, y1, y2⟩ := HP.out.cells
    go_wp2_with fail
    (with_reducible refine (now_L g A c T s _ HP.out.rd h0 h1).mono ?_)
    rintro e wn ⟨rfl, hb⟩; have n0_ := A_0 (HP.out.below hb); clear HP hb z0 z1 z2 y0 y1 y2; have HP := n0_; clear n0_; obtain ⟨⟨z0, z1, z2⟩, y0, y1, y2⟩ := HP.out.cells; generalize ht : rd_T58 T s.at_ = t at *; obtain ⟨t0, t1, t2, t3⟩ := t; have hf0 := field58_0 t0 t1 t2 t3; unfold tokV; dsimp only; have hcase := HCS.out; clear HCS; dsimp only at hcase; rcases hcase with ⟨ht0, rfl⟩ | ⟨ht0, hcase⟩
    · subst ht0
      go_wp2_with fail
      generalize hq : World.setCell _ ⟨w.heap.size + 2, 0, none⟩ _ = wf; have hP : PI w wf g A c T s (.slice Av xs.length cv) xs := by rw [← hq]; exact HP.out.again
      obtain ⟨⟨x0, x1, x2⟩, _, _, _⟩ := hP.cells; obtain ⟨A', c', hv, hF, hc⟩ := hP.rows; injection hv with e1 e2 e3; subst e1 e3; have hpp : PPar w (.ok (xs.map (·.x))) (.returned (.tuple #[.slice Av xs.length cv, .int .i64 0, .int .i64 0])) wf := ⟨hP.bw, Av, cv, by rw [List.length_map], hF, by rw [List.length_map]; exact hc⟩
      refine par_idle (w := w) ?_ hpp
      simp [results, Try.results25, go_sem, x0, x1, x2]
    have hk0 : (t0 != 0) = true := bne_iff_ne.2 ht0; clear ht0; have HCS := A_0 hcase; clear hcase; go_upto_region 7 with fail; clear hf0 hk0 ht h0 h1; have hn0 : w.heap.size < wn.heap.size := blk_lt HP.out.bl; rcases HCS.out with ⟨er, at_, hst, rfl⟩ | ⟨x, s2, hst, hps⟩
    · clear HCS hxl
      first | go_region_dies | fail
      all_goals (refine (SC.out.use s _ g A c _ hst (PI.rd (w := w) (v := .slice Av xs.length cv) (xs := xs) (z_156))).mono ?_)
      all_goals (intro e wx hp; obtain ⟨rfl, hk⟩ := hp.err)
      all_goals (refine par_trap (PI.err (g := g) (A := A) (c := c) (T := T) (s := s) (v := .slice Av xs.length cv) (xs := xs) (z_156) hk) ?_)
      all_goals (intro W' q0 q1 q2; simp [results, Try.results25, go_sem, q0, q1, q2])
    · clear HCS
      have HPS := A_0 hps; clear hps; obtain ⟨i0, hi0, hzz⟩ := Option.map_eq_some_iff.1 inf41; simp only [Prod.mk.injEq] at hzz; obtain ⟨iz0, iz1, iz2⟩ := hzz; have HI := A_0 hi0; have HZ := A_0 iz0; have HZ1 := A_0 iz1; have HZ2 := A_0 iz2; clear hi0 iz0 iz1 iz2; have HLN := A_0 hn0; have HXL := A_0 hxl; clear hxl; have hu41 := Try.underlying41; have hu22 := Try.underlying22; have p0 := eq_true (show (0 : Int) ≤ (xs.length : Int) by omega)
      have p1 := eq_true (show (xs.length : Int) < ((xs.length + 1 : Nat) : Int) by omega)
      have p2 := eq_true (show (xs.length : Int) < (xs.length : Int) + 1 by omega)
      refine wp_region_noPanic ?_
      go_region_law ((first | (refine step_append_lies _ rfl (.tmp 25) (.tmp 29) 22 rfl w.heap.size 41 i0 zV41 6 104 Try.underlying22 HI.out HZ.out HZ1.out HZ2.out rfl (by decide) (.slice Av xs.length cv) xs.length (xs.flatMap SV.cs) rfl (PI.row (g := g) (A := A) (c := c) (T := T) (s := s2) (z_157)) _ 1 1 z6L rfl rfl (World.news_of_block (cs := #[.int .i64 0, .string (⟨#[]⟩ : ByteArray), .int .i64 0, .slice none 0 0, .slice none 0 0, .slice none 0 0]) (t := 41) (fr := (0, 0)) (by first | exact HN7.out | exact blk_new _ _ | exact blk_drew (blk_new _ _))) z6_one (by decide) (by have := HXL.out; simp only [maxLen]; omega) (by have := HXL.out; omega) (PI.bw (g := g) (A := A) (c := c) (T := T) (s := s2) (v := .slice Av xs.length cv) (xs := xs) (z_157)).size _ rfl ?_; intro gb cap w1 ho1 hg1 hat hlt; obtain ⟨ox, hpo7, hox7⟩ := HO7.out; have FN : Aside0 (PFin w w1 g gb cap A c T s2 xs p) := ⟨by first | exact PFin.mk' HP7.out hpo7 hox7 hg1 hat ho1 | exact PFin.mk' (HP7.out.alloc _) (part_alloc hpo7 _) (fun k hk => hox7 k hk.1) hg1 hat ho1⟩; obtain ⟨⟨m0, m1, m2, m3, m4, m5⟩, r0, r1, r2, r3, r4, r5⟩ := new_cells (flat6 xs) ho1; obtain ⟨⟨hne1, hne2⟩, v0, v1⟩ := new_ne (w := w) (g := g) (A := A) (c := c) (T := T) (s := s2) (xs := xs) (z_157) hg1 hat; clear ho1 hg1 hat hlt hpo7 hox7) | (go_simp; refine (SC.out.use s _ g A c _ hst (PI.rd (w := w) (v := .slice Av xs.length cv) (xs := xs) (z_156))).mono ?_; intro e w7 hp; obtain ⟨p, rfl, hpx, hpo, hrd, hk⟩ := hp.ok; subst hpx; have HP7 : Aside0 (PI w w7 g A c T s2 (.slice Av xs.length cv) xs) := ⟨PI.call (s := s) (z_156) hk hrd⟩; have HO7 : Aside0 (∃ ox : Nat → Prop, p.ok w7 ox ∧ ∀ k, ox k → w.heap.size + 3 ≤ k ∧ k ≠ g ∧ (Value.slice Av xs.length cv).ownBlock ≠ some k) := ⟨part_of HP.out (by first | exact Nat.le_refl _ | (show wn.heap.size ≤ (wn.alloc _).heap.size; simp)) hpo⟩; (try (have HN7 : Aside0 (w7.heap[wn.heap.size]? = some (.cells #[.int .i64 0, .string (⟨#[]⟩ : ByteArray), .int .i64 0, .slice none 0 0, .slice none 0 0, .slice none 0 0] 41 (0, 0))) := ⟨KeepBut.blk hk (by first | exact blk_new _ _ | exact blk_drew (blk_new _ _)) (by have := blk_lt HP.out.bk; omega) (by simp)⟩)); clear hp hpo; obtain ⟨⟨c0, c1, c2⟩, e0, e1, e2⟩ := HP7.out.cells; have hn7 : w.heap.size < w7.heap.size := blk_lt HP7.out.bl; unfold SV.val; dsimp only)))
      all_goals (refine NoPanic.normal ?_)
      all_goals (go_wp2_with fail)
      all_goals (go_roundg k1)
      all_goals (first | exact Nat.lt_succ_self _ | exact ⟨s2, _, _, xs ++ [p], ⟨by rw [List.map_append, List.map_cons, List.map_nil]; exact HPS.out⟩, ⟨by first | with_reducible exact FN.out.a | with_reducible exact FN.out.b⟩⟩)
end Go.Proofs.Ytobkdmmnbnpemaa.K
