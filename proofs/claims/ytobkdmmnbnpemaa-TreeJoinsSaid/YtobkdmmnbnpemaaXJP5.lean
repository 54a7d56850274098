/- The parser's above, walked by hand. -/
import Derived.Test.YtobkdmmnbnpemaaXJP4
namespace Go.Proofs.Ytobkdmmnbnpemaa.K
open Go.RowKit Go.Proofs.YtobkdmmnbnpemaaW.PrintWords Go.Proofs.YtobkdmmnbnpemaaW.PrintLast Go.Proofs.YtobkdmmnbnpemaaW.PrintMore
attribute [local go_sem] max2_int min2_int max_two min_two max_three min_three max_four min_four
set_option linter.unusedVariables false
set_option linter.unusedSimpArgs false
theorem OneC.use {T : List S58} {f : PSt → Option Res} (h : OneC T f) (s : PSt) (r : Res) (g : Nat) (A : Option Addr) (c : Nat) (w : World) (h1 : f s = some r) (h2 : RD w g A c T s) : Calls Try.prog 126 #[.pointer (some ⟨g, 0, none⟩)] w (PPart w g A c T r) := h s r g A c w h1 h2
def AboC (T : List S58) (f : Int → PSt → Option Res) : Prop := ∀ (least : Int) (s : PSt) (r : Res) (g : Nat) (A : Option Addr) (c : Nat) (w : World), f least s = some r → RD w g A c T s → Calls Try.prog 104 #[.pointer (some ⟨g, 0, none⟩), .int .i64 least] w (PPart w g A c T r)
theorem AboC.use {T : List S58} {f : Int → PSt → Option Res} (h : AboC T f) (least : Int) (s : PSt) (r : Res) (g : Nat) (A : Option Addr) (c : Nat) (w : World) (h1 : f least s = some r) (h2 : RD w g A c T s) : Calls Try.prog 104 #[.pointer (some ⟨g, 0, none⟩), .int .i64 least] w (PPart w g A c T r) := h least s r g A c w h1 h2
theorem rank_some (x : ByteArray) : ∃ p, tree_Rank.f x = some p := by
  unfold tree_Rank.f; by_cases c0 : x.toList = ([124] : List UInt8)
  · exact ⟨_, if_pos c0⟩
  rw [if_neg c0]; by_cases c1 : x.toList = ([94] : List UInt8)
  · exact ⟨_, if_pos c1⟩
  rw [if_neg c1]; by_cases c2 : x.toList = ([38] : List UInt8)
  · exact ⟨_, if_pos c2⟩
  rw [if_neg c2]; by_cases c3 : x.toList = ([61, 61] : List UInt8)
  · exact ⟨_, if_pos c3⟩
  rw [if_neg c3]; by_cases c4 : x.toList = ([33, 61] : List UInt8)
  · exact ⟨_, if_pos c4⟩
  rw [if_neg c4]; by_cases c5 : x.toList = ([60] : List UInt8)
  · exact ⟨_, if_pos c5⟩
  rw [if_neg c5]; by_cases c6 : x.toList = ([60, 61] : List UInt8)
  · exact ⟨_, if_pos c6⟩
  rw [if_neg c6]; by_cases c7 : x.toList = ([62] : List UInt8)
  · exact ⟨_, if_pos c7⟩
  rw [if_neg c7]; by_cases c8 : x.toList = ([62, 61] : List UInt8)
  · exact ⟨_, if_pos c8⟩
  rw [if_neg c8]; by_cases c9 : x.toList = ([60, 60] : List UInt8)
  · exact ⟨_, if_pos c9⟩
  rw [if_neg c9]; by_cases c10 : x.toList = ([62, 62] : List UInt8)
  · exact ⟨_, if_pos c10⟩
  rw [if_neg c10]; by_cases c11 : x.toList = ([43] : List UInt8)
  · exact ⟨_, if_pos c11⟩
  rw [if_neg c11]; by_cases c12 : x.toList = ([45] : List UInt8)
  · exact ⟨_, if_pos c12⟩
  rw [if_neg c12]; by_cases c13 : x.toList = ([42] : List UInt8)
  · exact ⟨_, if_pos c13⟩
  rw [if_neg c13]; by_cases c14 : x.toList = ([47] : List UInt8)
  · exact ⟨_, if_pos c14⟩
  rw [if_neg c14]; by_cases c15 : x.toList = ([37] : List UInt8)
  · exact ⟨_, if_pos c15⟩
  rw [if_neg c15]; exact ⟨_, rfl⟩
def rankOf (t : S58) : Int × Int := if t.f0 = 4 then (tree_Rank.f t.f1).getD (0, 0) else (0, 0)
theorem rank_L (x : ByteArray) (w : World) : Calls Try.prog 21 #[.string x] w fun e w' => e = .returned (.tuple #[.int .i64 ((tree_Rank.f x).getD (0, 0)).1, .int .i64 ((tree_Rank.f x).getD (0, 0)).2]) ∧ Below w.heap.size w w' := by
  obtain ⟨⟨r1, r2⟩, h⟩ := rank_some x; rw [h]; exact (tree_Rank.calls x r1 r2 w h).mono fun e w' ⟨h1, h2⟩ => ⟨h1, h2.below⟩
def loopF (T : List S58) (ab : Int → PSt → Option Res) (least : Int) : Nat → (S38 × Int) → PSt → Option Res
  | 0, _, _ => none
  | k + 1, p, s => if goodS T s ∧ (0 ≤ p.2 ∧ p.2 ≤ 48) ∧ 0 ≤ (rankOf (rd_T58 T s.at_)).1 ∧ (rankOf (rd_T58 T s.at_)).1 ≤ 100 then
      (if (rankOf (rd_T58 T s.at_)).1 < least ∨ (rankOf (rd_T58 T s.at_)).1 = 0 then some (.ok (p, s)) else
        match ab ((rankOf (rd_T58 T s.at_)).1 + 1) ⟨s.at_ + 1, s.nodes, s.op, s.bl⟩ with
        | none => none
        | some (.error e) => some (.error e)
        | some (.ok (p2, s2)) => if (0 ≤ p2.2 ∧ p2.2 ≤ 48) ∧ 0 ≤ s2.nodes ∧ s2.nodes ≤ 600 then
            (match nodeQ s2 (rd_T58 T s.at_).f3 5 0 ⟨#[]⟩ (rankOf (rd_T58 T s.at_)).2 [p, p2] with
            | .error e => some (.error e)
            | .ok (p3, s3) => loopF T ab least k p3 s3) else none)
    else none
def stepF (T : List S58) (onF : PSt → Option Res) (ab : Int → PSt → Option Res) (K : Nat) (least : Int) (s : PSt) : Option Res :=
  match onF s with
  | none => none
  | some (.error e) => some (.error e)
  | some (.ok (p, s1)) => loopF T ab least K p s1
theorem PRow.two {W : World} {qb : Nat} {p y : PV} (h : W.heap[qb]? = some (.cells #[.int .i64 p.x.f0, .int .i64 p.x.f1, .string p.x.f2, .int .i64 p.x.f3, .slice p.A p.x.f4.length p.c, .int .i64 p.d, .int .i64 y.x.f0, .int .i64 y.x.f1, .string y.x.f2, .int .i64 y.x.f3, .slice y.A y.x.f4.length y.c, .int .i64 y.d] 137 (0, 0))) : PRow W (some ⟨qb, 0, none⟩) [p, y] := by
  intro j z hj hz; have h2 : j.toNat = 0 ∨ j.toNat = 1 := by
    rcases Nat.lt_or_ge j.toNat 2 with q | q
    · omega
    · rw [List.getElem?_eq_none (by simpa using q)] at hz; cases hz
  rcases h2 with e | e
  · rw [e] at hz ⊢
    injection hz with hz; subst hz; exact z_42
  · rw [e] at hz ⊢
    injection hz with hz; subst hz; exact ⟨_, rfl, blk_cell h 6, blk_cell h 7, blk_cell h 8, blk_cell h 9, blk_cell h 10, blk_cell h 11⟩
set_option maxHeartbeats 8000000 in
set_option maxRecDepth 100000 in
theorem above_step (T : List S58) (onF : PSt → Option Res) (OC0 : OneC T onF) (ab : Int → PSt → Option Res) (AC0 : AboC T ab) (K : Nat) : AboC T (stepF T onF ab K) := by
  intro least s r g A c w h hrd; unfold stepF at h; obtain ⟨a, n, q, b⟩ := s; have HT0 := A_0 hrd.tk; have hmx := hrd.max; have Bg : Aside0 (w.heap[g]? = some (.cells #[.slice A T.length c, .int .i64 a, .int .i64 n, .int .i64 q, .int .i64 b] 79 (0, 0))) := ⟨hrd.bk⟩; have HK := A_0 (KeepBut.refl w g none); have HLT := A_0 hrd.lt; have OC := A_0 OC0; have AC := A_0 AC0; clear hrd OC0 AC0; have gz := five_ Bg.out; rcases hon : onF ⟨a, n, q, b⟩ with _ | r1
  · rw [hon] at h; cases h
  rw [hon] at h; have HON := A_0 hon; clear hon
  go_enter Try.func104, Try.ntmps104
  go_wp2_with (first | ((with_reducible refine gate_dst (N := 4) rfl ?_); (try (refine gate_guard (by rfl) ?_; dsimp only)); refine box_event ?hg (N := 4) ?hd (cs := #[.int .i64 0, .int .i64 0, .string (⟨#[]⟩ : ByteArray), .int .i64 0, .slice none 0 0, .int .i64 0]) (t := 137) ?hr ?_; (case hd => rfl); (case hg => rfl); (case hr => first | (go_simp; done) | (go_simp; rfl)); intro rb hg wr hbox hb; have n0_ := A_0 (HK.out.trans (KeepBut.of_below hb g none) (.inl rfl)); have n2_ := A_0 hbox; have n3_ := A_0 (show w.heap.size ≤ rb by rw [hg]; exact keep_size HK.out); have m0_ := A_0 (blk_below Bg.out hb); have k0_ := A_0 (show rb ≠ g by rw [hg]; exact z_43); clear gz; clear Bg; clear HK hb hbox hg; have HK := n0_; have Br := n2_; have Gr := n3_; clear n0_ n2_ n3_; have Bg := m0_; have hrg := k0_.out; have hgr := Ne.symm k0_.out; clear m0_ k0_; have gz := five_ Bg.out; have rz := sixc Br.out))
  have HSZ := A_0 (show w.heap.size ≤ wr.heap.size ∧ rb < wr.heap.size from ⟨keep_size HK.out, blk_lt Br.out⟩)
  (with_reducible refine (OC.out.use ⟨a, n, q, b⟩ r1 g A c _ HON.out (⟨Bg.out, Kd.F_keep HT0.out HK.out (fun _ h => h)⟩ : RD _ g A c T _)).mono ?_)
  intro e wn hp; rcases r1 with ⟨er, at_⟩ | ⟨p0, s1⟩
  · obtain ⟨rfl, hk⟩ := PPartO.err hp
    have h' := Option.some.inj h; subst h'; exact z_49
  obtain ⟨p, rfl, hpx, hpo, hx, hk⟩ := PPartO.ok hp; clear hp HON; subst hpx; have HL := A_0 h; clear h; obtain ⟨a1, n1, q1, b1⟩ := s1; unfold PV.val; have n0_ : Aside0 (wn.heap[g]? = some (.cells #[.slice A T.length c, .int .i64 a1, .int .i64 n1, .int .i64 q1, .int .i64 b1] 79 (0, 0))) := ⟨hx.bk⟩; have n1_ := A_0 (KeepBut.blk hk Br.out hrg (by simp)); have nk_ := A_0 (HK.out.trans hk (.inl rfl)); clear gz; clear rz; clear HK hk Bg Br hx; have Bg := n0_; have Br := n1_; have HK := nk_; clear nk_ n0_ n1_; have gz := five_ Bg.out; have rz := sixc Br.out; have Ep : Aside0 (∃ op_ : Nat → Prop, PV.ok wn op_ p ∧ ∀ k, op_ k → w.heap.size ≤ k ∧ k ≠ rb) := ⟨⟨_, hpo, fun k hk => by have := hk.1; have := HSZ.out; omega⟩⟩
  clear HSZ hpo
  go_wp2_with (first | ((with_reducible refine gate_dst (N := 5) rfl ?_); (try (refine gate_guard (by rfl) ?_; dsimp only)); refine box_event ?hg (N := 5) ?hd (cs := #[.int .i64 0, .int .i64 0, .string (⟨#[]⟩ : ByteArray), .int .i64 0, .slice none 0 0, .int .i64 0]) (t := 137) ?hr ?_; (case hd => rfl); (case hg => rfl); (case hr => first | (go_simp; done) | (go_simp; rfl)); intro lb hg wl hbox hb; have e0_ : Aside0 (∃ op_ : Nat → Prop, PV.ok wl op_ p ∧ ∀ k, op_ k → w.heap.size ≤ k ∧ k ≠ rb ∧ k ≠ lb) := ⟨z_50⟩; clear Ep; have n0_ := A_0 (HK.out.trans (KeepBut.of_below hb g none) (.inl rfl)); have n2_ := A_0 hbox; have n3_ := A_0 (show w.heap.size ≤ lb by rw [hg]; exact keep_size HK.out); have m0_ := A_0 (blk_below Bg.out hb); have k0_ := A_0 (show lb ≠ g by rw [hg]; exact z_43); have m1_ := A_0 (blk_below Br.out hb); have k1_ := A_0 (show lb ≠ rb by rw [hg]; exact z_51); clear gz; clear Bg; clear rz; clear Br; clear HK hb hbox hg; have HK := n0_; have Bl := n2_; have Gl := n3_; clear n0_ n2_ n3_; have Bg := m0_; have hlg := k0_.out; have hgl := Ne.symm k0_.out; clear m0_ k0_; have gz := five_ Bg.out; have Br := m1_; have hlr := k1_.out; have hrl := Ne.symm k1_.out; clear m1_ k1_; have rz := sixc Br.out; have lz := sixc Bl.out; have Ep := e0_; clear e0_))
  generalize hq_ : World.setCell _ ⟨lb, 5, none⟩ _ = wt; have e0_ : Aside0 (∃ op_ : Nat → Prop, PV.ok wt op_ p ∧ ∀ k, op_ k → w.heap.size ≤ k ∧ k ≠ rb ∧ k ≠ lb) := ⟨by obtain ⟨op_, h1, h2⟩ := Ep.out; exact z_147⟩; clear Ep; have Ep := e0_; clear e0_; have hq := hq_; clear hq_; have n0_ : Aside0 (wt.heap[g]? = some (.cells #[.slice A T.length c, .int .i64 a1, .int .i64 n1, .int .i64 q1, .int .i64 b1] 79 (0, 0))) := ⟨z_148⟩; have n1_ : Aside0 (wt.heap[rb]? = some (.cells #[.int .i64 0, .int .i64 0, .string (⟨#[]⟩ : ByteArray), .int .i64 0, .slice none 0 0, .int .i64 0] 137 (0, 0))) := ⟨z_149⟩; have n2_ : Aside0 (wt.heap[lb]? = some (.cells #[.int .i64 p.x.f0, .int .i64 p.x.f1, .string p.x.f2, .int .i64 p.x.f3, .slice p.A p.x.f4.length p.c, .int .i64 p.d] 137 (0, 0))) := ⟨by rw [← hq]; refine blk_put (cs := #[.int .i64 p.x.f0, .int .i64 p.x.f1, .string p.x.f2, .int .i64 p.x.f3, .slice p.A p.x.f4.length p.c, .int .i64 0]) ?_ 5 _ rfl; refine blk_put (cs := #[.int .i64 p.x.f0, .int .i64 p.x.f1, .string p.x.f2, .int .i64 p.x.f3, .slice none 0 0, .int .i64 0]) ?_ 4 _ rfl; refine blk_put (cs := #[.int .i64 p.x.f0, .int .i64 p.x.f1, .string p.x.f2, .int .i64 0, .slice none 0 0, .int .i64 0]) ?_ 3 _ rfl; refine blk_put (cs := #[.int .i64 p.x.f0, .int .i64 p.x.f1, .string (⟨#[]⟩ : ByteArray), .int .i64 0, .slice none 0 0, .int .i64 0]) ?_ 2 _ rfl; refine blk_put (cs := #[.int .i64 p.x.f0, .int .i64 0, .string (⟨#[]⟩ : ByteArray), .int .i64 0, .slice none 0 0, .int .i64 0]) ?_ 1 _ rfl; refine blk_put (cs := #[.int .i64 0, .int .i64 0, .string (⟨#[]⟩ : ByteArray), .int .i64 0, .slice none 0 0, .int .i64 0]) ?_ 0 _ rfl; exact Bl.out⟩; have nk_ : Aside0 (KeepBut w wt g none) := ⟨z_150⟩; clear gz; clear rz; clear lz; clear hq HK Bg Br Bl; have Bg := n0_; have Br := n1_; have Bl := n2_; have HK := nk_; clear nk_ n0_ n1_ n2_; have gz := five_ Bg.out; have rz := sixc Br.out; have lz := sixc Bl.out
  go_loopg [6] K (fun kq v6 wq => ∃ (p : PV) (a n q b : Int), Aside0 (loopF T ab least kq (p.x, p.d) ⟨a, n, q, b⟩ = some r) ∧ Aside0 (kq ≤ K) ∧ Aside0 (wq.heap[g]? = some (.cells #[.slice A T.length c, .int .i64 a, .int .i64 n, .int .i64 q, .int .i64 b] 79 (0, 0))) ∧ Aside0 (wq.heap[rb]? = some (.cells #[.int .i64 0, .int .i64 0, .string (⟨#[]⟩ : ByteArray), .int .i64 0, .slice none 0 0, .int .i64 0] 137 (0, 0))) ∧ Aside0 (wq.heap[lb]? = some (.cells #[.int .i64 p.x.f0, .int .i64 p.x.f1, .string p.x.f2, .int .i64 p.x.f3, .slice p.A p.x.f4.length p.c, .int .i64 p.d] 137 (0, 0))) ∧ Aside0 (∃ op_ : Nat → Prop, PV.ok wq op_ p ∧ ∀ k, op_ k → w.heap.size ≤ k ∧ k ≠ rb ∧ k ≠ lb) ∧ Aside0 (KeepBut w wq g none))
  case atStart => exact ⟨p, a1, n1, q1, b1, HL, ⟨Nat.le_refl _⟩, Bg, Br, Bl, Ep, HK⟩
  case round =>
    clear gz; clear rz; clear lz; clear Bg Br Bl Ep HK HL; obtain ⟨p, a, n, q, b, HL, HK1, Bg, Br, Bl, Ep, HK⟩ := hrel; have gz := five_ Bg.out; have rz := sixc Br.out; have lz := sixc Bl.out; cases gk with
    | zero => exact absurd HL.out (by simp [loopF])
    | succ k1 =>
      have h := HL.out; clear HL; unfold loopF at h; by_cases hg : goodS T ⟨a, n, q, b⟩ ∧ (0 ≤ p.d ∧ p.d ≤ 48) ∧ 0 ≤ (rankOf (rd_T58 T a)).1 ∧ (rankOf (rd_T58 T a)).1 ≤ 100
      rotate_left
      · rw [if_neg hg] at h; cases h
      rw [if_pos hg] at h; obtain ⟨⟨⟨h0, h1⟩, hn0, hn1⟩, ⟨hd0, hd1⟩, hr0, hr1⟩ := hg; dsimp only at h h0 h1 hn0 hn1; have hwa : wrap64 (a + 1) = a + 1 := by unfold wrap64; omega
      have HL := A_0 h; clear h; generalize ht : rd_T58 T a = t at *; have HTK := A_0 ht; clear ht
      go_wp2_with fail
      (with_reducible refine (now_L g A c T ⟨a, n, q, b⟩ _ (⟨Bg.out, Kd.F_keep HT0.out HK.out (fun _ h => h)⟩ : RD _ g A c T _) h0 h1).mono ?_)
      rintro e wn ⟨rfl, hb⟩; rw [HTK.out]; unfold tokV; have e0_ : Aside0 (∃ op_ : Nat → Prop, PV.ok wn op_ p ∧ ∀ k, op_ k → w.heap.size ≤ k ∧ k ≠ rb ∧ k ≠ lb) := ⟨z_70⟩; clear Ep; have Ep := e0_; clear e0_; have n0_ := A_0 (blk_below Bg.out hb); have n1_ := A_0 (blk_below Br.out hb); have n2_ := A_0 (blk_below Bl.out hb); have nk_ := A_0 (HK.out.trans (KeepBut.of_below hb g none) (.inl rfl)); clear gz; clear rz; clear lz; clear HK hb Bg Br Bl; have Bg := n0_; have Br := n1_; have Bl := n2_; have HK := nk_; clear nk_ n0_ n1_ n2_; have gz := five_ Bg.out; have rz := sixc Br.out; have lz := sixc Bl.out; go_upto_region 4 with (first | ((with_reducible refine gate_dst (N := 6) rfl ?_); (try (refine gate_guard (by rfl) ?_; dsimp only)); refine box_event ?hg (N := 6) ?hd (cs := #[.int .i64 0, .string (⟨#[]⟩ : ByteArray), .int .i64 0, .int .i64 0]) (t := 58) ?hr ?_; (case hd => rfl); (case hg => rfl); (case hr => first | (go_simp; done) | (go_simp; rfl)); intro tb hg wt hbox hb; have e0_ : Aside0 (∃ op_ : Nat → Prop, PV.ok wt op_ p ∧ ∀ k, op_ k → w.heap.size ≤ k ∧ k ≠ rb ∧ k ≠ lb ∧ k ≠ tb) := ⟨z_50⟩; clear Ep; have n0_ := A_0 (HK.out.trans (KeepBut.of_below hb g none) (.inl rfl)); have n2_ := A_0 hbox; have n3_ := A_0 (show w.heap.size ≤ tb by rw [hg]; exact keep_size HK.out); have m0_ := A_0 (blk_below Bg.out hb); have k0_ := A_0 (show tb ≠ g by rw [hg]; exact z_43); have m1_ := A_0 (blk_below Br.out hb); have k1_ := A_0 (show tb ≠ rb by rw [hg]; exact z_51); have m2_ := A_0 (blk_below Bl.out hb); have k2_ := A_0 (show tb ≠ lb by rw [hg]; exact Ne.symm (Nat.ne_of_lt (blk_lt Bl.out))); clear gz; clear Bg; clear rz; clear Br; clear lz; clear Bl; clear HK hb hbox hg; have HK := n0_; have Bt := n2_; have Gt := n3_; clear n0_ n2_ n3_; have Bg := m0_; have htg := k0_.out; have hgt := Ne.symm k0_.out; clear m0_ k0_; have gz := five_ Bg.out; have Br := m1_; have htr := k1_.out; have hrt := Ne.symm k1_.out; clear m1_ k1_; have rz := sixc Br.out; have Bl := m2_; have htl := k2_.out; have hlt := Ne.symm k2_.out; clear m2_ k2_; have lz := sixc Bl.out; have tz := four Bt.out; have Ep := e0_; clear e0_))
      generalize hq_ : World.setCell _ ⟨tb, 3, none⟩ _ = wu; have e0_ : Aside0 (∃ op_ : Nat → Prop, PV.ok wu op_ p ∧ ∀ k, op_ k → w.heap.size ≤ k ∧ k ≠ rb ∧ k ≠ lb ∧ k ≠ tb) := ⟨by obtain ⟨op_, h1, h2⟩ := Ep.out; exact z_123⟩; clear Ep; have Ep := e0_; clear e0_; have hq := hq_; clear hq_; have n0_ : Aside0 (wu.heap[g]? = some (.cells #[.slice A T.length c, .int .i64 a, .int .i64 n, .int .i64 q, .int .i64 b] 79 (0, 0))) := ⟨z_83⟩; have n1_ : Aside0 (wu.heap[rb]? = some (.cells #[.int .i64 0, .int .i64 0, .string (⟨#[]⟩ : ByteArray), .int .i64 0, .slice none 0 0, .int .i64 0] 137 (0, 0))) := ⟨z_84⟩; have n2_ : Aside0 (wu.heap[lb]? = some (.cells #[.int .i64 p.x.f0, .int .i64 p.x.f1, .string p.x.f2, .int .i64 p.x.f3, .slice p.A p.x.f4.length p.c, .int .i64 p.d] 137 (0, 0))) := ⟨by rw [← hq]; refine blk_far ?_ hlt _; refine blk_far ?_ hlt _; refine blk_far ?_ hlt _; refine blk_far ?_ hlt _; exact Bl.out⟩; have n3_ : Aside0 (wu.heap[tb]? = some (.cells #[.int .i64 t.f0, .string t.f1, .int .i64 t.f2, .int .i64 t.f3] 58 (0, 0))) := ⟨by rw [← hq]; refine blk_put (cs := #[.int .i64 t.f0, .string t.f1, .int .i64 t.f2, .int .i64 0]) ?_ 3 _ rfl; refine blk_put (cs := #[.int .i64 t.f0, .string t.f1, .int .i64 0, .int .i64 0]) ?_ 2 _ rfl; refine blk_put (cs := #[.int .i64 t.f0, .string (⟨#[]⟩ : ByteArray), .int .i64 0, .int .i64 0]) ?_ 1 _ rfl; refine blk_put (cs := #[.int .i64 0, .string (⟨#[]⟩ : ByteArray), .int .i64 0, .int .i64 0]) ?_ 0 _ rfl; exact Bt.out⟩; have nk_ : Aside0 (KeepBut w wu g none) := ⟨z_86⟩; clear gz; clear rz; clear lz; clear tz; clear hq HK Bg Br Bl Bt; have Bg := n0_; have Br := n1_; have Bl := n2_; have Bt := n3_; have HK := nk_; clear nk_ n0_ n1_ n2_ n3_; have gz := five_ Bg.out; have rz := sixc Br.out; have lz := sixc Bl.out; have tz := four Bt.out
      go_upto_if 16 with (fail)
      generalize hrk : rankOf t = rk at *
      go_cut [7, 8] (fun v7 v8 wx => v7 = .int .i64 rk.1 ∧ v8 = .int .i64 rk.2 ∧ Aside0 (wx.heap[g]? = some (.cells #[.slice A T.length c, .int .i64 a, .int .i64 n, .int .i64 q, .int .i64 b] 79 (0, 0))) ∧ Aside0 (wx.heap[rb]? = some (.cells #[.int .i64 0, .int .i64 0, .string (⟨#[]⟩ : ByteArray), .int .i64 0, .slice none 0 0, .int .i64 0] 137 (0, 0))) ∧ Aside0 (wx.heap[lb]? = some (.cells #[.int .i64 p.x.f0, .int .i64 p.x.f1, .string p.x.f2, .int .i64 p.x.f3, .slice p.A p.x.f4.length p.c, .int .i64 p.d] 137 (0, 0))) ∧ Aside0 (wx.heap[tb]? = some (.cells #[.int .i64 t.f0, .string t.f1, .int .i64 t.f2, .int .i64 t.f3] 58 (0, 0))) ∧ Aside0 (∃ op_ : Nat → Prop, PV.ok wx op_ p ∧ ∀ k, op_ k → w.heap.size ≤ k ∧ k ≠ rb ∧ k ≠ lb ∧ k ≠ tb) ∧ Aside0 (KeepBut w wx g none))
      case first =>
        by_cases h4 : t.f0 = 4
        · have d4 : (t.f0 == 4) = true := beq_iff_eq.2 h4
          have hrr : rk = (tree_Rank.f t.f1).getD (0, 0) := by rw [← hrk]; unfold rankOf; rw [if_pos h4]
          go_wp2_with fail
          (with_reducible refine (rank_L t.f1 _).mono ?_)
          rintro e wn ⟨rfl, hb⟩; have e0_ : Aside0 (∃ op_ : Nat → Prop, PV.ok wn op_ p ∧ ∀ k, op_ k → w.heap.size ≤ k ∧ k ≠ rb ∧ k ≠ lb ∧ k ≠ tb) := ⟨z_70⟩; clear Ep; have Ep := e0_; clear e0_; have n0_ := A_0 (blk_below Bg.out hb); have n1_ := A_0 (blk_below Br.out hb); have n2_ := A_0 (blk_below Bl.out hb); have n3_ := A_0 (blk_below Bt.out hb); have nk_ := A_0 (HK.out.trans (KeepBut.of_below hb g none) (.inl rfl)); clear gz; clear rz; clear lz; clear tz; clear HK hb Bg Br Bl Bt; have Bg := n0_; have Br := n1_; have Bl := n2_; have Bt := n3_; have HK := nk_; clear nk_ n0_ n1_ n2_ n3_; have gz := five_ Bg.out; have rz := sixc Br.out; have lz := sixc Bl.out; have tz := four Bt.out
          go_wp2_with fail
          go_meet
          exact ⟨by rw [hrr], by rw [hrr], Bg, Br, Bl, Bt, Ep, HK⟩
        · have d4 : (t.f0 == 4) = false := beq_eq_false_iff_ne.2 h4
          have hrr : rk = (0, 0) := by rw [← hrk]; unfold rankOf; rw [if_neg h4]
          go_wp2_with fail
          go_meet
          exact ⟨by rw [hrr], by rw [hrr], Bg, Br, Bl, Bt, Ep, HK⟩
      case rest =>
        clear gz; clear rz; clear lz; clear tz; clear Bg Br Bl Bt Ep HK hrk; obtain ⟨rfl, rfl, Bg, Br, Bl, Bt, Ep, HK⟩ := hcut; have gz := five_ Bg.out; have rz := sixc Br.out; have lz := sixc Bl.out; have tz := four Bt.out; have h := HL.out; clear HL; obtain ⟨rk1, rk2⟩ := rk; dsimp only at h hr0 hr1 ⊢; by_cases hst : rk1 < least ∨ rk1 = 0
        · rw [if_pos hst] at h
          have h' := Option.some.inj h; subst h'; have HF : Aside0 ((decide (rk1 < least) = true) ∨ (decide (rk1 < least) = false ∧ (rk1 == 0) = true)) := ⟨by
            by_cases z : rk1 < least
            · exact .inl (decide_eq_true z)
            · exact .inr ⟨decide_eq_false z, beq_iff_eq.2 (by omega)⟩⟩
          clear h hst; go_upto_region 6 with (fail)
          go_cut [29] (fun v29 wx => v29 = .bool true ∧ wc = wx)
          case first =>
            rcases HF.out with z | ⟨z1, z2⟩
            · go_wp2_with fail
              go_meet
              exact ⟨rfl, rfl⟩
            · go_wp2_with fail
              go_meet
              exact ⟨rfl, rfl⟩
          case rest =>
            obtain ⟨rfl, rfl⟩ := hcut
            go_wp2_with fail
            generalize hq_ : World.setCell _ ⟨rb, 5, none⟩ _ = wv; have e0_ : Aside0 (∃ op_ : Nat → Prop, PV.ok wv op_ p ∧ ∀ k, op_ k → w.heap.size ≤ k ∧ k ≠ rb ∧ k ≠ lb ∧ k ≠ tb) := ⟨z_88⟩; clear Ep; have Ep := e0_; clear e0_; have hq := hq_; clear hq_; have n0_ : Aside0 (wv.heap[g]? = some (.cells #[.slice A T.length c, .int .i64 a, .int .i64 n, .int .i64 q, .int .i64 b] 79 (0, 0))) := ⟨z_73⟩; have n1_ : Aside0 (wv.heap[rb]? = some (.cells #[.int .i64 p.x.f0, .int .i64 p.x.f1, .string p.x.f2, .int .i64 p.x.f3, .slice p.A p.x.f4.length p.c, .int .i64 p.d] 137 (0, 0))) := ⟨z_89⟩; have n2_ : Aside0 (wv.heap[lb]? = some (.cells #[.int .i64 p.x.f0, .int .i64 p.x.f1, .string p.x.f2, .int .i64 p.x.f3, .slice p.A p.x.f4.length p.c, .int .i64 p.d] 137 (0, 0))) := ⟨by rw [← hq]; refine blk_far ?_ hlr _; refine blk_far ?_ hlr _; refine blk_far ?_ hlr _; refine blk_far ?_ hlr _; refine blk_far ?_ hlr _; refine blk_far ?_ hlr _; exact Bl.out⟩; have n3_ : Aside0 (wv.heap[tb]? = some (.cells #[.int .i64 t.f0, .string t.f1, .int .i64 t.f2, .int .i64 t.f3] 58 (0, 0))) := ⟨z_74⟩; have nk_ : Aside0 (KeepBut w wv g none) := ⟨z_77⟩; clear gz; clear rz; clear lz; clear tz; clear hq HK Bg Br Bl Bt; have Bg := n0_; have Br := n1_; have Bl := n2_; have Bt := n3_; have HK := nk_; clear nk_ n0_ n1_ n2_ n3_; have gz := five_ Bg.out; have rz := sixc Br.out; have lz := sixc Bl.out; have tz := four Bt.out; refine bodyPost_ret (v := p.val) (by simp [results, Try.results104, go_sem, rz, PV.val]) rfl ?_; obtain ⟨op_, h1, h2⟩ := Ep.out; exact z_90
        · rw [if_neg hst] at h
          have z1 := decide_eq_false (show ¬ rk1 < least by omega)
          have z2 : (rk1 == 0) = false := beq_eq_false_iff_ne.2 (by omega); have hwr : wrap64 (rk1 + 1) = rk1 + 1 := by unfold wrap64; omega
          clear hst
          go_wp2_with fail
          generalize hq_ : World.setCell _ ⟨g, 1, none⟩ _ = wv; have e0_ : Aside0 (∃ op_ : Nat → Prop, PV.ok wv op_ p ∧ ∀ k, op_ k → w.heap.size ≤ k ∧ k ≠ rb ∧ k ≠ lb ∧ k ≠ tb) := ⟨z_79⟩; clear Ep; have Ep := e0_; clear e0_; have hq := hq_; clear hq_; have n0_ : Aside0 (wv.heap[g]? = some (.cells #[.slice A T.length c, .int .i64 (a + 1), .int .i64 n, .int .i64 q, .int .i64 b] 79 (0, 0))) := ⟨z_45⟩; have n1_ : Aside0 (wv.heap[rb]? = some (.cells #[.int .i64 0, .int .i64 0, .string (⟨#[]⟩ : ByteArray), .int .i64 0, .slice none 0 0, .int .i64 0] 137 (0, 0))) := ⟨z_47⟩; have n2_ : Aside0 (wv.heap[lb]? = some (.cells #[.int .i64 p.x.f0, .int .i64 p.x.f1, .string p.x.f2, .int .i64 p.x.f3, .slice p.A p.x.f4.length p.c, .int .i64 p.d] 137 (0, 0))) := ⟨by rw [← hq]; refine blk_far ?_ hlg _; exact Bl.out⟩; have n3_ : Aside0 (wv.heap[tb]? = some (.cells #[.int .i64 t.f0, .string t.f1, .int .i64 t.f2, .int .i64 t.f3] 58 (0, 0))) := ⟨z_46⟩; have nk_ : Aside0 (KeepBut w wv g none) := ⟨z_48⟩; clear gz; clear rz; clear lz; clear tz; clear hq HK Bg Br Bl Bt; have Bg := n0_; have Br := n1_; have Bl := n2_; have Bt := n3_; have HK := nk_; clear nk_ n0_ n1_ n2_ n3_; have gz := five_ Bg.out; have rz := sixc Br.out; have lz := sixc Bl.out; have tz := four Bt.out; have HSZ := A_0 (show w.heap.size ≤ wv.heap.size ∧ rb < wv.heap.size ∧ lb < wv.heap.size ∧ tb < wv.heap.size from ⟨keep_size HK.out, blk_lt Br.out, blk_lt Bl.out, blk_lt Bt.out⟩); rcases hab : ab (rk1 + 1) ⟨a + 1, n, q, b⟩ with _ | r1
          · rw [hab] at h; cases h
          rw [hab] at h; have HAB := A_0 hab; clear hab
          (with_reducible refine (AC.out.use (rk1 + 1) ⟨a + 1, n, q, b⟩ r1 g A c _ HAB.out (⟨Bg.out, Kd.F_keep HT0.out HK.out (fun _ h => h)⟩ : RD _ g A c T _)).mono ?_)
          intro e wn hp; rcases r1 with ⟨er, at_⟩ | ⟨p2, s2⟩
          · obtain ⟨rfl, hk⟩ := PPartO.err hp
            have h' := Option.some.inj h; subst h'; exact z_49
          obtain ⟨y, rfl, hpy, hpo, hx, hk⟩ := PPartO.ok hp; clear hp HAB; subst hpy; dsimp only at h; obtain ⟨a2, n2, q2, b2⟩ := s2; dsimp only at h; unfold PV.val; have e0_ : Aside0 (∃ op_ : Nat → Prop, PV.ok wn op_ p ∧ ∀ k, op_ k → w.heap.size ≤ k ∧ k ≠ rb ∧ k ≠ lb ∧ k ≠ tb) := ⟨z_58⟩; clear Ep; have Ep := e0_; clear e0_; have n0_ : Aside0 (wn.heap[g]? = some (.cells #[.slice A T.length c, .int .i64 a2, .int .i64 n2, .int .i64 q2, .int .i64 b2] 79 (0, 0))) := ⟨hx.bk⟩; have n1_ := A_0 (KeepBut.blk hk Br.out hrg (by simp)); have n2_ := A_0 (KeepBut.blk hk Bl.out hlg (by simp)); have n3_ := A_0 (KeepBut.blk hk Bt.out htg (by simp)); have nk_ := A_0 (HK.out.trans hk (.inl rfl)); clear gz; clear rz; clear lz; clear tz; clear HK hk Bg Br Bl Bt hx; have Bg := n0_; have Br := n1_; have Bl := n2_; have Bt := n3_; have HK := nk_; clear nk_ n0_ n1_ n2_ n3_; have gz := five_ Bg.out; have rz := sixc Br.out; have lz := sixc Bl.out; have tz := four Bt.out; have Ey : Aside0 (∃ op_ : Nat → Prop, PV.ok wn op_ y ∧ ∀ k, op_ k → w.heap.size ≤ k ∧ k ≠ rb ∧ k ≠ lb ∧ k ≠ tb) := ⟨⟨_, hpo, fun k hk => by have := hk.1; have := HSZ.out; omega⟩⟩
          clear HSZ hpo; by_cases hg2 : (0 ≤ y.d ∧ y.d ≤ 48) ∧ 0 ≤ n2 ∧ n2 ≤ 600
          rotate_left
          · rw [if_neg hg2] at h; cases h
          rw [if_pos hg2] at h; obtain ⟨⟨hy0, hy1⟩, hm0, hm1⟩ := hg2; have HL := A_0 h; clear h; go_upto_region 10 with (first | ((with_reducible refine gate_dst (N := 9) rfl ?_); (try (refine gate_guard (by rfl) ?_; dsimp only)); refine box_event ?hg (N := 9) ?hd (cs := #[.int .i64 0, .int .i64 0, .string (⟨#[]⟩ : ByteArray), .int .i64 0, .slice none 0 0, .int .i64 0]) (t := 137) ?hr ?_; (case hd => rfl); (case hg => rfl); (case hr => first | (go_simp; done) | (go_simp; rfl)); intro yb hg wy hbox hb; have e0_ : Aside0 (∃ op_ : Nat → Prop, PV.ok wy op_ p ∧ ∀ k, op_ k → w.heap.size ≤ k ∧ k ≠ rb ∧ k ≠ lb ∧ k ≠ tb ∧ k ≠ yb) := ⟨z_50⟩; clear Ep; have e1_ : Aside0 (∃ op_ : Nat → Prop, PV.ok wy op_ y ∧ ∀ k, op_ k → w.heap.size ≤ k ∧ k ≠ rb ∧ k ≠ lb ∧ k ≠ tb ∧ k ≠ yb) := ⟨z_59⟩; clear Ey; have n0_ := A_0 (HK.out.trans (KeepBut.of_below hb g none) (.inl rfl)); have n2_ := A_0 hbox; have n3_ := A_0 (show w.heap.size ≤ yb by rw [hg]; exact keep_size HK.out); have m0_ := A_0 (blk_below Bg.out hb); have k0_ := A_0 (show yb ≠ g by rw [hg]; exact z_43); have m1_ := A_0 (blk_below Br.out hb); have k1_ := A_0 (show yb ≠ rb by rw [hg]; exact z_51); have m2_ := A_0 (blk_below Bl.out hb); have k2_ := A_0 (show yb ≠ lb by rw [hg]; exact Ne.symm (Nat.ne_of_lt (blk_lt Bl.out))); have m3_ := A_0 (blk_below Bt.out hb); have k3_ := A_0 (show yb ≠ tb by rw [hg]; exact z_44); clear gz; clear Bg; clear rz; clear Br; clear lz; clear Bl; clear tz; clear Bt; clear HK hb hbox hg; have HK := n0_; have By := n2_; have Gy := n3_; clear n0_ n2_ n3_; have Bg := m0_; have hyg := k0_.out; have hgy := Ne.symm k0_.out; clear m0_ k0_; have gz := five_ Bg.out; have Br := m1_; have hyr := k1_.out; have hry := Ne.symm k1_.out; clear m1_ k1_; have rz := sixc Br.out; have Bl := m2_; have hyl := k2_.out; have hly := Ne.symm k2_.out; clear m2_ k2_; have lz := sixc Bl.out; have Bt := m3_; have hyt := k3_.out; have hty := Ne.symm k3_.out; clear m3_ k3_; have tz := four Bt.out; have yz := sixc By.out; have Ep := e0_; clear e0_; have Ey := e1_; clear e1_))
          generalize hq_ : World.setCell _ ⟨yb, 5, none⟩ _ = wx; have e0_ : Aside0 (∃ op_ : Nat → Prop, PV.ok wx op_ p ∧ ∀ k, op_ k → w.heap.size ≤ k ∧ k ≠ rb ∧ k ≠ lb ∧ k ≠ tb ∧ k ≠ yb) := ⟨z_60⟩; have e1_ : Aside0 (∃ op_ : Nat → Prop, PV.ok wx op_ y ∧ ∀ k, op_ k → w.heap.size ≤ k ∧ k ≠ rb ∧ k ≠ lb ∧ k ≠ tb ∧ k ≠ yb) := ⟨z_61⟩; clear Ep; clear Ey; have Ep := e0_; clear e0_; have Ey := e1_; clear e1_; have hq := hq_; clear hq_; have n0_ : Aside0 (wx.heap[g]? = some (.cells #[.slice A T.length c, .int .i64 a2, .int .i64 n2, .int .i64 q2, .int .i64 b2] 79 (0, 0))) := ⟨z_62⟩; have n1_ : Aside0 (wx.heap[rb]? = some (.cells #[.int .i64 0, .int .i64 0, .string (⟨#[]⟩ : ByteArray), .int .i64 0, .slice none 0 0, .int .i64 0] 137 (0, 0))) := ⟨z_64⟩; have n2_ : Aside0 (wx.heap[lb]? = some (.cells #[.int .i64 p.x.f0, .int .i64 p.x.f1, .string p.x.f2, .int .i64 p.x.f3, .slice p.A p.x.f4.length p.c, .int .i64 p.d] 137 (0, 0))) := ⟨by rw [← hq]; refine blk_far ?_ hly _; refine blk_far ?_ hly _; refine blk_far ?_ hly _; refine blk_far ?_ hly _; refine blk_far ?_ hly _; refine blk_far ?_ hly _; exact Bl.out⟩; have n3_ : Aside0 (wx.heap[tb]? = some (.cells #[.int .i64 t.f0, .string t.f1, .int .i64 t.f2, .int .i64 t.f3] 58 (0, 0))) := ⟨z_63⟩; have n4_ : Aside0 (wx.heap[yb]? = some (.cells #[.int .i64 y.x.f0, .int .i64 y.x.f1, .string y.x.f2, .int .i64 y.x.f3, .slice y.A y.x.f4.length y.c, .int .i64 y.d] 137 (0, 0))) := ⟨z_65⟩; have nk_ : Aside0 (KeepBut w wx g none) := ⟨z_66⟩; clear gz; clear rz; clear lz; clear tz; clear yz; clear hq HK Bg Br Bl Bt By; have Bg := n0_; have Br := n1_; have Bl := n2_; have Bt := n3_; have By := n4_; have HK := nk_; clear nk_ n0_ n1_ n2_ n3_ n4_; have gz := five_ Bg.out; have rz := sixc Br.out; have lz := sixc Bl.out; have tz := four Bt.out; have yz := sixc By.out
          go_wp2_with fail
          generalize hqa : World.alloc wx _ = wz; have hb : Below wx.heap.size wx wz := z_68; have HPR := A_0 (show PRow wz (some ⟨wx.heap.size, 0, none⟩) [p, y] from PRow.two (z_69)); clear hqa; have e0_ : Aside0 (∃ op_ : Nat → Prop, PV.ok wz op_ p ∧ ∀ k, op_ k → w.heap.size ≤ k ∧ k ≠ rb ∧ k ≠ lb ∧ k ≠ tb ∧ k ≠ yb) := ⟨z_70⟩; have e1_ : Aside0 (∃ op_ : Nat → Prop, PV.ok wz op_ y ∧ ∀ k, op_ k → w.heap.size ≤ k ∧ k ≠ rb ∧ k ≠ lb ∧ k ≠ tb ∧ k ≠ yb) := ⟨by obtain ⟨op_, h1, h2⟩ := Ey.out; exact z_71⟩; clear Ep; have Ep := e0_; clear e0_; clear Ey; have Ey := e1_; clear e1_; have n0_ := A_0 (blk_below Bg.out hb); have n1_ := A_0 (blk_below Br.out hb); have n2_ := A_0 (blk_below Bl.out hb); have n3_ := A_0 (blk_below Bt.out hb); have n4_ := A_0 (blk_below By.out hb); have nk_ := A_0 (HK.out.trans (KeepBut.of_below hb g none) (.inl rfl)); clear gz; clear rz; clear lz; clear tz; clear yz; clear HK hb Bg Br Bl Bt By; have Bg := n0_; have Br := n1_; have Bl := n2_; have Bt := n3_; have By := n4_; have HK := nk_; clear nk_ n0_ n1_ n2_ n3_ n4_; have gz := five_ Bg.out; have rz := sixc Br.out; have lz := sixc Bl.out; have tz := four Bt.out; have yz := sixc By.out; have HSZ := A_0 (show w.heap.size ≤ wz.heap.size ∧ rb < wz.heap.size ∧ lb < wz.heap.size ∧ tb < wz.heap.size ∧ yb < wz.heap.size from ⟨keep_size HK.out, blk_lt Br.out, blk_lt Bl.out, blk_lt Bt.out, blk_lt By.out⟩); obtain ⟨o1, hp1, hc1⟩ := Ep.out; obtain ⟨o2, hp2, hc2⟩ := Ey.out; have HCC := A_0 (show (∀ k, o1 k → w.heap.size ≤ k ∧ k ≠ rb ∧ k ≠ lb ∧ k ≠ tb ∧ k ≠ yb) ∧ (∀ k, o2 k → w.heap.size ≤ k ∧ k ≠ rb ∧ k ≠ lb ∧ k ≠ tb ∧ k ≠ yb) from ⟨hc1, hc2⟩); have hN := node_L (fun k => o1 k ∨ o2 k) g A c T a2 n2 q2 b2 wz t.f0 t.f1 t.f2 t.f3 5 0 ⟨#[]⟩ rk2 (some ⟨wx.heap.size, 0, none⟩) 2 2 [p, y] (⟨Bg.out, Kd.F_keep HT0.out HK.out (fun _ h => h)⟩ : RD _ g A c T _) hm0 hm1 rfl (by omega) HPR.out
            (fun k hk => by have := HLT.out; rcases hk with z | z; (have := hc1 k z; omega); (have := hc2 k z; omega))
            (fun z hz => by
              rcases List.mem_cons.1 hz with e | e
              · subst e; exact ⟨hp1.mono (fun _ h => .inl h), hd0, hd1⟩
              · rcases List.mem_cons.1 e with e | e
                · subst e; exact ⟨hp2.mono (fun _ h => .inr h), hy0, hy1⟩
                · cases e)
          rw [nodeQ_eq, show [p, y].map PV.pr = [(p.x, p.d), (y.x, y.d)] from rfl] at hN; clear Ep Ey hp1 hp2 hc1 hc2 HPR; have h := HL.out; clear HL; rcases hres : nodeQ ⟨a2, n2, q2, b2⟩ t.f3 5 0 ⟨#[]⟩ rk2 [(p.x, p.d), (y.x, y.d)] with ⟨er, at_⟩ | ⟨p3, s3⟩
          · rw [hres] at hN h
            have HN := A_0 hN; clear hN
            (with_reducible refine HN.out.mono ?_)
            intro e wn hp; obtain ⟨rfl, hk⟩ := hp.err; have h' := Option.some.inj h; subst h'; exact z_49
          rw [hres] at hN h; have HN := A_0 hN; have HL := A_0 h; clear hN h hres
          (with_reducible refine HN.out.mono ?_)
          intro e wn hp; obtain ⟨z, rfl, hpz, hpo, hx, hk⟩ := hp.ok; clear hp HN; subst hpz; obtain ⟨a3, n3, q3, b3⟩ := s3; unfold PV.val; have n0_ : Aside0 (wn.heap[g]? = some (.cells #[.slice A T.length c, .int .i64 a3, .int .i64 n3, .int .i64 q3, .int .i64 b3] 79 (0, 0))) := ⟨hx.bk⟩; have n1_ := A_0 (KeepBut.blk hk Br.out hrg (by simp)); have n2_ := A_0 (KeepBut.blk hk Bl.out hlg (by simp)); have n3_ := A_0 (KeepBut.blk hk Bt.out htg (by simp)); have n4_ := A_0 (KeepBut.blk hk By.out hyg (by simp)); have nk_ := A_0 (HK.out.trans hk (.inl rfl)); clear gz; clear rz; clear lz; clear tz; clear yz; clear HK hk Bg Br Bl Bt By hx; have Bg := n0_; have Br := n1_; have Bl := n2_; have Bt := n3_; have By := n4_; have HK := nk_; clear nk_ n0_ n1_ n2_ n3_ n4_; have gz := five_ Bg.out; have rz := sixc Br.out; have lz := sixc Bl.out; have tz := four Bt.out; have yz := sixc By.out; have Ez : Aside0 (∃ op_ : Nat → Prop, PV.ok wn op_ z ∧ ∀ k, op_ k → w.heap.size ≤ k ∧ k ≠ rb ∧ k ≠ lb ∧ k ≠ tb ∧ k ≠ yb) := ⟨⟨_, hpo, fun k hk => by
            have := HSZ.out; rcases hk with (hk | hk) | hk
            · exact HCC.out.1 k hk
            · exact HCC.out.2 k hk
            · have := hk.1; omega⟩⟩
          clear HSZ hpo HCC
          go_wp2_with fail
          generalize hq_ : World.setCell _ ⟨lb, 5, none⟩ _ = wo; have e0_ : Aside0 (∃ op_ : Nat → Prop, PV.ok wo op_ z ∧ ∀ k, op_ k → w.heap.size ≤ k ∧ k ≠ rb ∧ k ≠ lb ∧ k ≠ tb ∧ k ≠ yb) := ⟨by obtain ⟨op_, h1, h2⟩ := Ez.out; exact z_147⟩; clear Ez; have Ez := e0_; clear e0_; have hq := hq_; clear hq_; have n0_ : Aside0 (wo.heap[g]? = some (.cells #[.slice A T.length c, .int .i64 a3, .int .i64 n3, .int .i64 q3, .int .i64 b3] 79 (0, 0))) := ⟨z_148⟩; have n1_ : Aside0 (wo.heap[rb]? = some (.cells #[.int .i64 0, .int .i64 0, .string (⟨#[]⟩ : ByteArray), .int .i64 0, .slice none 0 0, .int .i64 0] 137 (0, 0))) := ⟨z_149⟩; have n2_ : Aside0 (wo.heap[lb]? = some (.cells #[.int .i64 z.x.f0, .int .i64 z.x.f1, .string z.x.f2, .int .i64 z.x.f3, .slice z.A z.x.f4.length z.c, .int .i64 z.d] 137 (0, 0))) := ⟨by rw [← hq]; refine blk_put (cs := #[.int .i64 z.x.f0, .int .i64 z.x.f1, .string z.x.f2, .int .i64 z.x.f3, .slice z.A z.x.f4.length z.c, .int .i64 p.d]) ?_ 5 _ rfl; refine blk_put (cs := #[.int .i64 z.x.f0, .int .i64 z.x.f1, .string z.x.f2, .int .i64 z.x.f3, .slice p.A p.x.f4.length p.c, .int .i64 p.d]) ?_ 4 _ rfl; refine blk_put (cs := #[.int .i64 z.x.f0, .int .i64 z.x.f1, .string z.x.f2, .int .i64 p.x.f3, .slice p.A p.x.f4.length p.c, .int .i64 p.d]) ?_ 3 _ rfl; refine blk_put (cs := #[.int .i64 z.x.f0, .int .i64 z.x.f1, .string p.x.f2, .int .i64 p.x.f3, .slice p.A p.x.f4.length p.c, .int .i64 p.d]) ?_ 2 _ rfl; refine blk_put (cs := #[.int .i64 z.x.f0, .int .i64 p.x.f1, .string p.x.f2, .int .i64 p.x.f3, .slice p.A p.x.f4.length p.c, .int .i64 p.d]) ?_ 1 _ rfl; refine blk_put (cs := #[.int .i64 p.x.f0, .int .i64 p.x.f1, .string p.x.f2, .int .i64 p.x.f3, .slice p.A p.x.f4.length p.c, .int .i64 p.d]) ?_ 0 _ rfl; exact Bl.out⟩; have n3_ : Aside0 (wo.heap[tb]? = some (.cells #[.int .i64 t.f0, .string t.f1, .int .i64 t.f2, .int .i64 t.f3] 58 (0, 0))) := ⟨by rw [← hq]; refine blk_far ?_ htl _; refine blk_far ?_ htl _; refine blk_far ?_ htl _; refine blk_far ?_ htl _; refine blk_far ?_ htl _; refine blk_far ?_ htl _; exact Bt.out⟩; have n4_ : Aside0 (wo.heap[yb]? = some (.cells #[.int .i64 y.x.f0, .int .i64 y.x.f1, .string y.x.f2, .int .i64 y.x.f3, .slice y.A y.x.f4.length y.c, .int .i64 y.d] 137 (0, 0))) := ⟨by rw [← hq]; refine blk_far ?_ hyl _; refine blk_far ?_ hyl _; refine blk_far ?_ hyl _; refine blk_far ?_ hyl _; refine blk_far ?_ hyl _; refine blk_far ?_ hyl _; exact By.out⟩; have nk_ : Aside0 (KeepBut w wo g none) := ⟨z_150⟩; clear gz; clear rz; clear lz; clear tz; clear yz; clear hq HK Bg Br Bl Bt By; have Bg := n0_; have Br := n1_; have Bl := n2_; have Bt := n3_; have By := n4_; have HK := nk_; clear nk_ n0_ n1_ n2_ n3_ n4_; have gz := five_ Bg.out; have rz := sixc Br.out; have lz := sixc Bl.out; have tz := four Bt.out; have yz := sixc By.out
          go_roundg k1
          case measure => have := HK1.out; omega
          case rel => exact ⟨z, a3, n3, q3, b3, HL, ⟨by have := HK1.out; omega⟩, Bg, Br, Bl, ⟨by obtain ⟨op_, h1, h2⟩ := Ez.out; exact z_125⟩, HK⟩
end Go.Proofs.Ytobkdmmnbnpemaa.K
