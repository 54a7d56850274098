/- The parser's one and above, walked by hand. -/
import Derived.Test.YtobkdmmnbnpemaaXOP3
import Derived.Test.YtobkdmmnbnpemaaXOK3
namespace Go.Proofs.Ytobkdmmnbnpemaa.K
open Go.RowKit Go.Proofs.YtobkdmmnbnpemaaW.PrintWords Go.Proofs.YtobkdmmnbnpemaaW.PrintLast Go.Proofs.YtobkdmmnbnpemaaW.PrintMore
attribute [local go_sem] max2_int min2_int max_two min_two max_three min_three max_four min_four
set_option linter.unusedVariables false
set_option linter.unusedSimpArgs false
abbrev Res := Except (Int × Int) ((S38 × Int) × PSt)
def deepQ : List (S38 × Int) → Int → Int
  | [], m => m
  | p :: ps, m => deepQ ps (max m (p.2 + 1))
def nodeQ (s : PSt) (t3 : Int) (k nm : Int) (st : ByteArray) (op : Int) (ps : List (S38 × Int)) : Res :=
  if 48 < deepQ ps 1 then .error (41, t3) else if 600 < s.nodes + 1 then .error (42, t3) else .ok ((⟨k, nm, st, op, ps.map (·.1)⟩, deepQ ps 1), ⟨s.at_, s.nodes + 1, s.op, s.bl⟩)
def PV.pr (p : PV) : S38 × Int := (p.x, p.d)
theorem deepQ_eq : ∀ (ps : List PV) (m : Int), deepP ps m = deepQ (ps.map PV.pr) m
  | [], m => rfl
  | p :: ps, m => deepQ_eq ps _
theorem nodeQ_eq (a n q b t3 k nm : Int) (st : ByteArray) (op : Int) (ps : List PV) : nodeP a n q b t3 k nm st op ps = nodeQ ⟨a, n, q, b⟩ t3 k nm st op (ps.map PV.pr) := by
  unfold nodeP nodeQ
  rw [deepQ_eq, List.map_map]
  rfl
def goodS (T : List S58) (s : PSt) : Prop := (0 ≤ s.at_ ∧ s.at_ < T.length) ∧ 0 ≤ s.nodes ∧ s.nodes ≤ 600
instance (T : List S58) (s : PSt) : Decidable (goodS T s) := by unfold goodS; infer_instance
def oneF (T : List S58) (s : PSt) : Option Res :=
  if goodS T s ∧ (rd_T58 T s.at_).f0 = 1 then some (nodeQ ⟨s.at_ + 1, s.nodes, s.op, s.bl⟩ (rd_T58 T s.at_).f3 1 (rd_T58 T s.at_).f2 ⟨#[]⟩ 0 []) else none
def OneC (T : List S58) (f : PSt → Option Res) : Prop := ∀ (s : PSt) (r : Res) (g : Nat) (A : Option Addr) (c : Nat) (w : World), f s = some r → RD w g A c T s → Calls Try.prog 126 #[.pointer (some ⟨g, 0, none⟩)] w (PPart w g A c T r)
set_option maxHeartbeats 8000000 in
set_option maxRecDepth 100000 in
theorem one_num (T : List S58) : OneC T (oneF T) := by
  intro s r g A c w h hrd
  unfold oneF at h
  by_cases hq : goodS T s ∧ (rd_T58 T s.at_).f0 = 1
  rotate_left
  · rw [if_neg hq] at h; cases h
  rw [if_pos hq] at h
  obtain ⟨⟨⟨h0, h1⟩, hn0, hn1⟩, hk⟩ := hq
  obtain ⟨a, n, q, b⟩ := s
  dsimp only at h h0 h1 hn0 hn1 hk
  have hr := Option.some.inj h
  subst hr
  have HT0 := Aside0.mk hrd.tk
  have hmx := hrd.max
  have Bg : Aside0 (w.heap[g]? = some (.cells #[.slice A T.length c, .int .i64 a, .int .i64 n, .int .i64 q, .int .i64 b] 79 (0, 0))) := ⟨hrd.bk⟩
  have HK := Aside0.mk (KeepBut.refl w g none)
  have HLT := Aside0.mk hrd.lt
  have hwa : wrap64 (a + 1) = a + 1 := by unfold wrap64; omega
  clear h hrd
  generalize ht : rd_T58 T a = t at *
  have HTK := Aside0.mk ht
  clear ht
  have d1 : (t.f0 == 1) = true := beq_iff_eq.2 hk
  clear hk
  obtain ⟨⟨gz0, gz1, gz2, gz3, gz4⟩, gf0, gf1, gf2, gf3, gf4⟩ := five_ Bg.out
  go_enter Try.func126, Try.ntmps126
  go_wp2_with (first | ((with_reducible refine gate_dst (N := 2) rfl ?_); (try (refine gate_guard (by rfl) ?_; dsimp only)); refine box_event ?hg (N := 2) ?hd (cs := #[.int .i64 0, .int .i64 0, .string (⟨#[]⟩ : ByteArray), .int .i64 0, .slice none 0 0, .int .i64 0]) (t := 137) ?hr ?_; (case hd => rfl); (case hg => rfl); (case hr => first | (go_simp; done) | (go_simp; rfl)); intro rb hg wr hbox hb; have n0_ := Aside0.mk (HK.out.trans (KeepBut.of_below hb g none) (.inl rfl)); have n2_ := Aside0.mk hbox; have n3_ := Aside0.mk (show w.heap.size ≤ rb by rw [hg]; exact keep_size HK.out); have m0_ := Aside0.mk (blk_below Bg.out hb); have k0_ := Aside0.mk (show rb ≠ g by rw [hg]; exact Ne.symm (Nat.ne_of_lt (blk_lt Bg.out))); clear gz0 gz1 gz2 gz3 gz4 gf0 gf1 gf2 gf3 gf4; clear Bg; clear HK hb hbox hg; have HK := n0_; have Br := n2_; have Gr := n3_; clear n0_ n2_ n3_; have Bg := m0_; have hrg := k0_.out; have hgr := Ne.symm k0_.out; clear m0_ k0_; obtain ⟨⟨gz0, gz1, gz2, gz3, gz4⟩, gf0, gf1, gf2, gf3, gf4⟩ := five_ Bg.out; obtain ⟨⟨rz0, rz1, rz2, rz3, rz4, rz5⟩, rf0, rf1, rf2, rf3, rf4, rf5⟩ := sixc Br.out))
  (with_reducible refine (now_L g A c T ⟨a, n, q, b⟩ _ (⟨Bg.out, Kd.F_keep HT0.out HK.out (fun _ h => h)⟩ : RD _ g A c T _) h0 h1).mono ?_)
  rintro e wn ⟨rfl, hb⟩
  rw [HTK.out]
  unfold tokV
  have n0_ := Aside0.mk (blk_below Bg.out hb)
  have n1_ := Aside0.mk (blk_below Br.out hb)
  have nk_ := Aside0.mk (HK.out.trans (KeepBut.of_below hb g none) (.inl rfl))
  clear gz0 gz1 gz2 gz3 gz4 gf0 gf1 gf2 gf3 gf4
  clear rz0 rz1 rz2 rz3 rz4 rz5 rf0 rf1 rf2 rf3 rf4 rf5
  clear HK hb Bg Br
  have Bg := n0_
  have Br := n1_
  have HK := nk_
  clear nk_ n0_ n1_
  obtain ⟨⟨gz0, gz1, gz2, gz3, gz4⟩, gf0, gf1, gf2, gf3, gf4⟩ := five_ Bg.out
  obtain ⟨⟨rz0, rz1, rz2, rz3, rz4, rz5⟩, rf0, rf1, rf2, rf3, rf4, rf5⟩ := sixc Br.out
  go_upto_block 2 with (first | ((with_reducible refine gate_dst (N := 3) rfl ?_); (try (refine gate_guard (by rfl) ?_; dsimp only)); refine box_event ?hg (N := 3) ?hd (cs := #[.int .i64 0, .string (⟨#[]⟩ : ByteArray), .int .i64 0, .int .i64 0]) (t := 58) ?hr ?_; (case hd => rfl); (case hg => rfl); (case hr => first | (go_simp; done) | (go_simp; rfl)); intro tb hg wt hbox hb; have n0_ := Aside0.mk (HK.out.trans (KeepBut.of_below hb g none) (.inl rfl)); have n2_ := Aside0.mk hbox; have n3_ := Aside0.mk (show w.heap.size ≤ tb by rw [hg]; exact keep_size HK.out); have m0_ := Aside0.mk (blk_below Bg.out hb); have k0_ := Aside0.mk (show tb ≠ g by rw [hg]; exact Ne.symm (Nat.ne_of_lt (blk_lt Bg.out))); have m1_ := Aside0.mk (blk_below Br.out hb); have k1_ := Aside0.mk (show tb ≠ rb by rw [hg]; exact Ne.symm (Nat.ne_of_lt (blk_lt Br.out))); clear gz0 gz1 gz2 gz3 gz4 gf0 gf1 gf2 gf3 gf4; clear Bg; clear rz0 rz1 rz2 rz3 rz4 rz5 rf0 rf1 rf2 rf3 rf4 rf5; clear Br; clear HK hb hbox hg; have HK := n0_; have Bt := n2_; have Gt := n3_; clear n0_ n2_ n3_; have Bg := m0_; have htg := k0_.out; have hgt := Ne.symm k0_.out; clear m0_ k0_; obtain ⟨⟨gz0, gz1, gz2, gz3, gz4⟩, gf0, gf1, gf2, gf3, gf4⟩ := five_ Bg.out; have Br := m1_; have htr := k1_.out; have hrt := Ne.symm k1_.out; clear m1_ k1_; obtain ⟨⟨rz0, rz1, rz2, rz3, rz4, rz5⟩, rf0, rf1, rf2, rf3, rf4, rf5⟩ := sixc Br.out; obtain ⟨⟨tz0, tz1, tz2, tz3⟩, tf0, tf1, tf2, tf3⟩ := four Bt.out))
  generalize hq : World.setCell _ ⟨tb, 3, none⟩ _ = wt
  have n0_ : Aside0 (wt.heap[g]? = some (.cells #[.slice A T.length c, .int .i64 a, .int .i64 n, .int .i64 q, .int .i64 b] 79 (0, 0))) := ⟨by rw [← hq]; refine blk_far ?_ hgt _; refine blk_far ?_ hgt _; refine blk_far ?_ hgt _; refine blk_far ?_ hgt _; exact Bg.out⟩
  have n1_ : Aside0 (wt.heap[rb]? = some (.cells #[.int .i64 0, .int .i64 0, .string (⟨#[]⟩ : ByteArray), .int .i64 0, .slice none 0 0, .int .i64 0] 137 (0, 0))) := ⟨by rw [← hq]; refine blk_far ?_ hrt _; refine blk_far ?_ hrt _; refine blk_far ?_ hrt _; refine blk_far ?_ hrt _; exact Br.out⟩
  have n2_ : Aside0 (wt.heap[tb]? = some (.cells #[.int .i64 t.f0, .string t.f1, .int .i64 t.f2, .int .i64 t.f3] 58 (0, 0))) := ⟨by rw [← hq]; refine blk_put (cs := #[.int .i64 t.f0, .string t.f1, .int .i64 t.f2, .int .i64 0]) ?_ 3 _ rfl; refine blk_put (cs := #[.int .i64 t.f0, .string t.f1, .int .i64 0, .int .i64 0]) ?_ 2 _ rfl; refine blk_put (cs := #[.int .i64 t.f0, .string (⟨#[]⟩ : ByteArray), .int .i64 0, .int .i64 0]) ?_ 1 _ rfl; refine blk_put (cs := #[.int .i64 0, .string (⟨#[]⟩ : ByteArray), .int .i64 0, .int .i64 0]) ?_ 0 _ rfl; exact Bt.out⟩
  have nk_ : Aside0 (KeepBut w wt g none) := ⟨by rw [← hq]; refine keep_far ?_ Gt.out _; refine keep_far ?_ Gt.out _; refine keep_far ?_ Gt.out _; refine keep_far ?_ Gt.out _; exact HK.out⟩
  clear gz0 gz1 gz2 gz3 gz4 gf0 gf1 gf2 gf3 gf4
  clear rz0 rz1 rz2 rz3 rz4 rz5 rf0 rf1 rf2 rf3 rf4 rf5
  clear tz0 tz1 tz2 tz3 tf0 tf1 tf2 tf3
  clear hq HK Bg Br Bt
  have Bg := n0_
  have Br := n1_
  have Bt := n2_
  have HK := nk_
  clear nk_ n0_ n1_ n2_
  obtain ⟨⟨gz0, gz1, gz2, gz3, gz4⟩, gf0, gf1, gf2, gf3, gf4⟩ := five_ Bg.out
  obtain ⟨⟨rz0, rz1, rz2, rz3, rz4, rz5⟩, rf0, rf1, rf2, rf3, rf4, rf5⟩ := sixc Br.out
  obtain ⟨⟨tz0, tz1, tz2, tz3⟩, tf0, tf1, tf2, tf3⟩ := four Bt.out
  generalize hq : World.setCell _ ⟨g, 1, none⟩ _ = wu
  have n0_ : Aside0 (wu.heap[g]? = some (.cells #[.slice A T.length c, .int .i64 (a + 1), .int .i64 n, .int .i64 q, .int .i64 b] 79 (0, 0))) := ⟨by rw [← hq]; refine blk_put (cs := #[.slice A T.length c, .int .i64 a, .int .i64 n, .int .i64 q, .int .i64 b]) ?_ 1 _ rfl; exact Bg.out⟩
  have n1_ : Aside0 (wu.heap[rb]? = some (.cells #[.int .i64 0, .int .i64 0, .string (⟨#[]⟩ : ByteArray), .int .i64 0, .slice none 0 0, .int .i64 0] 137 (0, 0))) := ⟨by rw [← hq]; refine blk_far ?_ hrg _; exact Br.out⟩
  have n2_ : Aside0 (wu.heap[tb]? = some (.cells #[.int .i64 t.f0, .string t.f1, .int .i64 t.f2, .int .i64 t.f3] 58 (0, 0))) := ⟨by rw [← hq]; refine blk_far ?_ htg _; exact Bt.out⟩
  have nk_ : Aside0 (KeepBut w wu g none) := ⟨by rw [← hq]; refine KeepBut.set_ ?_ _ _; exact HK.out⟩
  clear gz0 gz1 gz2 gz3 gz4 gf0 gf1 gf2 gf3 gf4
  clear rz0 rz1 rz2 rz3 rz4 rz5 rf0 rf1 rf2 rf3 rf4 rf5
  clear tz0 tz1 tz2 tz3 tf0 tf1 tf2 tf3
  clear hq HK Bg Br Bt
  have Bg := n0_
  have Br := n1_
  have Bt := n2_
  have HK := nk_
  clear nk_ n0_ n1_ n2_
  obtain ⟨⟨gz0, gz1, gz2, gz3, gz4⟩, gf0, gf1, gf2, gf3, gf4⟩ := five_ Bg.out
  obtain ⟨⟨rz0, rz1, rz2, rz3, rz4, rz5⟩, rf0, rf1, rf2, rf3, rf4, rf5⟩ := sixc Br.out
  obtain ⟨⟨tz0, tz1, tz2, tz3⟩, tf0, tf1, tf2, tf3⟩ := four Bt.out
  have HRL := Aside0.mk (show rb < wu.heap.size ∧ w.heap.size ≤ wu.heap.size from ⟨blk_lt Br.out, keep_size HK.out⟩)
  have hok0 : ∀ p ∈ ([] : List PV), p.ok wu (fun _ => False) ∧ 0 ≤ p.d ∧ p.d ≤ 48 := fun p hp => by cases hp
  have hN := node_L (fun _ => False) g A c T (a + 1) n q b wu t.f0 t.f1 t.f2 t.f3 1 t.f2 ⟨#[]⟩ 0 none 0 0 [] (⟨Bg.out, Kd.F_keep HT0.out HK.out (fun _ h => h)⟩ : RD _ g A c T _) hn0 hn1 rfl (by omega) (fun j p _ h => by simp at h) (fun _ h => h.elim) hok0
  rw [nodeQ_eq] at hN
  rcases hres : nodeQ ⟨a + 1, n, q, b⟩ t.f3 1 t.f2 ⟨#[]⟩ 0 [] with ⟨er, at_⟩ | ⟨x, s'⟩
  · rw [show ([] : List PV).map PV.pr = [] from rfl, hres] at hN
    have HN := Aside0.mk hN
    clear hN hok0
    (with_reducible refine HN.out.mono ?_)
    intro e wn hp
    obtain ⟨rfl, hk⟩ := hp.err
    refine ⟨rfl, ?_⟩
    show PPartO _ _ _ _ _ _ _ _ _
    (try rw [hres])
    exact ⟨HK.out.trans hk (.inl rfl), rfl⟩
  · rw [show ([] : List PV).map PV.pr = [] from rfl, hres] at hN
    have HN := Aside0.mk hN
    clear hN hok0
    (with_reducible refine HN.out.mono ?_)
    intro e wn hp
    obtain ⟨p, rfl, hpx, hpo, hx, hk⟩ := hp.ok
    obtain ⟨sa, sn, sq, sb_⟩ := s'
    clear hp
    have HS := Aside0.mk (keep_size hk)
    unfold PV.val
    have n0_ : Aside0 (wn.heap[g]? = some (.cells #[.slice A T.length c, .int .i64 sa, .int .i64 sn, .int .i64 sq, .int .i64 sb_] 79 (0, 0))) := ⟨hx.bk⟩
    have n1_ := Aside0.mk (KeepBut.blk hk Br.out hrg (by simp))
    have n2_ := Aside0.mk (KeepBut.blk hk Bt.out htg (by simp))
    have nk_ := Aside0.mk (HK.out.trans hk (.inl rfl))
    clear gz0 gz1 gz2 gz3 gz4 gf0 gf1 gf2 gf3 gf4
    clear rz0 rz1 rz2 rz3 rz4 rz5 rf0 rf1 rf2 rf3 rf4 rf5
    clear tz0 tz1 tz2 tz3 tf0 tf1 tf2 tf3
    clear HK hk Bg Br Bt hx
    have Bg := n0_
    have Br := n1_
    have Bt := n2_
    have HK := nk_
    clear nk_ n0_ n1_ n2_
    obtain ⟨⟨gz0, gz1, gz2, gz3, gz4⟩, gf0, gf1, gf2, gf3, gf4⟩ := five_ Bg.out
    obtain ⟨⟨rz0, rz1, rz2, rz3, rz4, rz5⟩, rf0, rf1, rf2, rf3, rf4, rf5⟩ := sixc Br.out
    obtain ⟨⟨tz0, tz1, tz2, tz3⟩, tf0, tf1, tf2, tf3⟩ := four Bt.out
    have HPO := Aside0.mk hpo
    clear hpo
    go_wp2_with fail
    generalize hq : World.setCell _ ⟨rb, 5, none⟩ _ = wv
    have n0_ : Aside0 (wv.heap[g]? = some (.cells #[.slice A T.length c, .int .i64 sa, .int .i64 sn, .int .i64 sq, .int .i64 sb_] 79 (0, 0))) := ⟨by rw [← hq]; refine blk_far ?_ hgr _; refine blk_far ?_ hgr _; refine blk_far ?_ hgr _; refine blk_far ?_ hgr _; refine blk_far ?_ hgr _; refine blk_far ?_ hgr _; exact Bg.out⟩
    have n1_ : Aside0 (wv.heap[rb]? = some (.cells #[.int .i64 p.x.f0, .int .i64 p.x.f1, .string p.x.f2, .int .i64 p.x.f3, .slice p.A p.x.f4.length p.c, .int .i64 p.d] 137 (0, 0))) := ⟨by rw [← hq]; refine blk_put (cs := #[.int .i64 p.x.f0, .int .i64 p.x.f1, .string p.x.f2, .int .i64 p.x.f3, .slice p.A p.x.f4.length p.c, .int .i64 0]) ?_ 5 _ rfl; refine blk_put (cs := #[.int .i64 p.x.f0, .int .i64 p.x.f1, .string p.x.f2, .int .i64 p.x.f3, .slice none 0 0, .int .i64 0]) ?_ 4 _ rfl; refine blk_put (cs := #[.int .i64 p.x.f0, .int .i64 p.x.f1, .string p.x.f2, .int .i64 0, .slice none 0 0, .int .i64 0]) ?_ 3 _ rfl; refine blk_put (cs := #[.int .i64 p.x.f0, .int .i64 p.x.f1, .string (⟨#[]⟩ : ByteArray), .int .i64 0, .slice none 0 0, .int .i64 0]) ?_ 2 _ rfl; refine blk_put (cs := #[.int .i64 p.x.f0, .int .i64 0, .string (⟨#[]⟩ : ByteArray), .int .i64 0, .slice none 0 0, .int .i64 0]) ?_ 1 _ rfl; refine blk_put (cs := #[.int .i64 0, .int .i64 0, .string (⟨#[]⟩ : ByteArray), .int .i64 0, .slice none 0 0, .int .i64 0]) ?_ 0 _ rfl; exact Br.out⟩
    have n2_ : Aside0 (wv.heap[tb]? = some (.cells #[.int .i64 t.f0, .string t.f1, .int .i64 t.f2, .int .i64 t.f3] 58 (0, 0))) := ⟨by rw [← hq]; refine blk_far ?_ htr _; refine blk_far ?_ htr _; refine blk_far ?_ htr _; refine blk_far ?_ htr _; refine blk_far ?_ htr _; refine blk_far ?_ htr _; exact Bt.out⟩
    have nk_ : Aside0 (KeepBut w wv g none) := ⟨by rw [← hq]; refine keep_far ?_ Gr.out _; refine keep_far ?_ Gr.out _; refine keep_far ?_ Gr.out _; refine keep_far ?_ Gr.out _; refine keep_far ?_ Gr.out _; refine keep_far ?_ Gr.out _; exact HK.out⟩
    have HSM := Aside0.mk (show (∀ k, k ≠ rb → wv.heap[k]? = wn.heap[k]?) ∧ wv.heap.size = wn.heap.size from ⟨fun k hr => by rw [← hq]; rw [Below.heap_setCell _ _ _ k hr]; rw [Below.heap_setCell _ _ _ k hr]; rw [Below.heap_setCell _ _ _ k hr]; rw [Below.heap_setCell _ _ _ k hr]; rw [Below.heap_setCell _ _ _ k hr]; rw [Below.heap_setCell _ _ _ k hr], by rw [← hq]; simp [World.setCell]⟩)
    clear gz0 gz1 gz2 gz3 gz4 gf0 gf1 gf2 gf3 gf4
    clear rz0 rz1 rz2 rz3 rz4 rz5 rf0 rf1 rf2 rf3 rf4 rf5
    clear tz0 tz1 tz2 tz3 tf0 tf1 tf2 tf3
    clear hq HK Bg Br Bt
    have Bg := n0_
    have Br := n1_
    have Bt := n2_
    have HK := nk_
    clear nk_ n0_ n1_ n2_
    obtain ⟨⟨gz0, gz1, gz2, gz3, gz4⟩, gf0, gf1, gf2, gf3, gf4⟩ := five_ Bg.out
    obtain ⟨⟨rz0, rz1, rz2, rz3, rz4, rz5⟩, rf0, rf1, rf2, rf3, rf4, rf5⟩ := sixc Br.out
    obtain ⟨⟨tz0, tz1, tz2, tz3⟩, tf0, tf1, tf2, tf3⟩ := four Bt.out
    have hpo2 : p.ok wv (newO w wv) := by
      refine (HPO.out.step fun k hk hl => HSM.out.1 k ?_).mono fun k hk => ?_
      · rcases hk with hk | hk
        · exact hk.elim
        · have := hk.1; have := HRL.out.1; omega
      · rcases hk with hk | hk
        · exact hk.elim
        · exact ⟨by have := hk.1; have := HRL.out.2; omega, by rw [HSM.out.2]; exact hk.2⟩
    refine bodyPost_ret (v := p.val) (by simp [results, Try.results126, go_sem, rz0, rz1, rz2, rz3, rz4, rz5, PV.val]) rfl ?_
    show PPartO _ _ _ _ _ _ _ _ _
    (try rw [hres])
    exact ⟨HK.out, p, congrArg Prod.fst hpx, congrArg Prod.snd hpx, rfl, hpo2, ⟨Bg.out, Kd.F_keep HT0.out HK.out (fun _ h => h)⟩⟩
end Go.Proofs.Ytobkdmmnbnpemaa.K
