/- The parser's stmt (for a word), walked by hand. -/
import Derived.Test.YtobkdmmnbnpemaaXOP6
namespace Go.Proofs.Ytobkdmmnbnpemaa.K
open Go.RowKit Go.Proofs.YtobkdmmnbnpemaaW.PrintWords Go.Proofs.YtobkdmmnbnpemaaW.PrintLast Go.Proofs.YtobkdmmnbnpemaaW.PrintMore
attribute [local go_sem] max2_int min2_int max_two min_two max_three min_three max_four min_four
set_option linter.unusedVariables false
set_option linter.unusedSimpArgs false
theorem SV.ok.step {W W1 : World} {ok : Nat → Prop} {p : SV} (h : p.ok W ok) (hm : ∀ k, ok k → k < W.heap.size → W1.heap[k]? = W.heap[k]?) : p.ok W1 ok := ⟨⟨Kd.F_step h.1.1 hm, h.1.2⟩, ⟨Kd.F_step h.2.1.1 hm, h.2.1.2⟩, ⟨Kd.F_step h.2.2.1 hm, h.2.2.2⟩⟩
theorem SV.ok.mono {W : World} {ok ok' : Nat → Prop} {p : SV} (h : p.ok W ok) (hm : ∀ k, ok k → ok' k) : p.ok W ok' := ⟨⟨Kd.F_mono h.1.1 hm, h.1.2⟩, ⟨Kd.F_mono h.2.1.1 hm, h.2.1.2⟩, ⟨Kd.F_mono h.2.2.1 hm, h.2.2.2⟩⟩
theorem SV.ok.bound {W : World} {ok : Nat → Prop} {p : SV} (h : p.ok W ok) : p.ok W (fun k => ok k ∧ k < W.heap.size) := ⟨⟨Kd.F_bound h.1.1, h.1.2⟩, ⟨Kd.F_bound h.2.1.1, h.2.1.2⟩, ⟨Kd.F_bound h.2.2.1, h.2.2.2⟩⟩
def stmtF (T : List S58) (wd : PSt → S58 → Option SRes) (s : PSt) : Option SRes :=
  if goodS T s ∧ (rd_T58 T s.at_).f0 = 3 then
    match wd s (rd_T58 T s.at_) with
    | none => none
    | some (.error e) => some (.error e)
    | some (.ok (x, s1)) => if (x.f0 ≠ 6 ∧ x.f0 ≠ 7) ∧ goodS T s1 then
        some (if isB (rd_T58 T s1.at_) ⟨#[59]⟩ = true then (if 600 < s1.nodes + 1 then .error (42, (rd_T58 T s.at_).f3) else .ok (x, ⟨s1.at_ + 1, s1.nodes + 1, s1.op, s1.bl⟩)) else .error (40, (rd_T58 T s1.at_).f3))
      else none
  else none
def StmC (T : List S58) (f : PSt → Option SRes) : Prop := ∀ (s : PSt) (r : SRes) (g : Nat) (A : Option Addr) (c : Nat) (w : World), f s = some r → RD w g A c T s → Calls Try.prog 47 #[.pointer (some ⟨g, 0, none⟩)] w (PStm w g A c T r)
theorem StmC.use {T : List S58} {f : PSt → Option SRes} (h : StmC T f) (s : PSt) (r : SRes) (g : Nat) (A : Option Addr) (c : Nat) (w : World) (h1 : f s = some r) (h2 : RD w g A c T s) : Calls Try.prog 47 #[.pointer (some ⟨g, 0, none⟩)] w (PStm w g A c T r) := h s r g A c w h1 h2
set_option maxHeartbeats 8000000 in
set_option maxRecDepth 100000 in
theorem stmt_L (T : List S58) (wd : PSt → S58 → Option SRes) (WC0 : WorC T wd) : StmC T (stmtF T wd) := by
  intro s r g A c w h hrd
  obtain ⟨a, n, q, b⟩ := s
  unfold stmtF at h
  by_cases hg : goodS T ⟨a, n, q, b⟩ ∧ (rd_T58 T a).f0 = 3
  rotate_left
  · rw [if_neg hg] at h; cases h
  rw [if_pos hg] at h
  obtain ⟨⟨⟨h0, h1⟩, hn0, hn1⟩, hk3⟩ := hg
  dsimp only at h h0 h1 hn0 hn1
  have WC := Aside0.mk WC0
  clear WC0
  generalize ht : rd_T58 T a = t at *
  have HTK := Aside0.mk ht
  clear ht
  obtain ⟨t0, t1, t2, t3⟩ := t
  dsimp only at hk3
  subst hk3
  rcases hwd : wd ⟨a, n, q, b⟩ ⟨3, t1, t2, t3⟩ with _ | r1
  · rw [hwd] at h; cases h
  rw [hwd] at h
  have HWD := Aside0.mk hwd
  have HL := Aside0.mk h
  clear h hwd
  have HT0 := Aside0.mk hrd.tk
  have hmx := hrd.max
  have Bg : Aside0 (w.heap[g]? = some (.cells #[.slice A T.length c, .int .i64 a, .int .i64 n, .int .i64 q, .int .i64 b] 79 (0, 0))) := ⟨hrd.bk⟩
  have HK := Aside0.mk (KeepBut.refl w g none)
  have HLT := Aside0.mk hrd.lt
  clear hrd
  obtain ⟨⟨gz0, gz1, gz2, gz3, gz4⟩, gf0, gf1, gf2, gf3, gf4⟩ := five_ Bg.out
  go_enter Try.func47, Try.ntmps47
  go_wp2_with (first | ((with_reducible refine gate_dst (N := 2) rfl ?_); (try (refine gate_guard (by rfl) ?_; dsimp only)); refine box_event ?hg (N := 2) ?hd (cs := #[.int .i64 0, .string (⟨#[]⟩ : ByteArray), .int .i64 0, .slice none 0 0, .slice none 0 0, .slice none 0 0]) (t := 41) ?hr ?_; (case hd => rfl); (case hg => rfl); (case hr => first | (go_simp; done) | (go_simp; rfl)); intro rb hg wr hbox hb; have n0_ := Aside0.mk (HK.out.trans (KeepBut.of_below hb g none) (.inl rfl)); have n2_ := Aside0.mk hbox; have n3_ := Aside0.mk (show w.heap.size ≤ rb by rw [hg]; exact keep_size HK.out); have m0_ := Aside0.mk (blk_below Bg.out hb); have k0_ := Aside0.mk (show rb ≠ g by rw [hg]; exact Ne.symm (Nat.ne_of_lt (blk_lt Bg.out))); clear gz0 gz1 gz2 gz3 gz4 gf0 gf1 gf2 gf3 gf4; clear Bg; clear HK hb hbox hg; have HK := n0_; have Br := n2_; have Gr := n3_; clear n0_ n2_ n3_; have Bg := m0_; have hrg := k0_.out; have hgr := Ne.symm k0_.out; clear m0_ k0_; obtain ⟨⟨gz0, gz1, gz2, gz3, gz4⟩, gf0, gf1, gf2, gf3, gf4⟩ := five_ Bg.out; obtain ⟨⟨rz0, rz1, rz2, rz3, rz4, rz5⟩, rf0, rf1, rf2, rf3, rf4, rf5⟩ := sixc Br.out))
  (with_reducible refine (now_L g A c T ⟨a, n, q, b⟩ _ (⟨Bg.out, Kd.F_keep HT0.out HK.out (fun _ h => h)⟩ : RD _ g A c T _) h0 h1).mono ?_)
  rintro e wn ⟨rfl, hb⟩
  rw [HTK.out]
  unfold tokV
  dsimp only
  have n0_ := Aside0.mk (blk_below Bg.out hb)
  have n1_ := Aside0.mk (blk_below Br.out hb)
  have nk_ := Aside0.mk (HK.out.trans (KeepBut.of_below hb g none) (.inl rfl))
  clear gz0 gz1 gz2 gz3 gz4 gf0 gf1 gf2 gf3 gf4
  clear rz0 rz1 rz2 rz3 rz4 rz5 rf0 rf1 rf2 rf3 rf4 rf5
  clear HK hb Bg Br
  have Bg := n0_
  have Br := n1_
  have HK := nk_
  clear nk_ n0_ n1_
  obtain ⟨⟨gz0, gz1, gz2, gz3, gz4⟩, gf0, gf1, gf2, gf3, gf4⟩ := five_ Bg.out
  obtain ⟨⟨rz0, rz1, rz2, rz3, rz4, rz5⟩, rf0, rf1, rf2, rf3, rf4, rf5⟩ := sixc Br.out
  go_upto_region 2 with (first | ((with_reducible refine gate_dst (N := 3) rfl ?_); (try (refine gate_guard (by rfl) ?_; dsimp only)); refine box_event ?hg (N := 3) ?hd (cs := #[.int .i64 0, .string (⟨#[]⟩ : ByteArray), .int .i64 0, .int .i64 0]) (t := 58) ?hr ?_; (case hd => rfl); (case hg => rfl); (case hr => first | (go_simp; done) | (go_simp; rfl)); intro tb hg wt hbox hb; have n0_ := Aside0.mk (HK.out.trans (KeepBut.of_below hb g none) (.inl rfl)); have n2_ := Aside0.mk hbox; have n3_ := Aside0.mk (show w.heap.size ≤ tb by rw [hg]; exact keep_size HK.out); have m0_ := Aside0.mk (blk_below Bg.out hb); have k0_ := Aside0.mk (show tb ≠ g by rw [hg]; exact Ne.symm (Nat.ne_of_lt (blk_lt Bg.out))); have m1_ := Aside0.mk (blk_below Br.out hb); have k1_ := Aside0.mk (show tb ≠ rb by rw [hg]; exact Ne.symm (Nat.ne_of_lt (blk_lt Br.out))); clear gz0 gz1 gz2 gz3 gz4 gf0 gf1 gf2 gf3 gf4; clear Bg; clear rz0 rz1 rz2 rz3 rz4 rz5 rf0 rf1 rf2 rf3 rf4 rf5; clear Br; clear HK hb hbox hg; have HK := n0_; have Bt := n2_; have Gt := n3_; clear n0_ n2_ n3_; have Bg := m0_; have htg := k0_.out; have hgt := Ne.symm k0_.out; clear m0_ k0_; obtain ⟨⟨gz0, gz1, gz2, gz3, gz4⟩, gf0, gf1, gf2, gf3, gf4⟩ := five_ Bg.out; have Br := m1_; have htr := k1_.out; have hrt := Ne.symm k1_.out; clear m1_ k1_; obtain ⟨⟨rz0, rz1, rz2, rz3, rz4, rz5⟩, rf0, rf1, rf2, rf3, rf4, rf5⟩ := sixc Br.out; obtain ⟨⟨tz0, tz1, tz2, tz3⟩, tf0, tf1, tf2, tf3⟩ := four Bt.out))
  generalize hq_ : World.setCell _ ⟨tb, 3, none⟩ _ = wt2
  have hq := hq_
  clear hq_
  have n0_ : Aside0 (wt2.heap[g]? = some (.cells #[.slice A T.length c, .int .i64 a, .int .i64 n, .int .i64 q, .int .i64 b] 79 (0, 0))) := ⟨by rw [← hq]; refine blk_far ?_ hgt _; refine blk_far ?_ hgt _; refine blk_far ?_ hgt _; refine blk_far ?_ hgt _; exact Bg.out⟩
  have n1_ : Aside0 (wt2.heap[rb]? = some (.cells #[.int .i64 0, .string (⟨#[]⟩ : ByteArray), .int .i64 0, .slice none 0 0, .slice none 0 0, .slice none 0 0] 41 (0, 0))) := ⟨by rw [← hq]; refine blk_far ?_ hrt _; refine blk_far ?_ hrt _; refine blk_far ?_ hrt _; refine blk_far ?_ hrt _; exact Br.out⟩
  have n2_ : Aside0 (wt2.heap[tb]? = some (.cells #[.int .i64 3, .string t1, .int .i64 t2, .int .i64 t3] 58 (0, 0))) := ⟨by rw [← hq]; refine blk_put (cs := #[.int .i64 3, .string t1, .int .i64 t2, .int .i64 0]) ?_ 3 _ rfl; refine blk_put (cs := #[.int .i64 3, .string t1, .int .i64 0, .int .i64 0]) ?_ 2 _ rfl; refine blk_put (cs := #[.int .i64 3, .string (⟨#[]⟩ : ByteArray), .int .i64 0, .int .i64 0]) ?_ 1 _ rfl; refine blk_put (cs := #[.int .i64 0, .string (⟨#[]⟩ : ByteArray), .int .i64 0, .int .i64 0]) ?_ 0 _ rfl; exact Bt.out⟩
  have nk_ : Aside0 (KeepBut w wt2 g none) := ⟨by rw [← hq]; refine keep_far ?_ Gt.out _; refine keep_far ?_ Gt.out _; refine keep_far ?_ Gt.out _; refine keep_far ?_ Gt.out _; exact HK.out⟩
  clear gz0 gz1 gz2 gz3 gz4 gf0 gf1 gf2 gf3 gf4
  clear rz0 rz1 rz2 rz3 rz4 rz5 rf0 rf1 rf2 rf3 rf4 rf5
  clear tz0 tz1 tz2 tz3 tf0 tf1 tf2 tf3
  clear hq HK Bg Br Bt
  have Bg := n0_
  have Br := n1_
  have Bt := n2_
  have HK := nk_
  clear nk_ n0_ n1_ n2_
  obtain ⟨⟨gz0, gz1, gz2, gz3, gz4⟩, gf0, gf1, gf2, gf3, gf4⟩ := five_ Bg.out
  obtain ⟨⟨rz0, rz1, rz2, rz3, rz4, rz5⟩, rf0, rf1, rf2, rf3, rf4, rf5⟩ := sixc Br.out
  obtain ⟨⟨tz0, tz1, tz2, tz3⟩, tf0, tf1, tf2, tf3⟩ := four Bt.out
  go_wp2_with (first | ((with_reducible refine gate_dst (N := 4) rfl ?_); (try (refine gate_guard (by rfl) ?_; dsimp only)); refine box_event ?hg (N := 4) ?hd (cs := #[.int .i64 0, .string (⟨#[]⟩ : ByteArray), .int .i64 0, .slice none 0 0, .slice none 0 0, .slice none 0 0]) (t := 41) ?hr ?_; (case hd => rfl); (case hg => rfl); (case hr => first | (go_simp; done) | (go_simp; rfl)); intro sb hg ws hbox hb; have n0_ := Aside0.mk (HK.out.trans (KeepBut.of_below hb g none) (.inl rfl)); have n2_ := Aside0.mk hbox; have n3_ := Aside0.mk (show w.heap.size ≤ sb by rw [hg]; exact keep_size HK.out); have m0_ := Aside0.mk (blk_below Bg.out hb); have k0_ := Aside0.mk (show sb ≠ g by rw [hg]; exact Ne.symm (Nat.ne_of_lt (blk_lt Bg.out))); have m1_ := Aside0.mk (blk_below Br.out hb); have k1_ := Aside0.mk (show sb ≠ rb by rw [hg]; exact Ne.symm (Nat.ne_of_lt (blk_lt Br.out))); have m2_ := Aside0.mk (blk_below Bt.out hb); have k2_ := Aside0.mk (show sb ≠ tb by rw [hg]; exact Ne.symm (Nat.ne_of_lt (blk_lt Bt.out))); clear gz0 gz1 gz2 gz3 gz4 gf0 gf1 gf2 gf3 gf4; clear Bg; clear rz0 rz1 rz2 rz3 rz4 rz5 rf0 rf1 rf2 rf3 rf4 rf5; clear Br; clear tz0 tz1 tz2 tz3 tf0 tf1 tf2 tf3; clear Bt; clear HK hb hbox hg; have HK := n0_; have Bs := n2_; have Gs := n3_; clear n0_ n2_ n3_; have Bg := m0_; have hsg := k0_.out; have hgs := Ne.symm k0_.out; clear m0_ k0_; obtain ⟨⟨gz0, gz1, gz2, gz3, gz4⟩, gf0, gf1, gf2, gf3, gf4⟩ := five_ Bg.out; have Br := m1_; have hsr := k1_.out; have hrs := Ne.symm k1_.out; clear m1_ k1_; obtain ⟨⟨rz0, rz1, rz2, rz3, rz4, rz5⟩, rf0, rf1, rf2, rf3, rf4, rf5⟩ := sixc Br.out; have Bt := m2_; have hst := k2_.out; have hts := Ne.symm k2_.out; clear m2_ k2_; obtain ⟨⟨tz0, tz1, tz2, tz3⟩, tf0, tf1, tf2, tf3⟩ := four Bt.out; obtain ⟨⟨sz0, sz1, sz2, sz3, sz4, sz5⟩, sf0, sf1, sf2, sf3, sf4, sf5⟩ := sixc Bs.out))
  have HSZ := Aside0.mk (show w.heap.size ≤ ws.heap.size ∧ rb < ws.heap.size ∧ tb < ws.heap.size ∧ sb < ws.heap.size from ⟨keep_size HK.out, blk_lt Br.out, blk_lt Bt.out, blk_lt Bs.out⟩)
  (with_reducible refine (WC.out.use ⟨a, n, q, b⟩ ⟨3, t1, t2, t3⟩ r1 g A c _ HWD.out (⟨Bg.out, Kd.F_keep HT0.out HK.out (fun _ h => h)⟩ : RD _ g A c T _)).mono ?_)
  intro e wn hp
  rcases r1 with ⟨er, at_⟩ | ⟨x0, s1⟩
  · obtain ⟨rfl, hk⟩ := hp.err
    have h' := Option.some.inj HL.out
    subst h'
    exact ⟨rfl, HK.out.trans hk (.inl rfl), rfl⟩
  obtain ⟨x, rfl, hpx, hpo, hx, hk⟩ := hp.ok
  clear hp HWD
  subst hpx
  obtain ⟨a1, n1, q1, b1⟩ := s1
  have h := HL.out
  clear HL
  dsimp only at h
  by_cases hg : (x.x.f0 ≠ 6 ∧ x.x.f0 ≠ 7) ∧ goodS T ⟨a1, n1, q1, b1⟩
  rotate_left
  · rw [if_neg hg] at h; cases h
  rw [if_pos hg] at h
  obtain ⟨⟨hk6, hk7⟩, ⟨h2, h3⟩, hm0, hm1⟩ := hg
  dsimp only at h h2 h3 hm0 hm1
  have HL := Aside0.mk (Option.some.inj h)
  clear h
  have d6 : (x.x.f0 != 6) = true := bne_iff_ne.2 hk6
  have d7 : (x.x.f0 != 7) = true := bne_iff_ne.2 hk7
  clear hk6 hk7
  unfold SV.val
  have n0_ : Aside0 (wn.heap[g]? = some (.cells #[.slice A T.length c, .int .i64 a1, .int .i64 n1, .int .i64 q1, .int .i64 b1] 79 (0, 0))) := ⟨hx.bk⟩
  have n1_ := Aside0.mk (KeepBut.blk hk Br.out hrg (by simp))
  have n2_ := Aside0.mk (KeepBut.blk hk Bt.out htg (by simp))
  have n3_ := Aside0.mk (KeepBut.blk hk Bs.out hsg (by simp))
  have nk_ := Aside0.mk (HK.out.trans hk (.inl rfl))
  clear gz0 gz1 gz2 gz3 gz4 gf0 gf1 gf2 gf3 gf4
  clear rz0 rz1 rz2 rz3 rz4 rz5 rf0 rf1 rf2 rf3 rf4 rf5
  clear tz0 tz1 tz2 tz3 tf0 tf1 tf2 tf3
  clear sz0 sz1 sz2 sz3 sz4 sz5 sf0 sf1 sf2 sf3 sf4 sf5
  clear HK hk Bg Br Bt Bs hx
  have Bg := n0_
  have Br := n1_
  have Bt := n2_
  have Bs := n3_
  have HK := nk_
  clear nk_ n0_ n1_ n2_ n3_
  obtain ⟨⟨gz0, gz1, gz2, gz3, gz4⟩, gf0, gf1, gf2, gf3, gf4⟩ := five_ Bg.out
  obtain ⟨⟨rz0, rz1, rz2, rz3, rz4, rz5⟩, rf0, rf1, rf2, rf3, rf4, rf5⟩ := sixc Br.out
  obtain ⟨⟨tz0, tz1, tz2, tz3⟩, tf0, tf1, tf2, tf3⟩ := four Bt.out
  obtain ⟨⟨sz0, sz1, sz2, sz3, sz4, sz5⟩, sf0, sf1, sf2, sf3, sf4, sf5⟩ := sixc Bs.out
  have Ex : Aside0 (∃ op_ : Nat → Prop, SV.ok wn op_ x ∧ ∀ k, op_ k → w.heap.size ≤ k ∧ k ≠ rb ∧ k ≠ tb ∧ k ≠ sb) := ⟨⟨_, hpo, fun k hk => by have := hk.1; have := HSZ.out; omega⟩⟩
  clear HSZ hpo
  go_upto_region 10 with fail
  generalize hq_ : World.setCell _ ⟨sb, 5, none⟩ _ = wu
  have e0_ : Aside0 (∃ op_ : Nat → Prop, SV.ok wu op_ x ∧ ∀ k, op_ k → w.heap.size ≤ k ∧ k ≠ rb ∧ k ≠ tb ∧ k ≠ sb) := ⟨by obtain ⟨op_, h1, h2⟩ := Ex.out; exact ⟨op_, h1.step (fun k hk hl => by have hh := h2 k hk; have hlt := HLT.out; rw [← hq_]; rw [Below.heap_setCell _ _ _ k (by show k ≠ sb; omega)]; rw [Below.heap_setCell _ _ _ k (by show k ≠ sb; omega)]; rw [Below.heap_setCell _ _ _ k (by show k ≠ sb; omega)]; rw [Below.heap_setCell _ _ _ k (by show k ≠ sb; omega)]; rw [Below.heap_setCell _ _ _ k (by show k ≠ sb; omega)]; rw [Below.heap_setCell _ _ _ k (by show k ≠ sb; omega)]), h2⟩⟩
  clear Ex
  have Ex := e0_
  clear e0_
  have hq := hq_
  clear hq_
  have n0_ : Aside0 (wu.heap[g]? = some (.cells #[.slice A T.length c, .int .i64 a1, .int .i64 n1, .int .i64 q1, .int .i64 b1] 79 (0, 0))) := ⟨by rw [← hq]; refine blk_far ?_ hgs _; refine blk_far ?_ hgs _; refine blk_far ?_ hgs _; refine blk_far ?_ hgs _; refine blk_far ?_ hgs _; refine blk_far ?_ hgs _; exact Bg.out⟩
  have n1_ : Aside0 (wu.heap[rb]? = some (.cells #[.int .i64 0, .string (⟨#[]⟩ : ByteArray), .int .i64 0, .slice none 0 0, .slice none 0 0, .slice none 0 0] 41 (0, 0))) := ⟨by rw [← hq]; refine blk_far ?_ hrs _; refine blk_far ?_ hrs _; refine blk_far ?_ hrs _; refine blk_far ?_ hrs _; refine blk_far ?_ hrs _; refine blk_far ?_ hrs _; exact Br.out⟩
  have n2_ : Aside0 (wu.heap[tb]? = some (.cells #[.int .i64 3, .string t1, .int .i64 t2, .int .i64 t3] 58 (0, 0))) := ⟨by rw [← hq]; refine blk_far ?_ hts _; refine blk_far ?_ hts _; refine blk_far ?_ hts _; refine blk_far ?_ hts _; refine blk_far ?_ hts _; refine blk_far ?_ hts _; exact Bt.out⟩
  have n3_ : Aside0 (wu.heap[sb]? = some (.cells #[.int .i64 x.x.f0, .string x.x.f1, .int .i64 x.x.f2, .slice x.A3 x.x.f3.length x.c3, .slice x.A4 x.x.f4.length x.c4, .slice x.A5 x.x.f5.length x.c5] 41 (0, 0))) := ⟨by rw [← hq]; refine blk_put (cs := #[.int .i64 x.x.f0, .string x.x.f1, .int .i64 x.x.f2, .slice x.A3 x.x.f3.length x.c3, .slice x.A4 x.x.f4.length x.c4, .slice none 0 0]) ?_ 5 _ rfl; refine blk_put (cs := #[.int .i64 x.x.f0, .string x.x.f1, .int .i64 x.x.f2, .slice x.A3 x.x.f3.length x.c3, .slice none 0 0, .slice none 0 0]) ?_ 4 _ rfl; refine blk_put (cs := #[.int .i64 x.x.f0, .string x.x.f1, .int .i64 x.x.f2, .slice none 0 0, .slice none 0 0, .slice none 0 0]) ?_ 3 _ rfl; refine blk_put (cs := #[.int .i64 x.x.f0, .string x.x.f1, .int .i64 0, .slice none 0 0, .slice none 0 0, .slice none 0 0]) ?_ 2 _ rfl; refine blk_put (cs := #[.int .i64 x.x.f0, .string (⟨#[]⟩ : ByteArray), .int .i64 0, .slice none 0 0, .slice none 0 0, .slice none 0 0]) ?_ 1 _ rfl; refine blk_put (cs := #[.int .i64 0, .string (⟨#[]⟩ : ByteArray), .int .i64 0, .slice none 0 0, .slice none 0 0, .slice none 0 0]) ?_ 0 _ rfl; exact Bs.out⟩
  have nk_ : Aside0 (KeepBut w wu g none) := ⟨by rw [← hq]; refine keep_far ?_ Gs.out _; refine keep_far ?_ Gs.out _; refine keep_far ?_ Gs.out _; refine keep_far ?_ Gs.out _; refine keep_far ?_ Gs.out _; refine keep_far ?_ Gs.out _; exact HK.out⟩
  clear gz0 gz1 gz2 gz3 gz4 gf0 gf1 gf2 gf3 gf4
  clear rz0 rz1 rz2 rz3 rz4 rz5 rf0 rf1 rf2 rf3 rf4 rf5
  clear tz0 tz1 tz2 tz3 tf0 tf1 tf2 tf3
  clear sz0 sz1 sz2 sz3 sz4 sz5 sf0 sf1 sf2 sf3 sf4 sf5
  clear hq HK Bg Br Bt Bs
  have Bg := n0_
  have Br := n1_
  have Bt := n2_
  have Bs := n3_
  have HK := nk_
  clear nk_ n0_ n1_ n2_ n3_
  obtain ⟨⟨gz0, gz1, gz2, gz3, gz4⟩, gf0, gf1, gf2, gf3, gf4⟩ := five_ Bg.out
  obtain ⟨⟨rz0, rz1, rz2, rz3, rz4, rz5⟩, rf0, rf1, rf2, rf3, rf4, rf5⟩ := sixc Br.out
  obtain ⟨⟨tz0, tz1, tz2, tz3⟩, tf0, tf1, tf2, tf3⟩ := four Bt.out
  obtain ⟨⟨sz0, sz1, sz2, sz3, sz4, sz5⟩, sf0, sf1, sf2, sf3, sf4, sf5⟩ := sixc Bs.out
  go_wp2_with fail
  by_cases hq : isB (rd_T58 T a1) ⟨#[59]⟩ = true
  rotate_left
  · have h := HL.out
    rw [if_neg hq] at h
    subst h
    (with_reducible refine (want_L g A c T a1 n1 q1 b1 _ ⟨#[59]⟩ (⟨Bg.out, Kd.F_keep HT0.out HK.out (fun _ h => h)⟩ : RD _ g A c T _) h2 h3).mono ?_)
    intro e wn hp
    unfold wantP at hp
    rw [if_neg hq] at hp
    obtain ⟨rfl, hk⟩ := hp.err
    exact ⟨rfl, HK.out.trans hk (.inl rfl), rfl⟩
  have h := HL.out
  clear HL
  rw [if_pos hq] at h
  (with_reducible refine (want_L g A c T a1 n1 q1 b1 _ ⟨#[59]⟩ (⟨Bg.out, Kd.F_keep HT0.out HK.out (fun _ h => h)⟩ : RD _ g A c T _) h2 h3).mono ?_)
  intro e wn hp
  unfold wantP at hp
  rw [if_pos hq] at hp
  obtain ⟨rfl, hx, hk⟩ := hp.ok
  clear hp hq
  unfold tokV
  have e0_ : Aside0 (∃ op_ : Nat → Prop, SV.ok wn op_ x ∧ ∀ k, op_ k → w.heap.size ≤ k ∧ k ≠ rb ∧ k ≠ tb ∧ k ≠ sb) := ⟨by obtain ⟨op_, h1, h2⟩ := Ex.out; exact ⟨op_, h1.step (fun k hk' hl => hk.2 k hl (by have := h2 k hk'; have := HLT.out; omega) (by simp)), h2⟩⟩
  clear Ex
  have Ex := e0_
  clear e0_
  have n0_ : Aside0 (wn.heap[g]? = some (.cells #[.slice A T.length c, .int .i64 (a1 + 1), .int .i64 n1, .int .i64 q1, .int .i64 b1] 79 (0, 0))) := ⟨hx.bk⟩
  have n1_ := Aside0.mk (KeepBut.blk hk Br.out hrg (by simp))
  have n2_ := Aside0.mk (KeepBut.blk hk Bt.out htg (by simp))
  have n3_ := Aside0.mk (KeepBut.blk hk Bs.out hsg (by simp))
  have nk_ := Aside0.mk (HK.out.trans hk (.inl rfl))
  clear gz0 gz1 gz2 gz3 gz4 gf0 gf1 gf2 gf3 gf4
  clear rz0 rz1 rz2 rz3 rz4 rz5 rf0 rf1 rf2 rf3 rf4 rf5
  clear tz0 tz1 tz2 tz3 tf0 tf1 tf2 tf3
  clear sz0 sz1 sz2 sz3 sz4 sz5 sf0 sf1 sf2 sf3 sf4 sf5
  clear HK hk Bg Br Bt Bs hx
  have Bg := n0_
  have Br := n1_
  have Bt := n2_
  have Bs := n3_
  have HK := nk_
  clear nk_ n0_ n1_ n2_ n3_
  obtain ⟨⟨gz0, gz1, gz2, gz3, gz4⟩, gf0, gf1, gf2, gf3, gf4⟩ := five_ Bg.out
  obtain ⟨⟨rz0, rz1, rz2, rz3, rz4, rz5⟩, rf0, rf1, rf2, rf3, rf4, rf5⟩ := sixc Br.out
  obtain ⟨⟨tz0, tz1, tz2, tz3⟩, tf0, tf1, tf2, tf3⟩ := four Bt.out
  obtain ⟨⟨sz0, sz1, sz2, sz3, sz4, sz5⟩, sf0, sf1, sf2, sf3, sf4, sf5⟩ := sixc Bs.out
  go_wp2_with fail
  by_cases hq : 600 < n1 + 1
  · rw [if_pos hq] at h
    subst h
    (with_reducible refine (made_L g A c T (a1 + 1) n1 q1 b1 _ 3 t1 t2 t3 (⟨Bg.out, Kd.F_keep HT0.out HK.out (fun _ h => h)⟩ : RD _ g A c T _) hm0 hm1).mono ?_)
    intro e wn hp
    unfold madeP at hp
    rw [if_pos hq] at hp
    obtain ⟨rfl, hk⟩ := hp.err
    exact ⟨rfl, HK.out.trans hk (.inl rfl), rfl⟩
  rw [if_neg hq] at h
  subst h
  (with_reducible refine (made_L g A c T (a1 + 1) n1 q1 b1 _ 3 t1 t2 t3 (⟨Bg.out, Kd.F_keep HT0.out HK.out (fun _ h => h)⟩ : RD _ g A c T _) hm0 hm1).mono ?_)
  intro e wn hp
  unfold madeP at hp
  rw [if_neg hq] at hp
  obtain ⟨rfl, hx, hk⟩ := hp.ok
  clear hp hq
  unfold unitV
  have e0_ : Aside0 (∃ op_ : Nat → Prop, SV.ok wn op_ x ∧ ∀ k, op_ k → w.heap.size ≤ k ∧ k ≠ rb ∧ k ≠ tb ∧ k ≠ sb) := ⟨by obtain ⟨op_, h1, h2⟩ := Ex.out; exact ⟨op_, h1.step (fun k hk' hl => hk.2 k hl (by have := h2 k hk'; have := HLT.out; omega) (by simp)), h2⟩⟩
  clear Ex
  have Ex := e0_
  clear e0_
  have n0_ : Aside0 (wn.heap[g]? = some (.cells #[.slice A T.length c, .int .i64 (a1 + 1), .int .i64 (n1 + 1), .int .i64 q1, .int .i64 b1] 79 (0, 0))) := ⟨hx.bk⟩
  have n1_ := Aside0.mk (KeepBut.blk hk Br.out hrg (by simp))
  have n2_ := Aside0.mk (KeepBut.blk hk Bt.out htg (by simp))
  have n3_ := Aside0.mk (KeepBut.blk hk Bs.out hsg (by simp))
  have nk_ := Aside0.mk (HK.out.trans hk (.inl rfl))
  clear gz0 gz1 gz2 gz3 gz4 gf0 gf1 gf2 gf3 gf4
  clear rz0 rz1 rz2 rz3 rz4 rz5 rf0 rf1 rf2 rf3 rf4 rf5
  clear tz0 tz1 tz2 tz3 tf0 tf1 tf2 tf3
  clear sz0 sz1 sz2 sz3 sz4 sz5 sf0 sf1 sf2 sf3 sf4 sf5
  clear HK hk Bg Br Bt Bs hx
  have Bg := n0_
  have Br := n1_
  have Bt := n2_
  have Bs := n3_
  have HK := nk_
  clear nk_ n0_ n1_ n2_ n3_
  obtain ⟨⟨gz0, gz1, gz2, gz3, gz4⟩, gf0, gf1, gf2, gf3, gf4⟩ := five_ Bg.out
  obtain ⟨⟨rz0, rz1, rz2, rz3, rz4, rz5⟩, rf0, rf1, rf2, rf3, rf4, rf5⟩ := sixc Br.out
  obtain ⟨⟨tz0, tz1, tz2, tz3⟩, tf0, tf1, tf2, tf3⟩ := four Bt.out
  obtain ⟨⟨sz0, sz1, sz2, sz3, sz4, sz5⟩, sf0, sf1, sf2, sf3, sf4, sf5⟩ := sixc Bs.out
  go_wp2_with fail
  generalize hq_ : World.setCell _ ⟨rb, 5, none⟩ _ = wv
  have e0_ : Aside0 (∃ op_ : Nat → Prop, SV.ok wv op_ x ∧ ∀ k, op_ k → w.heap.size ≤ k ∧ k ≠ rb ∧ k ≠ tb ∧ k ≠ sb) := ⟨by obtain ⟨op_, h1, h2⟩ := Ex.out; exact ⟨op_, h1.step (fun k hk hl => by have hh := h2 k hk; have hlt := HLT.out; rw [← hq_]; rw [Below.heap_setCell _ _ _ k (by show k ≠ rb; omega)]; rw [Below.heap_setCell _ _ _ k (by show k ≠ rb; omega)]; rw [Below.heap_setCell _ _ _ k (by show k ≠ rb; omega)]; rw [Below.heap_setCell _ _ _ k (by show k ≠ rb; omega)]; rw [Below.heap_setCell _ _ _ k (by show k ≠ rb; omega)]; rw [Below.heap_setCell _ _ _ k (by show k ≠ rb; omega)]), h2⟩⟩
  clear Ex
  have Ex := e0_
  clear e0_
  have hq := hq_
  clear hq_
  have n0_ : Aside0 (wv.heap[g]? = some (.cells #[.slice A T.length c, .int .i64 (a1 + 1), .int .i64 (n1 + 1), .int .i64 q1, .int .i64 b1] 79 (0, 0))) := ⟨by rw [← hq]; refine blk_far ?_ hgr _; refine blk_far ?_ hgr _; refine blk_far ?_ hgr _; refine blk_far ?_ hgr _; refine blk_far ?_ hgr _; refine blk_far ?_ hgr _; exact Bg.out⟩
  have n1_ : Aside0 (wv.heap[rb]? = some (.cells #[.int .i64 x.x.f0, .string x.x.f1, .int .i64 x.x.f2, .slice x.A3 x.x.f3.length x.c3, .slice x.A4 x.x.f4.length x.c4, .slice x.A5 x.x.f5.length x.c5] 41 (0, 0))) := ⟨by rw [← hq]; refine blk_put (cs := #[.int .i64 x.x.f0, .string x.x.f1, .int .i64 x.x.f2, .slice x.A3 x.x.f3.length x.c3, .slice x.A4 x.x.f4.length x.c4, .slice none 0 0]) ?_ 5 _ rfl; refine blk_put (cs := #[.int .i64 x.x.f0, .string x.x.f1, .int .i64 x.x.f2, .slice x.A3 x.x.f3.length x.c3, .slice none 0 0, .slice none 0 0]) ?_ 4 _ rfl; refine blk_put (cs := #[.int .i64 x.x.f0, .string x.x.f1, .int .i64 x.x.f2, .slice none 0 0, .slice none 0 0, .slice none 0 0]) ?_ 3 _ rfl; refine blk_put (cs := #[.int .i64 x.x.f0, .string x.x.f1, .int .i64 0, .slice none 0 0, .slice none 0 0, .slice none 0 0]) ?_ 2 _ rfl; refine blk_put (cs := #[.int .i64 x.x.f0, .string (⟨#[]⟩ : ByteArray), .int .i64 0, .slice none 0 0, .slice none 0 0, .slice none 0 0]) ?_ 1 _ rfl; refine blk_put (cs := #[.int .i64 0, .string (⟨#[]⟩ : ByteArray), .int .i64 0, .slice none 0 0, .slice none 0 0, .slice none 0 0]) ?_ 0 _ rfl; exact Br.out⟩
  have n2_ : Aside0 (wv.heap[tb]? = some (.cells #[.int .i64 3, .string t1, .int .i64 t2, .int .i64 t3] 58 (0, 0))) := ⟨by rw [← hq]; refine blk_far ?_ htr _; refine blk_far ?_ htr _; refine blk_far ?_ htr _; refine blk_far ?_ htr _; refine blk_far ?_ htr _; refine blk_far ?_ htr _; exact Bt.out⟩
  have n3_ : Aside0 (wv.heap[sb]? = some (.cells #[.int .i64 x.x.f0, .string x.x.f1, .int .i64 x.x.f2, .slice x.A3 x.x.f3.length x.c3, .slice x.A4 x.x.f4.length x.c4, .slice x.A5 x.x.f5.length x.c5] 41 (0, 0))) := ⟨by rw [← hq]; refine blk_far ?_ hsr _; refine blk_far ?_ hsr _; refine blk_far ?_ hsr _; refine blk_far ?_ hsr _; refine blk_far ?_ hsr _; refine blk_far ?_ hsr _; exact Bs.out⟩
  have nk_ : Aside0 (KeepBut w wv g none) := ⟨by rw [← hq]; refine keep_far ?_ Gr.out _; refine keep_far ?_ Gr.out _; refine keep_far ?_ Gr.out _; refine keep_far ?_ Gr.out _; refine keep_far ?_ Gr.out _; refine keep_far ?_ Gr.out _; exact HK.out⟩
  clear gz0 gz1 gz2 gz3 gz4 gf0 gf1 gf2 gf3 gf4
  clear rz0 rz1 rz2 rz3 rz4 rz5 rf0 rf1 rf2 rf3 rf4 rf5
  clear tz0 tz1 tz2 tz3 tf0 tf1 tf2 tf3
  clear sz0 sz1 sz2 sz3 sz4 sz5 sf0 sf1 sf2 sf3 sf4 sf5
  clear hq HK Bg Br Bt Bs
  have Bg := n0_
  have Br := n1_
  have Bt := n2_
  have Bs := n3_
  have HK := nk_
  clear nk_ n0_ n1_ n2_ n3_
  obtain ⟨⟨gz0, gz1, gz2, gz3, gz4⟩, gf0, gf1, gf2, gf3, gf4⟩ := five_ Bg.out
  obtain ⟨⟨rz0, rz1, rz2, rz3, rz4, rz5⟩, rf0, rf1, rf2, rf3, rf4, rf5⟩ := sixc Br.out
  obtain ⟨⟨tz0, tz1, tz2, tz3⟩, tf0, tf1, tf2, tf3⟩ := four Bt.out
  obtain ⟨⟨sz0, sz1, sz2, sz3, sz4, sz5⟩, sf0, sf1, sf2, sf3, sf4, sf5⟩ := sixc Bs.out
  refine bodyPost_ret (v := x.val) (by simp [results, Try.results47, go_sem, rz0, rz1, rz2, rz3, rz4, rz5, SV.val]) rfl ?_
  obtain ⟨op_, h1, h2⟩ := Ex.out
  exact ⟨HK.out, x, rfl, rfl, h1.bound.mono (fun k hk => ⟨(h2 k hk.1).1, hk.2⟩), ⟨Bg.out, Kd.F_keep HT0.out HK.out (fun _ h => h)⟩⟩
end Go.Proofs.Ytobkdmmnbnpemaa.K
