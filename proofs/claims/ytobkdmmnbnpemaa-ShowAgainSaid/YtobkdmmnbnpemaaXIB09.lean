/- Texts of the claim, one behind the other. -/
import Derived.Test.YtobkdmmnbnpemaaXIB08
set_option maxHeartbeats 16000000
set_option maxRecDepth 100000
namespace Go.Proofs.Ytobkdmmnbnpemaa.K
open Go.RowKit Go.Proofs.YtobkdmmnbnpemaaW.PrintWords Go.Proofs.YtobkdmmnbnpemaaW.PrintLast Go.Proofs.YtobkdmmnbnpemaaW.PrintMore
attribute [local go_sem] max2_int min2_int max_two min_two max_three min_three max_four min_four
set_option linter.unusedVariables false
set_option linter.unusedSimpArgs false
def valS (T : List S58) (on : PSt → Option Res) (ab : Int → PSt → Option Res) (s : PSt) : Option Res :=
 if 0 ≤ s.at_ ∧ s.at_ < T.length then
  if (rd_T58 T s.at_).f0 = 1 then nodeK ⟨s.at_ + 1, s.nodes, s.op, s.bl⟩ (rd_T58 T s.at_).f3 1 (rd_T58 T s.at_).f2 ⟨#[]⟩ 0 []
  else if (rd_T58 T s.at_).f0 = 2 then nodeK ⟨s.at_ + 1, s.nodes, s.op, s.bl⟩ (rd_T58 T s.at_).f3 2 0 (rd_T58 T s.at_).f1 0 []
  else if isB (rd_T58 T s.at_) ⟨#[40]⟩ = true then enterK ⟨s.at_ + 1, s.nodes, s.op, s.bl⟩ (rd_T58 T s.at_).f3 fun s2 => exK (ab 1 s2) fun p s3 => leaveK T s3 ⟨#[41]⟩ fun s4 => some (.ok (p, s4))
  else if isB (rd_T58 T s.at_) ⟨#[109]⟩ = true then wantK T ⟨s.at_ + 1, s.nodes, s.op, s.bl⟩ ⟨#[91]⟩ fun o s1 => enterK s1 o.f3 fun s2 => exK (ab 1 s2) fun p s3 => leaveK T s3 ⟨#[93]⟩ fun s4 => nodeK s4 (rd_T58 T s.at_).f3 3 0 ⟨#[]⟩ 0 [p]
  else if isB (rd_T58 T s.at_) ⟨#[109, 105, 110]⟩ = true then callS T ab (rd_T58 T s.at_).f3 17 s
  else if isB (rd_T58 T s.at_) ⟨#[109, 97, 120]⟩ = true then callS T ab (rd_T58 T s.at_).f3 18 s
  else signS T on s
 else none
theorem one_L (T : List S58) (on : PSt → Option Res) (OC0 : OneC T on) (ab : Int → PSt → Option Res) (AC0 : AboC T ab) : OneC T (valS T on ab) := by
  intro s r g A c w h hrd; obtain ⟨a, n, q, b⟩ := s; have OC := A_0 OC0; have AC := A_0 AC0; clear OC0 AC0; unfold valS at h; by_cases hg : 0 ≤ a ∧ a < T.length
  rotate_left
  · rw [if_neg hg] at h; cases h
  rw [if_pos hg] at h; obtain ⟨h0, h1⟩ := hg; dsimp only at h; generalize ht : rd_T58 T a = t at h; obtain ⟨t0, t1, t2, t3⟩ := t; dsimp only at h; have HTK := A_0 ht; have HL := A_0 h; clear h ht; have HT0 := A_0 hrd.tk; have hmx := hrd.max; have Bg : Aside0 (w.heap[g]? = some (b79 A T.length c a n q b)) := ⟨hrd.bk⟩; have HK := A_0 (KeepBut.refl w g none); have HLT := A_0 hrd.lt; clear hrd; have gz := five_ Bg.out; have hwa : wrap64 (a + 1) = a + 1 := by unfold wrap64; omega
  go_enter Try.func126, Try.ntmps126
  go_wp2_with (first | ((with_reducible refine gate_dst (N := 2) rfl ?_); refine bx #[.int .i64 0, .int .i64 0, .string (⟨#[]⟩ : ByteArray), .int .i64 0, .slice none 0 0, .int .i64 0] 137 ?_; intro rb hg wr hbox hb; have Br := A_0 hbox; have Gr := A_0 (show w.heap.size ≤ rb by rw [hg]; exact keep_size HK.out); replace HK := xk1 HK hb; have hrg := (show rb ≠ g by rw [hg]; exact z_71); have hgr := Ne.symm hrg; replace Bg := xk4 Bg hb; clear hb hbox hg; replace gz := five_ Bg.out; have rz := sixc Br.out))
  (with_reducible refine (now_L g A c T ⟨a, n, q, b⟩ _ (⟨Bg.out, Kd.F_keep HT0.out HK.out (fun _ h => h)⟩ : RD _ g A c T _) h0 h1).mono ?_)
  rintro e wn ⟨rfl, hb⟩; rw [HTK.out]; unfold tokV; dsimp only; replace Bg := xk4 Bg hb; replace Br := xk4 Br hb; replace HK := xk1 HK hb; clear hb; replace gz := five_ Bg.out; replace rz := sixc Br.out; go_upto_region 2 with (first | ((with_reducible refine gate_dst (N := 3) rfl ?_); refine bx (a58 0 ⟨#[]⟩ 0 0) 58 ?_; intro tb hg wt hbox hb; have Bt := A_0 hbox; have Gt := A_0 (show w.heap.size ≤ tb by rw [hg]; exact keep_size HK.out); replace HK := xk1 HK hb; have htg := (show tb ≠ g by rw [hg]; exact z_71); have hgt := Ne.symm htg; replace Bg := xk4 Bg hb; have htr := (show tb ≠ rb by rw [hg]; exact z_79); have hrt := Ne.symm htr; replace Br := xk4 Br hb; clear hb hbox hg; replace gz := five_ Bg.out; replace rz := sixc Br.out; have tz := four Bt.out))
  generalize hq_ : World.setCell _ ⟨tb, 3, none⟩ _ = wu; have hq := hq_; clear hq_; replace Bg : Aside0 (wu.heap[g]? = some (b79 A T.length c a n q b)) := ⟨z_103⟩; replace Br : Aside0 (wu.heap[rb]? = some (.cells #[.int .i64 0, .int .i64 0, .string (⟨#[]⟩ : ByteArray), .int .i64 0, .slice none 0 0, .int .i64 0] 137 (0, 0))) := ⟨z_104⟩; replace Bt : Aside0 (wu.heap[tb]? = some (b58 t0 t1 t2 t3)) := ⟨z_105⟩; replace HK : Aside0 (KeepBut w wu g none) := ⟨z_106⟩; clear hq; replace gz := five_ Bg.out; replace rz := sixc Br.out; replace tz := four Bt.out; by_cases e1 : t0 = 1
  · have d1 : (t0 == 1) = true := beq_iff_eq.2 e1
    have h := HL.out; clear HL; rw [if_pos e1] at h; have HL := A_0 h; clear h; go_upto_region 4 with fail; generalize hq_ : World.setCell _ ⟨g, 1, none⟩ _ = wa; have hq := hq_; clear hq_; replace Bg : Aside0 (wa.heap[g]? = some (b79 A T.length c (a + 1) n q b)) := ⟨z_73⟩; replace Br : Aside0 (wa.heap[rb]? = some (.cells #[.int .i64 0, .int .i64 0, .string (⟨#[]⟩ : ByteArray), .int .i64 0, .slice none 0 0, .int .i64 0] 137 (0, 0))) := ⟨z_75⟩; replace Bt : Aside0 (wa.heap[tb]? = some (b58 t0 t1 t2 t3)) := ⟨z_74⟩; replace HK : Aside0 (KeepBut w wa g none) := ⟨z_76⟩; clear hq; replace gz := five_ Bg.out; replace rz := sixc Br.out; replace tz := four Bt.out; clear hwa h0 h1 e1
    go_wp2_with fail
    have HSZ := A_0 (show w.heap.size ≤ wa.heap.size ∧ rb < wa.heap.size ∧ tb < wa.heap.size from ⟨keep_size HK.out, blk_lt Br.out, blk_lt Bt.out⟩); obtain ⟨⟨hm0, hm1⟩, hdd, h⟩ := nodeK_some HL.out; clear HL; dsimp only at hm0 hm1 hdd h; have HCC := A_0 True.intro; have hN := node_L (fun _ => False) g A c T ((a + 1)) n q b _ t0 t1 t2 t3 1 t2 ⟨#[]⟩ 0 none 0 0 ([] : List PV) (⟨Bg.out, Kd.F_keep HT0.out HK.out (fun _ h => h)⟩ : RD _ g A c T _) hm0 hm1 rfl (by simp) (fun j p _ h => by simp at h) (fun _ h => h.elim) (fun p hp => by cases hp)
    rw [nodeQ_eq, show (([] : List PV)).map PV.pr = [] from rfl] at hN; rw [h] at hN
    skip
    have HN := A_0 hN; clear hN h hdd hm0 hm1; rcases r with ⟨er, at_⟩ | ⟨p3, s3⟩
    · (with_reducible refine HN.out.mono ?_)
      intro e wn hp; obtain ⟨rfl, hk⟩ := PPartO.err hp; exact z_77
    (with_reducible refine HN.out.mono ?_)
    intro e wn hp; obtain ⟨z, rfl, hpz, hpo, hx, hk⟩ := PPartO.ok hp; clear hp HN; obtain ⟨a9, n9, q9, b9⟩ := s3; unfold PV.val; replace Bg : Aside0 (wn.heap[g]? = some (b79 A T.length c a9 n9 q9 b9)) := ⟨hx.bk⟩; replace Br := xk2 hk Br hrg; replace Bt := xk2 hk Bt htg; replace HK := xk3 HK hk; clear hk hx; replace gz := five_ Bg.out; replace rz := sixc Br.out; replace tz := four Bt.out
    have Ez : Aside0 (∃ op_ : Nat → Prop, PV.ok wn op_ z ∧ ∀ k, op_ k → w.heap.size ≤ k ∧ k ≠ rb ∧ k ≠ tb) := ⟨⟨_, hpo, fun k hk => by
        have := HSZ.out; rcases hk with hk | hk
        · exact hk.elim
        · have := hk.1; omega⟩⟩
    clear HSZ hpo HCC
    go_wp2_with fail
    generalize hq_ : World.setCell _ ⟨rb, 5, none⟩ _ = wv; have e0_ : Aside0 (∃ op_ : Nat → Prop, PV.ok wv op_ z ∧ ∀ k, op_ k → w.heap.size ≤ k ∧ k ≠ rb ∧ k ≠ tb) := ⟨z_94⟩; clear Ez; have Ez := e0_; clear e0_; have hq := hq_; clear hq_; replace Bg : Aside0 (wv.heap[g]? = some (b79 A T.length c a9 n9 q9 b9)) := ⟨z_95⟩; replace Br : Aside0 (wv.heap[rb]? = some (.cells #[.int .i64 z.x.f0, .int .i64 z.x.f1, .string z.x.f2, .int .i64 z.x.f3, .slice z.A z.x.f4.length z.c, .int .i64 z.d] 137 (0, 0))) := ⟨z_97⟩; replace Bt : Aside0 (wv.heap[tb]? = some (b58 t0 t1 t2 t3)) := ⟨z_96⟩; replace HK : Aside0 (KeepBut w wv g none) := ⟨z_99⟩; clear hq; replace gz := five_ Bg.out; replace rz := sixc Br.out; replace tz := four Bt.out; refine bodyPost_ret (v := z.val) (z_107) rfl ?_; obtain ⟨op_, h1, h2⟩ := Ez.out; exact z_100
  have d1 : (t0 == 1) = false := beq_eq_false_iff_ne.2 e1; by_cases e2 : t0 = 2
  · have d2 : (t0 == 2) = true := beq_iff_eq.2 e2
    have h := HL.out; clear HL; rw [if_neg e1, if_pos e2] at h; have HL := A_0 h; clear h; go_upto_region 7 with fail; generalize hq_ : World.setCell _ ⟨g, 1, none⟩ _ = wa; have hq := hq_; clear hq_; replace Bg : Aside0 (wa.heap[g]? = some (b79 A T.length c (a + 1) n q b)) := ⟨z_73⟩; replace Br : Aside0 (wa.heap[rb]? = some (.cells #[.int .i64 0, .int .i64 0, .string (⟨#[]⟩ : ByteArray), .int .i64 0, .slice none 0 0, .int .i64 0] 137 (0, 0))) := ⟨z_75⟩; replace Bt : Aside0 (wa.heap[tb]? = some (b58 t0 t1 t2 t3)) := ⟨z_74⟩; replace HK : Aside0 (KeepBut w wa g none) := ⟨z_76⟩; clear hq; replace gz := five_ Bg.out; replace rz := sixc Br.out; replace tz := four Bt.out; clear hwa h0 h1 e1 e2
    go_wp2_with fail
    have HSZ := A_0 (show w.heap.size ≤ wa.heap.size ∧ rb < wa.heap.size ∧ tb < wa.heap.size from ⟨keep_size HK.out, blk_lt Br.out, blk_lt Bt.out⟩); obtain ⟨⟨hm0, hm1⟩, hdd, h⟩ := nodeK_some HL.out; clear HL; dsimp only at hm0 hm1 hdd h; have HCC := A_0 True.intro; have hN := node_L (fun _ => False) g A c T ((a + 1)) n q b _ t0 t1 t2 t3 2 0 t1 0 none 0 0 ([] : List PV) (⟨Bg.out, Kd.F_keep HT0.out HK.out (fun _ h => h)⟩ : RD _ g A c T _) hm0 hm1 rfl (by simp) (fun j p _ h => by simp at h) (fun _ h => h.elim) (fun p hp => by cases hp)
    rw [nodeQ_eq, show (([] : List PV)).map PV.pr = [] from rfl] at hN; rw [h] at hN
    skip
    have HN := A_0 hN; clear hN h hdd hm0 hm1; rcases r with ⟨er, at_⟩ | ⟨p3, s3⟩
    · (with_reducible refine HN.out.mono ?_)
      intro e wn hp; obtain ⟨rfl, hk⟩ := PPartO.err hp; exact z_77
    (with_reducible refine HN.out.mono ?_)
    intro e wn hp; obtain ⟨z, rfl, hpz, hpo, hx, hk⟩ := PPartO.ok hp; clear hp HN; obtain ⟨a9, n9, q9, b9⟩ := s3; unfold PV.val; replace Bg : Aside0 (wn.heap[g]? = some (b79 A T.length c a9 n9 q9 b9)) := ⟨hx.bk⟩; replace Br := xk2 hk Br hrg; replace Bt := xk2 hk Bt htg; replace HK := xk3 HK hk; clear hk hx; replace gz := five_ Bg.out; replace rz := sixc Br.out; replace tz := four Bt.out
    have Ez : Aside0 (∃ op_ : Nat → Prop, PV.ok wn op_ z ∧ ∀ k, op_ k → w.heap.size ≤ k ∧ k ≠ rb ∧ k ≠ tb) := ⟨⟨_, hpo, fun k hk => by
        have := HSZ.out; rcases hk with hk | hk
        · exact hk.elim
        · have := hk.1; omega⟩⟩
    clear HSZ hpo HCC
    go_wp2_with fail
    generalize hq_ : World.setCell _ ⟨rb, 5, none⟩ _ = wv; have e0_ : Aside0 (∃ op_ : Nat → Prop, PV.ok wv op_ z ∧ ∀ k, op_ k → w.heap.size ≤ k ∧ k ≠ rb ∧ k ≠ tb) := ⟨z_94⟩; clear Ez; have Ez := e0_; clear e0_; have hq := hq_; clear hq_; replace Bg : Aside0 (wv.heap[g]? = some (b79 A T.length c a9 n9 q9 b9)) := ⟨z_95⟩; replace Br : Aside0 (wv.heap[rb]? = some (.cells #[.int .i64 z.x.f0, .int .i64 z.x.f1, .string z.x.f2, .int .i64 z.x.f3, .slice z.A z.x.f4.length z.c, .int .i64 z.d] 137 (0, 0))) := ⟨z_97⟩; replace Bt : Aside0 (wv.heap[tb]? = some (b58 t0 t1 t2 t3)) := ⟨z_96⟩; replace HK : Aside0 (KeepBut w wv g none) := ⟨z_99⟩; clear hq; replace gz := five_ Bg.out; replace rz := sixc Br.out; replace tz := four Bt.out; refine bodyPost_ret (v := z.val) (z_107) rfl ?_; obtain ⟨op_, h1, h2⟩ := Ez.out; exact z_100
  have d2 : (t0 == 2) = false := beq_eq_false_iff_ne.2 e2; have h := HL.out; clear HL; rw [if_neg e1, if_neg e2] at h; have HL := A_0 h; clear h; clear e1 e2
  go_wp2_with fail
  cases hq0 : isB (⟨t0, t1, t2, t3⟩ : S58) ⟨#[40]⟩ with
  | true =>
    have h := HL.out; clear HL; rw [if_pos hq0] at h; have HL := A_0 h; clear h
    (with_reducible refine (is_L g A c T a n q b _ ⟨#[40]⟩ (⟨Bg.out, Kd.F_keep HT0.out HK.out (fun _ h => h)⟩ : RD _ g A c T _) h0 h1 true (by rw [HTK.out]; exact hq0)).mono ?_)
    rintro e wn ⟨rfl, hb⟩; replace Bg := xk4 Bg hb; replace Br := xk4 Br hb; replace Bt := xk4 Bt hb; replace HK := xk1 HK hb; clear hb; replace gz := five_ Bg.out; replace rz := sixc Br.out; replace tz := four Bt.out; go_upto_region 10 with fail; generalize hq_ : World.setCell _ ⟨g, 1, none⟩ _ = wa; have hq := hq_; clear hq_; replace Bg : Aside0 (wa.heap[g]? = some (b79 A T.length c (a + 1) n q b)) := ⟨z_73⟩; replace Br : Aside0 (wa.heap[rb]? = some (.cells #[.int .i64 0, .int .i64 0, .string (⟨#[]⟩ : ByteArray), .int .i64 0, .slice none 0 0, .int .i64 0] 137 (0, 0))) := ⟨z_75⟩; replace Bt : Aside0 (wa.heap[tb]? = some (b58 t0 t1 t2 t3)) := ⟨z_74⟩; replace HK : Aside0 (KeepBut w wa g none) := ⟨z_76⟩; clear hq; replace gz := five_ Bg.out; replace rz := sixc Br.out; replace tz := four Bt.out; clear hwa h0 h1
    go_wp2_with fail
    obtain ⟨⟨h0, h1⟩, hcase⟩ := enterK_some HL.out; clear HL; dsimp only at h0 h1 hcase; rcases hcase with ⟨hq, h⟩ | ⟨hq, rfl⟩
    rotate_left
    · (with_reducible refine (enter_L g A c T ((a + 1)) n q b _ t0 t1 t2 t3 (⟨Bg.out, Kd.F_keep HT0.out HK.out (fun _ h => h)⟩ : RD _ g A c T _) h0 h1).mono ?_)
      intro e wn hp; unfold enterP at hp; rw [if_pos hq] at hp; obtain ⟨rfl, hk⟩ := hp.err; exact z_77
    (with_reducible refine (enter_L g A c T ((a + 1)) n q b _ t0 t1 t2 t3 (⟨Bg.out, Kd.F_keep HT0.out HK.out (fun _ h => h)⟩ : RD _ g A c T _) h0 h1).mono ?_)
    intro e wn hp; unfold enterP at hp; rw [if_neg hq] at hp; obtain ⟨rfl, hx, hk⟩ := hp.ok; have HL := A_0 h; clear hp hq h h0 h1; unfold unitV; replace Bg : Aside0 (wn.heap[g]? = some (b79 A T.length c (a + 1) n (q + 1) b)) := ⟨hx.bk⟩; replace Br := xk2 hk Br hrg; replace Bt := xk2 hk Bt htg; replace HK := xk3 HK hk; clear hk hx; replace gz := five_ Bg.out; replace rz := sixc Br.out; replace tz := four Bt.out
    go_wp2_with fail
    have HSZ := A_0 (show w.heap.size ≤ wn.heap.size ∧ rb < wn.heap.size ∧ tb < wn.heap.size from ⟨keep_size HK.out, blk_lt Br.out, blk_lt Bt.out⟩); rcases exK_some HL.out with ⟨er, at_, hab, rfl⟩ | ⟨p0, s1, hab, h⟩
    · (with_reducible refine (AC.out.use 1 ⟨(a + 1), n, (q + 1), b⟩ (.error (er, at_)) g A c _ hab (⟨Bg.out, Kd.F_keep HT0.out HK.out (fun _ h => h)⟩ : RD _ g A c T _)).mono ?_)
      intro e wn hp; obtain ⟨rfl, hk⟩ := PPartO.err hp; exact z_77
    (with_reducible refine (AC.out.use 1 ⟨(a + 1), n, (q + 1), b⟩ (.ok (p0, s1)) g A c _ hab (⟨Bg.out, Kd.F_keep HT0.out HK.out (fun _ h => h)⟩ : RD _ g A c T _)).mono ?_)
    intro e wn hp; obtain ⟨p, rfl, hpx, hpo, hx, hk⟩ := PPartO.ok hp; clear hp hab HL; subst hpx; have HL := A_0 h; clear h; obtain ⟨a1, n1, q1, b1⟩ := s1; unfold PV.val; replace Bg : Aside0 (wn.heap[g]? = some (b79 A T.length c a1 n1 q1 b1)) := ⟨hx.bk⟩; replace Br := xk2 hk Br hrg; replace Bt := xk2 hk Bt htg; replace HK := xk3 HK hk; clear gz rz tz hk hx; have gz := five_ Bg.out; have rz := sixc Br.out; have tz := four Bt.out; have Ep : Aside0 (∃ op_ : Nat → Prop, PV.ok wn op_ p ∧ ∀ k, op_ k → w.heap.size ≤ k ∧ k ≠ rb ∧ k ≠ tb) := ⟨⟨_, hpo, fun k hk => by have := hk.1; have := HSZ.out; omega⟩⟩
    clear HSZ hpo; go_upto_region 12 with (first | ((with_reducible refine gate_dst (N := 4) rfl ?_); refine bx #[.int .i64 0, .int .i64 0, .string (⟨#[]⟩ : ByteArray), .int .i64 0, .slice none 0 0, .int .i64 0] 137 ?_; intro pb hg wp hbox hb; replace Ep : Aside0 (∃ op_ : Nat → Prop, PV.ok wp op_ p ∧ ∀ k, op_ k → w.heap.size ≤ k ∧ k ≠ rb ∧ k ≠ tb ∧ k ≠ pb) := ⟨z_78⟩; have Bp := A_0 hbox; have Gp := A_0 (show w.heap.size ≤ pb by rw [hg]; exact keep_size HK.out); replace HK := xk1 HK hb; have hpg := (show pb ≠ g by rw [hg]; exact z_71); have hgp := Ne.symm hpg; replace Bg := xk4 Bg hb; have hpr := (show pb ≠ rb by rw [hg]; exact z_79); have hrp := Ne.symm hpr; replace Br := xk4 Br hb; have hpt := (show pb ≠ tb by rw [hg]; exact z_72); have htp := Ne.symm hpt; replace Bt := xk4 Bt hb; clear hb hbox hg; replace gz := five_ Bg.out; replace rz := sixc Br.out; replace tz := four Bt.out; have pz := sixc Bp.out))
    generalize hq_ : World.setCell _ ⟨pb, 5, none⟩ _ = wb; have e0_ : Aside0 (∃ op_ : Nat → Prop, PV.ok wb op_ p ∧ ∀ k, op_ k → w.heap.size ≤ k ∧ k ≠ rb ∧ k ≠ tb ∧ k ≠ pb) := ⟨z_80⟩; clear Ep; have Ep := e0_; clear e0_; have hq := hq_; clear hq_; replace Bg : Aside0 (wb.heap[g]? = some (b79 A T.length c a1 n1 q1 b1)) := ⟨z_81⟩; replace Br : Aside0 (wb.heap[rb]? = some (.cells #[.int .i64 0, .int .i64 0, .string (⟨#[]⟩ : ByteArray), .int .i64 0, .slice none 0 0, .int .i64 0] 137 (0, 0))) := ⟨z_83⟩; replace Bt : Aside0 (wb.heap[tb]? = some (b58 t0 t1 t2 t3)) := ⟨z_82⟩; replace Bp : Aside0 (wb.heap[pb]? = some (.cells #[.int .i64 p.x.f0, .int .i64 p.x.f1, .string p.x.f2, .int .i64 p.x.f3, .slice p.A p.x.f4.length p.c, .int .i64 p.d] 137 (0, 0))) := ⟨z_84⟩; replace HK : Aside0 (KeepBut w wb g none) := ⟨z_85⟩; clear hq; replace gz := five_ Bg.out; replace rz := sixc Br.out; replace tz := four Bt.out; replace pz := sixc Bp.out
    go_wp2_with fail
    obtain ⟨⟨⟨h0, h1⟩, h2, h3⟩, hcase⟩ := leaveK_some HL.out; clear HL; dsimp only at h0 h1 h2 h3 hcase; rcases hcase with ⟨hq, h⟩ | ⟨hq, rfl⟩
    rotate_left
    · (with_reducible refine (leave_L g A c T a1 n1 q1 b1 _ ⟨#[41]⟩ (⟨Bg.out, Kd.F_keep HT0.out HK.out (fun _ h => h)⟩ : RD _ g A c T _) h0 h1 h2 h3).mono ?_)
      intro e wn hp; unfold leaveP at hp; rw [if_neg (by rw [hq]; simp)] at hp; obtain ⟨rfl, hk⟩ := hp.err; exact z_77
    (with_reducible refine (leave_L g A c T a1 n1 q1 b1 _ ⟨#[41]⟩ (⟨Bg.out, Kd.F_keep HT0.out HK.out (fun _ h => h)⟩ : RD _ g A c T _) h0 h1 h2 h3).mono ?_)
    intro e wn hp; unfold leaveP at hp; rw [if_pos hq] at hp; obtain ⟨rfl, hx, hk⟩ := hp.ok; have HL := A_0 h; clear hp hq h h0 h1 h2 h3; unfold unitV; replace Ep : Aside0 (∃ op_ : Nat → Prop, PV.ok wn op_ p ∧ ∀ k, op_ k → w.heap.size ≤ k ∧ k ≠ rb ∧ k ≠ tb ∧ k ≠ pb) := ⟨z_86⟩; replace Bg : Aside0 (wn.heap[g]? = some (b79 A T.length c (a1 + 1) n1 (q1 - 1) b1)) := ⟨hx.bk⟩; replace Br := xk2 hk Br hrg; replace Bt := xk2 hk Bt htg; replace Bp := xk2 hk Bp hpg; replace HK := xk3 HK hk; clear hk hx; replace gz := five_ Bg.out; replace rz := sixc Br.out; replace tz := four Bt.out; replace pz := sixc Bp.out; have h' := xsi HL.out; clear HL; subst h'
    go_wp2_with fail
    generalize hq_ : World.setCell _ ⟨rb, 5, none⟩ _ = wv; have e0_ : Aside0 (∃ op_ : Nat → Prop, PV.ok wv op_ p ∧ ∀ k, op_ k → w.heap.size ≤ k ∧ k ≠ rb ∧ k ≠ tb ∧ k ≠ pb) := ⟨z_108⟩; clear Ep; have Ep := e0_; clear e0_; have hq := hq_; clear hq_; replace Bg : Aside0 (wv.heap[g]? = some (b79 A T.length c (a1 + 1) n1 (q1 - 1) b1)) := ⟨z_95⟩; replace Br : Aside0 (wv.heap[rb]? = some (.cells #[.int .i64 p.x.f0, .int .i64 p.x.f1, .string p.x.f2, .int .i64 p.x.f3, .slice p.A p.x.f4.length p.c, .int .i64 p.d] 137 (0, 0))) := ⟨z_97⟩; replace Bt : Aside0 (wv.heap[tb]? = some (b58 t0 t1 t2 t3)) := ⟨z_96⟩; replace Bp : Aside0 (wv.heap[pb]? = some (.cells #[.int .i64 p.x.f0, .int .i64 p.x.f1, .string p.x.f2, .int .i64 p.x.f3, .slice p.A p.x.f4.length p.c, .int .i64 p.d] 137 (0, 0))) := ⟨z_98⟩; replace HK : Aside0 (KeepBut w wv g none) := ⟨z_99⟩; clear hq; replace gz := five_ Bg.out; replace rz := sixc Br.out; replace tz := four Bt.out; replace pz := sixc Bp.out; refine bodyPost_ret (v := p.val) (z_107) rfl ?_; obtain ⟨op_, h1, h2⟩ := Ep.out; exact z_109
  | false =>
    have h := HL.out; clear HL; rw [if_neg (by rw [hq0]; simp)] at h; have HL := A_0 h; clear h
    (with_reducible refine (is_L g A c T a n q b _ ⟨#[40]⟩ (⟨Bg.out, Kd.F_keep HT0.out HK.out (fun _ h => h)⟩ : RD _ g A c T _) h0 h1 false (by rw [HTK.out]; exact hq0)).mono ?_)
    rintro e wn ⟨rfl, hb⟩; replace Bg := xk4 Bg hb; replace Br := xk4 Br hb; replace Bt := xk4 Bt hb; replace HK := xk1 HK hb; clear hb; replace gz := five_ Bg.out; replace rz := sixc Br.out; replace tz := four Bt.out
    go_wp2_with fail
    cases hq1 : isB (⟨t0, t1, t2, t3⟩ : S58) ⟨#[109]⟩ with
    | true =>
      have h := HL.out; clear HL; rw [if_pos hq1] at h; have HL := A_0 h; clear h
      (with_reducible refine (is_L g A c T a n q b _ ⟨#[109]⟩ (⟨Bg.out, Kd.F_keep HT0.out HK.out (fun _ h => h)⟩ : RD _ g A c T _) h0 h1 true (by rw [HTK.out]; exact hq1)).mono ?_)
      rintro e wn ⟨rfl, hb⟩; replace Bg := xk4 Bg hb; replace Br := xk4 Br hb; replace Bt := xk4 Bt hb; replace HK := xk1 HK hb; clear hb; replace gz := five_ Bg.out; replace rz := sixc Br.out; replace tz := four Bt.out; go_upto_region 16 with fail; generalize hq_ : World.setCell _ ⟨g, 1, none⟩ _ = wa; have hq := hq_; clear hq_; replace Bg : Aside0 (wa.heap[g]? = some (b79 A T.length c (a + 1) n q b)) := ⟨z_73⟩; replace Br : Aside0 (wa.heap[rb]? = some (.cells #[.int .i64 0, .int .i64 0, .string (⟨#[]⟩ : ByteArray), .int .i64 0, .slice none 0 0, .int .i64 0] 137 (0, 0))) := ⟨z_75⟩; replace Bt : Aside0 (wa.heap[tb]? = some (b58 t0 t1 t2 t3)) := ⟨z_74⟩; replace HK : Aside0 (KeepBut w wa g none) := ⟨z_76⟩; clear hq; replace gz := five_ Bg.out; replace rz := sixc Br.out; replace tz := four Bt.out; clear hwa h0 h1
      go_wp2_with fail
      obtain ⟨⟨h0, h1⟩, hcase⟩ := wantK_some HL.out; clear HL; dsimp only at h0 h1 hcase; rcases hcase with ⟨hq, h⟩ | ⟨hq, rfl⟩
      rotate_left
      · (with_reducible refine (want_L g A c T ((a + 1)) n q b _ ⟨#[91]⟩ (⟨Bg.out, Kd.F_keep HT0.out HK.out (fun _ h => h)⟩ : RD _ g A c T _) h0 h1).mono ?_)
        intro e wn hp; unfold wantP at hp; rw [if_neg (by rw [hq]; simp)] at hp; obtain ⟨rfl, hk⟩ := hp.err; exact z_77
      (with_reducible refine (want_L g A c T ((a + 1)) n q b _ ⟨#[91]⟩ (⟨Bg.out, Kd.F_keep HT0.out HK.out (fun _ h => h)⟩ : RD _ g A c T _) h0 h1).mono ?_)
      intro e wn hp; unfold wantP at hp; rw [if_pos hq] at hp; obtain ⟨rfl, hx, hk⟩ := hp.ok; generalize rd_T58 T ((a + 1)) = o at *; obtain ⟨o0, o1, o2, o3⟩ := o; have HL := A_0 h; clear hp hq h h0 h1; unfold tokV; replace Bg : Aside0 (wn.heap[g]? = some (b79 A T.length c ((a + 1) + 1) n q b)) := ⟨hx.bk⟩; replace Br := xk2 hk Br hrg; replace Bt := xk2 hk Bt htg; replace HK := xk3 HK hk; clear hk hx; replace gz := five_ Bg.out; replace rz := sixc Br.out; replace tz := four Bt.out
      go_wp2_with fail
      obtain ⟨⟨h0, h1⟩, hcase⟩ := enterK_some HL.out; clear HL; dsimp only at h0 h1 hcase; rcases hcase with ⟨hq, h⟩ | ⟨hq, rfl⟩
      rotate_left
      · (with_reducible refine (enter_L g A c T (((a + 1) + 1)) n q b _ o0 o1 o2 o3 (⟨Bg.out, Kd.F_keep HT0.out HK.out (fun _ h => h)⟩ : RD _ g A c T _) h0 h1).mono ?_)
        intro e wn hp; unfold enterP at hp; rw [if_pos hq] at hp; obtain ⟨rfl, hk⟩ := hp.err; exact z_77
      (with_reducible refine (enter_L g A c T (((a + 1) + 1)) n q b _ o0 o1 o2 o3 (⟨Bg.out, Kd.F_keep HT0.out HK.out (fun _ h => h)⟩ : RD _ g A c T _) h0 h1).mono ?_)
      intro e wn hp; unfold enterP at hp; rw [if_neg hq] at hp; obtain ⟨rfl, hx, hk⟩ := hp.ok; have HL := A_0 h; clear hp hq h h0 h1; unfold unitV; replace Bg : Aside0 (wn.heap[g]? = some (b79 A T.length c ((a + 1) + 1) n (q + 1) b)) := ⟨hx.bk⟩; replace Br := xk2 hk Br hrg; replace Bt := xk2 hk Bt htg; replace HK := xk3 HK hk; clear hk hx; replace gz := five_ Bg.out; replace rz := sixc Br.out; replace tz := four Bt.out
      go_wp2_with fail
      have HSZ := A_0 (show w.heap.size ≤ wn.heap.size ∧ rb < wn.heap.size ∧ tb < wn.heap.size from ⟨keep_size HK.out, blk_lt Br.out, blk_lt Bt.out⟩); rcases exK_some HL.out with ⟨er, at_, hab, rfl⟩ | ⟨p0, s1, hab, h⟩
      · (with_reducible refine (AC.out.use 1 ⟨((a + 1) + 1), n, (q + 1), b⟩ (.error (er, at_)) g A c _ hab (⟨Bg.out, Kd.F_keep HT0.out HK.out (fun _ h => h)⟩ : RD _ g A c T _)).mono ?_)
        intro e wn hp; obtain ⟨rfl, hk⟩ := PPartO.err hp; exact z_77
      (with_reducible refine (AC.out.use 1 ⟨((a + 1) + 1), n, (q + 1), b⟩ (.ok (p0, s1)) g A c _ hab (⟨Bg.out, Kd.F_keep HT0.out HK.out (fun _ h => h)⟩ : RD _ g A c T _)).mono ?_)
      intro e wn hp; obtain ⟨p, rfl, hpx, hpo, hx, hk⟩ := PPartO.ok hp; clear hp hab HL; subst hpx; have HL := A_0 h; clear h; obtain ⟨a1, n1, q1, b1⟩ := s1; unfold PV.val; replace Bg : Aside0 (wn.heap[g]? = some (b79 A T.length c a1 n1 q1 b1)) := ⟨hx.bk⟩; replace Br := xk2 hk Br hrg; replace Bt := xk2 hk Bt htg; replace HK := xk3 HK hk; clear gz rz tz hk hx; have gz := five_ Bg.out; have rz := sixc Br.out; have tz := four Bt.out; have Ep : Aside0 (∃ op_ : Nat → Prop, PV.ok wn op_ p ∧ ∀ k, op_ k → w.heap.size ≤ k ∧ k ≠ rb ∧ k ≠ tb) := ⟨⟨_, hpo, fun k hk => by have := hk.1; have := HSZ.out; omega⟩⟩
      clear HSZ hpo; go_upto_region 18 with (first | ((with_reducible refine gate_dst (N := 5) rfl ?_); refine bx #[.int .i64 0, .int .i64 0, .string (⟨#[]⟩ : ByteArray), .int .i64 0, .slice none 0 0, .int .i64 0] 137 ?_; intro pb hg wp hbox hb; replace Ep : Aside0 (∃ op_ : Nat → Prop, PV.ok wp op_ p ∧ ∀ k, op_ k → w.heap.size ≤ k ∧ k ≠ rb ∧ k ≠ tb ∧ k ≠ pb) := ⟨z_78⟩; have Bp := A_0 hbox; have Gp := A_0 (show w.heap.size ≤ pb by rw [hg]; exact keep_size HK.out); replace HK := xk1 HK hb; have hpg := (show pb ≠ g by rw [hg]; exact z_71); have hgp := Ne.symm hpg; replace Bg := xk4 Bg hb; have hpr := (show pb ≠ rb by rw [hg]; exact z_79); have hrp := Ne.symm hpr; replace Br := xk4 Br hb; have hpt := (show pb ≠ tb by rw [hg]; exact z_72); have htp := Ne.symm hpt; replace Bt := xk4 Bt hb; clear hb hbox hg; replace gz := five_ Bg.out; replace rz := sixc Br.out; replace tz := four Bt.out; have pz := sixc Bp.out))
      generalize hq_ : World.setCell _ ⟨pb, 5, none⟩ _ = wb; have e0_ : Aside0 (∃ op_ : Nat → Prop, PV.ok wb op_ p ∧ ∀ k, op_ k → w.heap.size ≤ k ∧ k ≠ rb ∧ k ≠ tb ∧ k ≠ pb) := ⟨z_80⟩; clear Ep; have Ep := e0_; clear e0_; have hq := hq_; clear hq_; replace Bg : Aside0 (wb.heap[g]? = some (b79 A T.length c a1 n1 q1 b1)) := ⟨z_81⟩; replace Br : Aside0 (wb.heap[rb]? = some (.cells #[.int .i64 0, .int .i64 0, .string (⟨#[]⟩ : ByteArray), .int .i64 0, .slice none 0 0, .int .i64 0] 137 (0, 0))) := ⟨z_83⟩; replace Bt : Aside0 (wb.heap[tb]? = some (b58 t0 t1 t2 t3)) := ⟨z_82⟩; replace Bp : Aside0 (wb.heap[pb]? = some (.cells #[.int .i64 p.x.f0, .int .i64 p.x.f1, .string p.x.f2, .int .i64 p.x.f3, .slice p.A p.x.f4.length p.c, .int .i64 p.d] 137 (0, 0))) := ⟨z_84⟩; replace HK : Aside0 (KeepBut w wb g none) := ⟨z_85⟩; clear hq; replace gz := five_ Bg.out; replace rz := sixc Br.out; replace tz := four Bt.out; replace pz := sixc Bp.out
      go_wp2_with fail
      obtain ⟨⟨⟨h0, h1⟩, h2, h3⟩, hcase⟩ := leaveK_some HL.out; clear HL; dsimp only at h0 h1 h2 h3 hcase; rcases hcase with ⟨hq, h⟩ | ⟨hq, rfl⟩
      rotate_left
      · (with_reducible refine (leave_L g A c T a1 n1 q1 b1 _ ⟨#[93]⟩ (⟨Bg.out, Kd.F_keep HT0.out HK.out (fun _ h => h)⟩ : RD _ g A c T _) h0 h1 h2 h3).mono ?_)
        intro e wn hp; unfold leaveP at hp; rw [if_neg (by rw [hq]; simp)] at hp; obtain ⟨rfl, hk⟩ := hp.err; exact z_77
      (with_reducible refine (leave_L g A c T a1 n1 q1 b1 _ ⟨#[93]⟩ (⟨Bg.out, Kd.F_keep HT0.out HK.out (fun _ h => h)⟩ : RD _ g A c T _) h0 h1 h2 h3).mono ?_)
      intro e wn hp; unfold leaveP at hp; rw [if_pos hq] at hp; obtain ⟨rfl, hx, hk⟩ := hp.ok; have HL := A_0 h; clear hp hq h h0 h1 h2 h3; unfold unitV; replace Ep : Aside0 (∃ op_ : Nat → Prop, PV.ok wn op_ p ∧ ∀ k, op_ k → w.heap.size ≤ k ∧ k ≠ rb ∧ k ≠ tb ∧ k ≠ pb) := ⟨z_86⟩; replace Bg : Aside0 (wn.heap[g]? = some (b79 A T.length c (a1 + 1) n1 (q1 - 1) b1)) := ⟨hx.bk⟩; replace Br := xk2 hk Br hrg; replace Bt := xk2 hk Bt htg; replace Bp := xk2 hk Bp hpg; replace HK := xk3 HK hk; clear hk hx; replace gz := five_ Bg.out; replace rz := sixc Br.out; replace tz := four Bt.out; replace pz := sixc Bp.out
      go_wp2_with fail
      generalize hqa : World.alloc wn _ = wz; have hb : Below wn.heap.size wn wz := z_91; have HPR := A_0 (show PRow wz (some ⟨wn.heap.size, 0, none⟩) [p] from PRow.one (by rw [← hqa]; exact blk_new _ _)); clear hqa; replace Ep : Aside0 (∃ op_ : Nat → Prop, PV.ok wz op_ p ∧ ∀ k, op_ k → w.heap.size ≤ k ∧ k ≠ rb ∧ k ≠ tb ∧ k ≠ pb) := ⟨z_92⟩; replace Bg := xk4 Bg hb; replace Br := xk4 Br hb; replace Bt := xk4 Bt hb; replace Bp := xk4 Bp hb; replace HK := xk1 HK hb; clear hb; replace gz := five_ Bg.out; replace rz := sixc Br.out; replace tz := four Bt.out; replace pz := sixc Bp.out; have HSZ := A_0 (show w.heap.size ≤ wz.heap.size ∧ rb < wz.heap.size ∧ tb < wz.heap.size ∧ pb < wz.heap.size from ⟨keep_size HK.out, blk_lt Br.out, blk_lt Bt.out, blk_lt Bp.out⟩); obtain ⟨⟨hm0, hm1⟩, hdd, h⟩ := nodeK_some HL.out; clear HL; dsimp only at hm0 hm1 hdd h; obtain ⟨o0, hp0, hc0⟩ := Ep.out; have HCC := A_0 (show (∀ k, o0 k → w.heap.size ≤ k ∧ k ≠ rb ∧ k ≠ tb ∧ k ≠ pb) from hc0)
      have hN := node_L (fun k => o0 k) g A c T ((a1 + 1)) n1 ((q1 - 1)) b1 _ t0 t1 t2 t3 3 0 ⟨#[]⟩ 0 (some ⟨wn.heap.size, 0, none⟩) 1 1 [p] (⟨Bg.out, Kd.F_keep HT0.out HK.out (fun _ h => h)⟩ : RD _ g A c T _) hm0 hm1 rfl (by simp) HPR.out (fun k hk => by have := HLT.out; have := hc0 k hk; omega) (fun z hz => by
        rcases List.mem_cons.1 hz with e | e
        · subst e; exact ⟨hp0, (hdd _ (List.mem_cons_self ..))⟩
        · cases e)
      rw [nodeQ_eq, show ([p]).map PV.pr = [(p.x, p.d)] from rfl] at hN; rw [h] at hN; clear Ep hp0 hc0 HPR; have HN := A_0 hN; clear hN h hdd hm0 hm1; rcases r with ⟨er, at_⟩ | ⟨p3, s3⟩
      · (with_reducible refine HN.out.mono ?_)
        intro e wn hp; obtain ⟨rfl, hk⟩ := PPartO.err hp; exact z_77
      (with_reducible refine HN.out.mono ?_)
      intro e wn hp; obtain ⟨z, rfl, hpz, hpo, hx, hk⟩ := PPartO.ok hp; clear hp HN; obtain ⟨a9, n9, q9, b9⟩ := s3; unfold PV.val; replace Bg : Aside0 (wn.heap[g]? = some (b79 A T.length c a9 n9 q9 b9)) := ⟨hx.bk⟩; replace Br := xk2 hk Br hrg; replace Bt := xk2 hk Bt htg; replace Bp := xk2 hk Bp hpg; replace HK := xk3 HK hk; clear hk hx; replace gz := five_ Bg.out; replace rz := sixc Br.out; replace tz := four Bt.out; replace pz := sixc Bp.out
      have Ez : Aside0 (∃ op_ : Nat → Prop, PV.ok wn op_ z ∧ ∀ k, op_ k → w.heap.size ≤ k ∧ k ≠ rb ∧ k ≠ tb ∧ k ≠ pb) := ⟨⟨_, hpo, fun k hk => by
          have := HSZ.out; rcases hk with hk | hk
          · exact HCC.out k hk
          · have := hk.1; omega⟩⟩
      clear HSZ hpo HCC
      go_wp2_with fail
      generalize hq_ : World.setCell _ ⟨rb, 5, none⟩ _ = wv; have e0_ : Aside0 (∃ op_ : Nat → Prop, PV.ok wv op_ z ∧ ∀ k, op_ k → w.heap.size ≤ k ∧ k ≠ rb ∧ k ≠ tb ∧ k ≠ pb) := ⟨z_94⟩; clear Ez; have Ez := e0_; clear e0_; have hq := hq_; clear hq_; replace Bg : Aside0 (wv.heap[g]? = some (b79 A T.length c a9 n9 q9 b9)) := ⟨z_95⟩; replace Br : Aside0 (wv.heap[rb]? = some (.cells #[.int .i64 z.x.f0, .int .i64 z.x.f1, .string z.x.f2, .int .i64 z.x.f3, .slice z.A z.x.f4.length z.c, .int .i64 z.d] 137 (0, 0))) := ⟨z_97⟩; replace Bt : Aside0 (wv.heap[tb]? = some (b58 t0 t1 t2 t3)) := ⟨z_96⟩; replace Bp : Aside0 (wv.heap[pb]? = some (.cells #[.int .i64 p.x.f0, .int .i64 p.x.f1, .string p.x.f2, .int .i64 p.x.f3, .slice p.A p.x.f4.length p.c, .int .i64 p.d] 137 (0, 0))) := ⟨z_98⟩; replace HK : Aside0 (KeepBut w wv g none) := ⟨z_99⟩; clear hq; replace gz := five_ Bg.out; replace rz := sixc Br.out; replace tz := four Bt.out; replace pz := sixc Bp.out; refine bodyPost_ret (v := z.val) (z_107) rfl ?_; obtain ⟨op_, h1, h2⟩ := Ez.out; exact z_100
    | false =>
      have h := HL.out; clear HL; rw [if_neg (by rw [hq1]; simp)] at h; have HL := A_0 h; clear h
      (with_reducible refine (is_L g A c T a n q b _ ⟨#[109]⟩ (⟨Bg.out, Kd.F_keep HT0.out HK.out (fun _ h => h)⟩ : RD _ g A c T _) h0 h1 false (by rw [HTK.out]; exact hq1)).mono ?_)
      rintro e wn ⟨rfl, hb⟩; replace Bg := xk4 Bg hb; replace Br := xk4 Br hb; replace Bt := xk4 Bt hb; replace HK := xk1 HK hb; clear hb; replace gz := five_ Bg.out; replace rz := sixc Br.out; replace tz := four Bt.out
      go_wp2_with fail
      cases hq2 : isB (⟨t0, t1, t2, t3⟩ : S58) ⟨#[109, 105, 110]⟩ with
      | true =>
        have h := HL.out; clear HL; rw [if_pos hq2] at h; have HL := A_0 h; clear h
        (with_reducible refine (is_L g A c T a n q b _ ⟨#[109, 105, 110]⟩ (⟨Bg.out, Kd.F_keep HT0.out HK.out (fun _ h => h)⟩ : RD _ g A c T _) h0 h1 true (by rw [HTK.out]; exact hq2)).mono ?_)
        rintro e wn ⟨rfl, hb⟩; replace Bg := xk4 Bg hb; replace Br := xk4 Br hb; replace Bt := xk4 Bt hb; replace HK := xk1 HK hb; clear hb; replace gz := five_ Bg.out; replace rz := sixc Br.out; replace tz := four Bt.out
        go_wp2_with fail
        have HSZ := A_0 (show w.heap.size ≤ wn.heap.size ∧ rb < wn.heap.size ∧ tb < wn.heap.size from ⟨keep_size HK.out, blk_lt Br.out, blk_lt Bt.out⟩)
        (with_reducible refine (call_L T ab AC.out t0 t1 t2 t3 17 a n q b r g A c _ HL.out (⟨Bg.out, Kd.F_keep HT0.out HK.out (fun _ h => h)⟩ : RD _ g A c T _)).mono ?_)
        intro e wm hp; rcases r with ⟨er, at_⟩ | ⟨p3, s3⟩
        · obtain ⟨rfl, hk⟩ := PPartO.err hp
          exact z_77
        obtain ⟨z, rfl, hpz, hpo, hx, hk⟩ := PPartO.ok hp; clear hp HL; obtain ⟨a9, n9, q9, b9⟩ := s3; unfold PV.val
        skip
        replace Bg : Aside0 (wm.heap[g]? = some (b79 A T.length c a9 n9 q9 b9)) := ⟨hx.bk⟩; replace Br := xk2 hk Br hrg; replace Bt := xk2 hk Bt htg; replace HK := xk3 HK hk; clear gz rz tz hk hx; have gz := five_ Bg.out; have rz := sixc Br.out; have tz := four Bt.out; have Ez : Aside0 (∃ op_ : Nat → Prop, PV.ok wm op_ z ∧ ∀ k, op_ k → w.heap.size ≤ k ∧ k ≠ rb ∧ k ≠ tb) := ⟨⟨_, hpo, fun k hk => by have := hk.1; have := HSZ.out; omega⟩⟩
        clear HSZ hpo
        go_wp2_with fail
        generalize hq_ : World.setCell _ ⟨rb, 5, none⟩ _ = wv; have e0_ : Aside0 (∃ op_ : Nat → Prop, PV.ok wv op_ z ∧ ∀ k, op_ k → w.heap.size ≤ k ∧ k ≠ rb ∧ k ≠ tb) := ⟨z_94⟩; clear Ez; have Ez := e0_; clear e0_; have hq := hq_; clear hq_; replace Bg : Aside0 (wv.heap[g]? = some (b79 A T.length c a9 n9 q9 b9)) := ⟨z_95⟩; replace Br : Aside0 (wv.heap[rb]? = some (.cells #[.int .i64 z.x.f0, .int .i64 z.x.f1, .string z.x.f2, .int .i64 z.x.f3, .slice z.A z.x.f4.length z.c, .int .i64 z.d] 137 (0, 0))) := ⟨z_97⟩; replace Bt : Aside0 (wv.heap[tb]? = some (b58 t0 t1 t2 t3)) := ⟨z_96⟩; replace HK : Aside0 (KeepBut w wv g none) := ⟨z_99⟩; clear hq; replace gz := five_ Bg.out; replace rz := sixc Br.out; replace tz := four Bt.out; refine bodyPost_ret (v := z.val) (z_107) rfl ?_; obtain ⟨op_, h1, h2⟩ := Ez.out; exact z_100
      | false =>
        have h := HL.out; clear HL; rw [if_neg (by rw [hq2]; simp)] at h; have HL := A_0 h; clear h
        (with_reducible refine (is_L g A c T a n q b _ ⟨#[109, 105, 110]⟩ (⟨Bg.out, Kd.F_keep HT0.out HK.out (fun _ h => h)⟩ : RD _ g A c T _) h0 h1 false (by rw [HTK.out]; exact hq2)).mono ?_)
        rintro e wn ⟨rfl, hb⟩; replace Bg := xk4 Bg hb; replace Br := xk4 Br hb; replace Bt := xk4 Bt hb; replace HK := xk1 HK hb; clear hb; replace gz := five_ Bg.out; replace rz := sixc Br.out; replace tz := four Bt.out
        go_wp2_with fail
        cases hq3 : isB (⟨t0, t1, t2, t3⟩ : S58) ⟨#[109, 97, 120]⟩ with
        | true =>
          have h := HL.out; clear HL; rw [if_pos hq3] at h; have HL := A_0 h; clear h
          (with_reducible refine (is_L g A c T a n q b _ ⟨#[109, 97, 120]⟩ (⟨Bg.out, Kd.F_keep HT0.out HK.out (fun _ h => h)⟩ : RD _ g A c T _) h0 h1 true (by rw [HTK.out]; exact hq3)).mono ?_)
          rintro e wn ⟨rfl, hb⟩; replace Bg := xk4 Bg hb; replace Br := xk4 Br hb; replace Bt := xk4 Bt hb; replace HK := xk1 HK hb; clear hb; replace gz := five_ Bg.out; replace rz := sixc Br.out; replace tz := four Bt.out
          go_wp2_with fail
          have HSZ := A_0 (show w.heap.size ≤ wn.heap.size ∧ rb < wn.heap.size ∧ tb < wn.heap.size from ⟨keep_size HK.out, blk_lt Br.out, blk_lt Bt.out⟩)
          (with_reducible refine (call_L T ab AC.out t0 t1 t2 t3 18 a n q b r g A c _ HL.out (⟨Bg.out, Kd.F_keep HT0.out HK.out (fun _ h => h)⟩ : RD _ g A c T _)).mono ?_)
          intro e wm hp; rcases r with ⟨er, at_⟩ | ⟨p3, s3⟩
          · obtain ⟨rfl, hk⟩ := PPartO.err hp
            exact z_77
          obtain ⟨z, rfl, hpz, hpo, hx, hk⟩ := PPartO.ok hp; clear hp HL; obtain ⟨a9, n9, q9, b9⟩ := s3; unfold PV.val
          skip
          replace Bg : Aside0 (wm.heap[g]? = some (b79 A T.length c a9 n9 q9 b9)) := ⟨hx.bk⟩; replace Br := xk2 hk Br hrg; replace Bt := xk2 hk Bt htg; replace HK := xk3 HK hk; clear gz rz tz hk hx; have gz := five_ Bg.out; have rz := sixc Br.out; have tz := four Bt.out; have Ez : Aside0 (∃ op_ : Nat → Prop, PV.ok wm op_ z ∧ ∀ k, op_ k → w.heap.size ≤ k ∧ k ≠ rb ∧ k ≠ tb) := ⟨⟨_, hpo, fun k hk => by have := hk.1; have := HSZ.out; omega⟩⟩
          clear HSZ hpo
          go_wp2_with fail
          generalize hq_ : World.setCell _ ⟨rb, 5, none⟩ _ = wv; have e0_ : Aside0 (∃ op_ : Nat → Prop, PV.ok wv op_ z ∧ ∀ k, op_ k → w.heap.size ≤ k ∧ k ≠ rb ∧ k ≠ tb) := ⟨z_94⟩; clear Ez; have Ez := e0_; clear e0_; have hq := hq_; clear hq_; replace Bg : Aside0 (wv.heap[g]? = some (b79 A T.length c a9 n9 q9 b9)) := ⟨z_95⟩; replace Br : Aside0 (wv.heap[rb]? = some (.cells #[.int .i64 z.x.f0, .int .i64 z.x.f1, .string z.x.f2, .int .i64 z.x.f3, .slice z.A z.x.f4.length z.c, .int .i64 z.d] 137 (0, 0))) := ⟨z_97⟩; replace Bt : Aside0 (wv.heap[tb]? = some (b58 t0 t1 t2 t3)) := ⟨z_96⟩; replace HK : Aside0 (KeepBut w wv g none) := ⟨z_99⟩; clear hq; replace gz := five_ Bg.out; replace rz := sixc Br.out; replace tz := four Bt.out; refine bodyPost_ret (v := z.val) (z_107) rfl ?_; obtain ⟨op_, h1, h2⟩ := Ez.out; exact z_100
        | false =>
          have h := HL.out; clear HL; rw [if_neg (by rw [hq3]; simp)] at h; have HL := A_0 h; clear h
          (with_reducible refine (is_L g A c T a n q b _ ⟨#[109, 97, 120]⟩ (⟨Bg.out, Kd.F_keep HT0.out HK.out (fun _ h => h)⟩ : RD _ g A c T _) h0 h1 false (by rw [HTK.out]; exact hq3)).mono ?_)
          rintro e wn ⟨rfl, hb⟩; replace Bg := xk4 Bg hb; replace Br := xk4 Br hb; replace Bt := xk4 Bt hb; replace HK := xk1 HK hb; clear hb; replace gz := five_ Bg.out; replace rz := sixc Br.out; replace tz := four Bt.out
          go_wp2_with fail
          go_wp2_with fail
          have HSZ := A_0 (show w.heap.size ≤ wn.heap.size ∧ rb < wn.heap.size ∧ tb < wn.heap.size from ⟨keep_size HK.out, blk_lt Br.out, blk_lt Bt.out⟩)
          (with_reducible refine (signed_L T on OC.out t0 t1 t2 t3 a n q b r g A c _ HTK.out HL.out (⟨Bg.out, Kd.F_keep HT0.out HK.out (fun _ h => h)⟩ : RD _ g A c T _)).mono ?_)
          intro e wm hp; rcases r with ⟨er, at_⟩ | ⟨p3, s3⟩
          · obtain ⟨rfl, hk⟩ := PPartO.err hp
            exact z_77
          obtain ⟨z, rfl, hpz, hpo, hx, hk⟩ := PPartO.ok hp; clear hp HL; obtain ⟨a9, n9, q9, b9⟩ := s3; unfold PV.val
          skip
          replace Bg : Aside0 (wm.heap[g]? = some (b79 A T.length c a9 n9 q9 b9)) := ⟨hx.bk⟩; replace Br := xk2 hk Br hrg; replace Bt := xk2 hk Bt htg; replace HK := xk3 HK hk; clear gz rz tz hk hx; have gz := five_ Bg.out; have rz := sixc Br.out; have tz := four Bt.out; have Ez : Aside0 (∃ op_ : Nat → Prop, PV.ok wm op_ z ∧ ∀ k, op_ k → w.heap.size ≤ k ∧ k ≠ rb ∧ k ≠ tb) := ⟨⟨_, hpo, fun k hk => by have := hk.1; have := HSZ.out; omega⟩⟩
          clear HSZ hpo
          go_wp2_with fail
          generalize hq_ : World.setCell _ ⟨rb, 5, none⟩ _ = wv; have e0_ : Aside0 (∃ op_ : Nat → Prop, PV.ok wv op_ z ∧ ∀ k, op_ k → w.heap.size ≤ k ∧ k ≠ rb ∧ k ≠ tb) := ⟨z_94⟩; clear Ez; have Ez := e0_; clear e0_; have hq := hq_; clear hq_; replace Bg : Aside0 (wv.heap[g]? = some (b79 A T.length c a9 n9 q9 b9)) := ⟨z_95⟩; replace Br : Aside0 (wv.heap[rb]? = some (.cells #[.int .i64 z.x.f0, .int .i64 z.x.f1, .string z.x.f2, .int .i64 z.x.f3, .slice z.A z.x.f4.length z.c, .int .i64 z.d] 137 (0, 0))) := ⟨z_97⟩; replace Bt : Aside0 (wv.heap[tb]? = some (b58 t0 t1 t2 t3)) := ⟨z_96⟩; replace HK : Aside0 (KeepBut w wv g none) := ⟨z_99⟩; clear hq; replace gz := five_ Bg.out; replace rz := sixc Br.out; replace tz := four Bt.out; refine bodyPost_ret (v := z.val) (z_107) rfl ?_; obtain ⟨op_, h1, h2⟩ := Ez.out; exact z_100
def testS (T : List S58) (ab : Int → PSt → Option Res) (s : PSt) : Option Res :=
 wantK T s ⟨#[40]⟩ fun o s1 => enterK s1 o.f3 fun s2 => exK (ab 1 s2) fun p s3 => leaveK T s3 ⟨#[41]⟩ fun s4 => some (.ok (p, s4))
theorem test_L (T : List S58) (ab : Int → PSt → Option Res) (AC0 : AboC T ab) (a n q b : Int) (r : Res) (g : Nat) (A : Option Addr) (c : Nat) (w : World) (h : testS T ab ⟨a, n, q, b⟩ = some r) (hrd : RD w g A c T ⟨a, n, q, b⟩) :
  Calls Try.prog 108 #[.pointer (some ⟨g, 0, none⟩)] w (PExp w g A c T r) := by
 have AC := A_0 AC0; clear AC0; unfold testS at h; have HL := A_0 h; clear h; have HT0 := A_0 hrd.tk; have hmx := hrd.max; have Bg : Aside0 (w.heap[g]? = some (b79 A T.length c a n q b)) := ⟨hrd.bk⟩; have HK := A_0 (KeepBut.refl w g none); have HLT := A_0 hrd.lt; clear hrd; have gz := five_ Bg.out
 go_enter Try.func108, Try.ntmps108
 go_wp2_with (first | ((with_reducible refine gate_dst (N := 2) rfl ?_); refine bx (a38 0 0 ⟨#[]⟩ 0 none 0 0) 38 ?_; intro rb hg wr hbox hb; have Br := A_0 hbox; have Gr := A_0 (show w.heap.size ≤ rb by rw [hg]; exact keep_size HK.out); replace HK := xk1 HK hb; have hrg := (show rb ≠ g by rw [hg]; exact z_71); have hgr := Ne.symm hrg; replace Bg := xk4 Bg hb; clear hb hbox hg; replace gz := five_ Bg.out; have rz := five_ Br.out))
 obtain ⟨⟨h0, h1⟩, hcase⟩ := wantK_some HL.out; clear HL; dsimp only at h0 h1 hcase; rcases hcase with ⟨hq, h⟩ | ⟨hq, rfl⟩
 rotate_left
 ·(with_reducible refine (want_L g A c T a n q b _ ⟨#[40]⟩ (⟨Bg.out, Kd.F_keep HT0.out HK.out (fun _ h => h)⟩ : RD _ g A c T _) h0 h1).mono ?_)
  intro e wn hp; unfold wantP at hp; rw [if_neg (by rw [hq]; simp)] at hp; obtain ⟨rfl, hk⟩ := hp.err; exact z_77
 (with_reducible refine (want_L g A c T a n q b _ ⟨#[40]⟩ (⟨Bg.out, Kd.F_keep HT0.out HK.out (fun _ h => h)⟩ : RD _ g A c T _) h0 h1).mono ?_)
 intro e wn hp; unfold wantP at hp; rw [if_pos hq] at hp; obtain ⟨rfl, hx, hk⟩ := hp.ok; generalize rd_T58 T a = o at *; obtain ⟨o0, o1, o2, o3⟩ := o; have HL := A_0 h; clear hp hq h h0 h1; unfold tokV; replace Bg : Aside0 (wn.heap[g]? = some (b79 A T.length c (a + 1) n q b)) := ⟨hx.bk⟩; replace Br := xk2 hk Br hrg; replace HK := xk3 HK hk; clear hk hx; replace gz := five_ Bg.out; replace rz := five_ Br.out
 go_wp2_with fail
 obtain ⟨⟨h0, h1⟩, hcase⟩ := enterK_some HL.out; clear HL; dsimp only at h0 h1 hcase; rcases hcase with ⟨hq, h⟩ | ⟨hq, rfl⟩
 rotate_left
 ·(with_reducible refine (enter_L g A c T ((a + 1)) n q b _ o0 o1 o2 o3 (⟨Bg.out, Kd.F_keep HT0.out HK.out (fun _ h => h)⟩ : RD _ g A c T _) h0 h1).mono ?_)
  intro e wn hp; unfold enterP at hp; rw [if_pos hq] at hp; obtain ⟨rfl, hk⟩ := hp.err; exact z_77
 (with_reducible refine (enter_L g A c T ((a + 1)) n q b _ o0 o1 o2 o3 (⟨Bg.out, Kd.F_keep HT0.out HK.out (fun _ h => h)⟩ : RD _ g A c T _) h0 h1).mono ?_)
 intro e wn hp; unfold enterP at hp; rw [if_neg hq] at hp; obtain ⟨rfl, hx, hk⟩ := hp.ok; have HL := A_0 h; clear hp hq h h0 h1; unfold unitV; replace Bg : Aside0 (wn.heap[g]? = some (b79 A T.length c (a + 1) n (q + 1) b)) := ⟨hx.bk⟩; replace Br := xk2 hk Br hrg; replace HK := xk3 HK hk; clear hk hx; replace gz := five_ Bg.out; replace rz := five_ Br.out
 go_wp2_with fail
 have HSZ := A_0 (show w.heap.size ≤ wn.heap.size ∧ rb < wn.heap.size from ⟨keep_size HK.out, blk_lt Br.out⟩); rcases exK_some HL.out with ⟨er, at_, hab, rfl⟩ | ⟨p0, s1, hab, h⟩
 ·(with_reducible refine (expr_L T ab AC.out ((a + 1)) n ((q + 1)) b (.error (er, at_)) g A c _ hab (⟨Bg.out, Kd.F_keep HT0.out HK.out (fun _ h => h)⟩ : RD _ g A c T _)).mono ?_)
  intro e wn hp; obtain ⟨rfl, hk⟩ := PExp.err hp; exact z_77
 (with_reducible refine (expr_L T ab AC.out ((a + 1)) n ((q + 1)) b (.ok (p0, s1)) g A c _ hab (⟨Bg.out, Kd.F_keep HT0.out HK.out (fun _ h => h)⟩ : RD _ g A c T _)).mono ?_)
 intro e wn hp; obtain ⟨p, rfl, hpx, hpo, hx, hk⟩ := PExp.ok hp; clear hp hab HL; subst hpx; have HL := A_0 h; clear h; obtain ⟨a1, n1, q1, b1⟩ := s1; unfold PV.eval; replace Bg : Aside0 (wn.heap[g]? = some (b79 A T.length c a1 n1 q1 b1)) := ⟨hx.bk⟩; replace Br := xk2 hk Br hrg; replace HK := xk3 HK hk; clear gz rz hk hx; have gz := five_ Bg.out; have rz := five_ Br.out; have Ep : Aside0 (∃ op_ : Nat → Prop, PV.ok wn op_ p ∧ ∀ k, op_ k → w.heap.size ≤ k ∧ k ≠ rb) := ⟨⟨_, hpo, fun k hk => by have := hk.1; have := HSZ.out; omega⟩⟩
 clear HSZ hpo; go_upto_region 3 with (first | ((with_reducible refine gate_dst (N := 3) rfl ?_); refine bx (a38 0 0 ⟨#[]⟩ 0 none 0 0) 38 ?_; intro pb hg wp hbox hb; replace Ep : Aside0 (∃ op_ : Nat → Prop, PV.ok wp op_ p ∧ ∀ k, op_ k → w.heap.size ≤ k ∧ k ≠ rb ∧ k ≠ pb) := ⟨z_78⟩; have Bp := A_0 hbox; have Gp := A_0 (show w.heap.size ≤ pb by rw [hg]; exact keep_size HK.out); replace HK := xk1 HK hb; have hpg := (show pb ≠ g by rw [hg]; exact z_71); have hgp := Ne.symm hpg; replace Bg := xk4 Bg hb; have hpr := (show pb ≠ rb by rw [hg]; exact z_79); have hrp := Ne.symm hpr; replace Br := xk4 Br hb; clear hb hbox hg; replace gz := five_ Bg.out; replace rz := five_ Br.out; have pz := five_ Bp.out))
 generalize hq_ : World.setCell _ ⟨pb, 4, none⟩ _ = wb; have e0_ : Aside0 (∃ op_ : Nat → Prop, PV.ok wb op_ p ∧ ∀ k, op_ k → w.heap.size ≤ k ∧ k ≠ rb ∧ k ≠ pb) := ⟨z_110⟩; clear Ep; have Ep := e0_; clear e0_; have hq := hq_; clear hq_; replace Bg : Aside0 (wb.heap[g]? = some (b79 A T.length c a1 n1 q1 b1)) := ⟨by rw [← hq]; refine bf5 ?_ hgp; exact Bg.out⟩; replace Br : Aside0 (wb.heap[rb]? = some (b38 0 0 ⟨#[]⟩ 0 none 0 0)) := ⟨by rw [← hq]; refine bf5 ?_ hrp; exact Br.out⟩; replace Bp : Aside0 (wb.heap[pb]? = some (b38 p.x.f0 p.x.f1 p.x.f2 p.x.f3 p.A p.x.f4.length p.c)) := ⟨by rw [← hq]; apply p5_4; apply p5_3; apply p5_2; apply p5_1; apply p5_0; exact Bp.out⟩; replace HK : Aside0 (KeepBut w wb g none) := ⟨by rw [← hq]; refine kf5 ?_ Gp.out; exact HK.out⟩; clear hq; replace gz := five_ Bg.out; replace rz := five_ Br.out; replace pz := five_ Bp.out
 go_wp2_with fail
 obtain ⟨⟨⟨h0, h1⟩, h2, h3⟩, hcase⟩ := leaveK_some HL.out; clear HL; dsimp only at h0 h1 h2 h3 hcase; rcases hcase with ⟨hq, h⟩ | ⟨hq, rfl⟩
 rotate_left
 ·(with_reducible refine (leave_L g A c T a1 n1 q1 b1 _ ⟨#[41]⟩ (⟨Bg.out, Kd.F_keep HT0.out HK.out (fun _ h => h)⟩ : RD _ g A c T _) h0 h1 h2 h3).mono ?_)
  intro e wn hp; unfold leaveP at hp; rw [if_neg (by rw [hq]; simp)] at hp; obtain ⟨rfl, hk⟩ := hp.err; exact z_77
 (with_reducible refine (leave_L g A c T a1 n1 q1 b1 _ ⟨#[41]⟩ (⟨Bg.out, Kd.F_keep HT0.out HK.out (fun _ h => h)⟩ : RD _ g A c T _) h0 h1 h2 h3).mono ?_)
 intro e wn hp; unfold leaveP at hp; rw [if_pos hq] at hp; obtain ⟨rfl, hx, hk⟩ := hp.ok; have HL := A_0 h; clear hp hq h h0 h1 h2 h3; unfold unitV; replace Ep : Aside0 (∃ op_ : Nat → Prop, PV.ok wn op_ p ∧ ∀ k, op_ k → w.heap.size ≤ k ∧ k ≠ rb ∧ k ≠ pb) := ⟨z_86⟩; replace Bg : Aside0 (wn.heap[g]? = some (b79 A T.length c (a1 + 1) n1 (q1 - 1) b1)) := ⟨hx.bk⟩; replace Br := xk2 hk Br hrg; replace Bp := xk2 hk Bp hpg; replace HK := xk3 HK hk; clear hk hx; replace gz := five_ Bg.out; replace rz := five_ Br.out; replace pz := five_ Bp.out; have h' := xsi HL.out; clear HL; subst h'
 go_wp2_with fail
 generalize hq_ : World.setCell _ ⟨rb, 4, none⟩ _ = wv; have e0_ : Aside0 (∃ op_ : Nat → Prop, PV.ok wv op_ p ∧ ∀ k, op_ k → w.heap.size ≤ k ∧ k ≠ rb ∧ k ≠ pb) := ⟨z_111⟩; clear Ep; have Ep := e0_; clear e0_; have hq := hq_; clear hq_; replace Bg : Aside0 (wv.heap[g]? = some (b79 A T.length c (a1 + 1) n1 (q1 - 1) b1)) := ⟨by rw [← hq]; refine bf5 ?_ hgr; exact Bg.out⟩; replace Br : Aside0 (wv.heap[rb]? = some (b38 p.x.f0 p.x.f1 p.x.f2 p.x.f3 p.A p.x.f4.length p.c)) := ⟨by rw [← hq]; apply p5_4; apply p5_3; apply p5_2; apply p5_1; apply p5_0; exact Br.out⟩; replace Bp : Aside0 (wv.heap[pb]? = some (b38 p.x.f0 p.x.f1 p.x.f2 p.x.f3 p.A p.x.f4.length p.c)) := ⟨by rw [← hq]; refine bf5 ?_ hpr; exact Bp.out⟩; replace HK : Aside0 (KeepBut w wv g none) := ⟨by rw [← hq]; refine kf5 ?_ Gr.out; exact HK.out⟩; clear hq; replace gz := five_ Bg.out; replace rz := five_ Br.out; replace pz := five_ Bp.out; refine bodyPost_ret (v := p.eval) (by simp [results, Try.results108, go_sem, rz, PV.eval]) rfl ?_; obtain ⟨op_, h1, h2⟩ := Ep.out; exact ⟨HK.out, p, rfl, rfl, h1.bound.mono (fun k hk => ⟨(h2 k hk.1).1, hk.2⟩), ⟨Bg.out, Kd.F_keep HT0.out HK.out (fun _ h => h)⟩⟩
def parsF (T : List S58) (st : PSt → Option SRes) : Nat → List S41 → PSt → Option (Except (Int × Int) (List S41))
  | 0, _, _ => none
  | k + 1, xs, s => if (0 ≤ s.at_ ∧ s.at_ < T.length) ∧ xs.length < 1000 then
      (if (rd_T58 T s.at_).f0 = 0 then some (.ok xs) else match st s with
        | none => none
        | some (.error e) => some (.error e)
        | some (.ok (x, s1)) => parsF T st k (xs ++ [x]) s1)
    else none
def PPar (w : World) (r : Except (Int × Int) (List S41)) (e : Ending) (w' : World) : Prop := Below w.heap.size w w' ∧ match r with
 | .ok l => ∃ A c, e = .returned (.tuple #[.slice A l.length c, .int .i64 0, .int .i64 0]) ∧ Kd.F k41 w' (newO w w') A l.length l ∧ l.length ≤ c
 | .error (er, at_) => e = .returned (.tuple #[.slice none 0 0, .int .i64 at_, .int .i64 er])
theorem PPar.ok {w w' : World} {l : List S41} {e : Ending} (h : PPar w (.ok l) e w') : ∃ A c, e = .returned (.tuple #[.slice A l.length c, .int .i64 0, .int .i64 0]) ∧ Kd.F k41 w' (newO w w') A l.length l ∧ l.length ≤ c ∧ Below w.heap.size w w' := by
 obtain ⟨h1, A, c, h2, h3, h4⟩ := h; exact ⟨A, c, h2, h3, h4, h1⟩
theorem PPar.err {w w' : World} {er at_ : Int} {e : Ending} (h : PPar w (.error (er, at_)) e w') : e = .returned (.tuple #[.slice none 0 0, .int .i64 at_, .int .i64 er]) ∧ Below w.heap.size w w' := ⟨h.2, h.1⟩
theorem reps_sv {W : World} {ok : Nat → Prop} : ∀ xs : List SV, (∀ p ∈ xs, p.ok W ok) → Foot (fun W => Reps (k41.K W) 6 (xs.map (·.x)) (xs.flatMap SV.cs)) W ok
 | [], _ => fun W' _ => Reps.none _ _
 | p :: ps, h => fun W' hW => by
  have hp := h p (List.mem_cons_self ..); have ih := reps_sv ps (fun q hq => h q (List.mem_cons_of_mem _ hq)) W' hW; exact Reps.c6 (k41_mk W' p.x hp.1.2 (hp.1.1 W' hW) hp.2.1.2 (hp.2.1.1 W' hW) hp.2.2.2 (hp.2.2.1 W' hW)) ih
theorem PI.rows {w W : World} {g : Nat} {A : Option Addr} {c : Nat} {T : List S58} {s : PSt} {v : Value} {xs : List SV} (h : PI w W g A c T s v xs) :
  ∃ A' c', v = .slice A' xs.length c' ∧ Kd.F k41 W (newO w W) A' (xs.map (·.x)).length (xs.map (·.x)) ∧ xs.length ≤ c' := by
 obtain ⟨o', h3, h4⟩ := h.el
 have hF := F_own (d := k41) (ok := newO w W) h.row (fun k hk => ⟨own_base h.row k hk, own_lt h.row k hk⟩)
  (reps_sv xs (fun x hx => (h3 x hx).bound.mono (fun k hk => ⟨by have := h4 k hk.1; omega, hk.2⟩))) (by simp) (by decide)
 obtain ⟨A', c', h1, h2, h5⟩ := hF; exact ⟨A', c', h1, by rw [List.length_map]; exact h2, h5⟩
theorem new_cells {w1 : World} {base gb n cap : Nat} {cs : List Value} (hn : cs.length = n * 6) (ho : w1.ownsRow base 41 6 (.slice (some ⟨gb, 0, none⟩) (n + 1) cap) (n + 1) (cs ++ z6L)) :
  (w1.cell? ⟨gb, n * 6, none⟩ = some (.int .i64 0) ∧ w1.cell? ⟨gb, n * 6 + 1, none⟩ = some (.string (⟨#[]⟩ : ByteArray)) ∧ w1.cell? ⟨gb, n * 6 + 2, none⟩ = some (.int .i64 0) ∧ w1.cell? ⟨gb, n * 6 + 3, none⟩ = some (.slice none 0 0) ∧ w1.cell? ⟨gb, n * 6 + 4, none⟩ = some (.slice none 0 0) ∧ w1.cell? ⟨gb, n * 6 + 5, none⟩ = some (.slice none 0 0))
  ∧ (w1.frozen? ⟨gb, n * 6, none⟩ = false ∧ w1.frozen? ⟨gb, n * 6 + 1, none⟩ = false ∧ w1.frozen? ⟨gb, n * 6 + 2, none⟩ = false ∧ w1.frozen? ⟨gb, n * 6 + 3, none⟩ = false ∧ w1.frozen? ⟨gb, n * 6 + 4, none⟩ = false ∧ w1.frozen? ⟨gb, n * 6 + 5, none⟩ = false) := by
 have hc : ∀ i, i < 6 → w1.cell? ⟨gb, n * 6 + i, none⟩ = z6L[i]? := fun i hi => by
  rw [ho.cellAt (n * 6 + i) (by omega), List.getElem?_append_right (by omega), hn]
  congr 1; omega
 exact ⟨⟨hc 0 (by omega), hc 1 (by omega), hc 2 (by omega), hc 3 (by omega), hc 4 (by omega), hc 5 (by omega)⟩, ho.frozenAt _, ho.frozenAt _, ho.frozenAt _, ho.frozenAt _, ho.frozenAt _, ho.frozenAt _⟩
theorem field58_0 (a : Int) (s : ByteArray) (b c : Int) (W : World) : (Instr.field 58 (.agg #[.int .i64 a, .string s, .int .i64 b, .int .i64 c]) 0).run Try.prog W = .ok (.int .i64 a) W := by kernel_rfl
theorem idle_L (p0 p1 p2 : Value) (w : World) : CallsD Try.prog 45 #[p0, p1, p2] .returning w fun e u' w' => e = .returned (.tuple #[]) ∧ u' = .returning ∧ w' = w := by
 refine callsD_of_wpS Try.func45 rfl fun c₀ cs hu => ?_
 apply wpS_seq
 apply wpS_region
 simp [wpOpsS, go_sem, recoverD, hu, Try.ntmps45, Exit.thenS]
 apply wpS_seq
 apply wpS_region
 simp [wpOpsS, go_sem, recoverD, hu, Try.ntmps45, Exit.thenS]; refine wpS_cond (t := false) (by simp [Act.eval, Array.replicate]) ?_; simp only [Bool.false_eq_true, if_false]; refine wpS_of_wp (wp_skip ?_); cases c₀
 simp_all [bodyPostS, results, Try.results45]
def deeperK {α : Type} (s : PSt) (t3 : Int) (k : PSt → Option (Except Er α)) : Option (Except Er α) :=
 if 0 ≤ s.bl ∧ s.bl ≤ 12 then (if 12 < s.bl + 1 then some (.error (41, t3)) else k ⟨s.at_, s.nodes, s.op, s.bl + 1⟩) else none
theorem deeperK_some {α : Type} {s : PSt} {t3 : Int} {k : PSt → Option (Except Er α)} {r : Except Er α} (h : deeperK s t3 k = some r) :
  (0 ≤ s.bl ∧ s.bl ≤ 12) ∧ ((¬ 12 < s.bl + 1 ∧ k ⟨s.at_, s.nodes, s.op, s.bl + 1⟩ = some r) ∨ (12 < s.bl + 1 ∧ r = .error (41, t3))) := by
 unfold deeperK at h; by_cases hg : 0 ≤ s.bl ∧ s.bl ≤ 12
 ·rw [if_pos hg] at h
  refine ⟨hg, ?_⟩
  by_cases hq : 12 < s.bl + 1
  ·rw [if_pos hq] at h; exact z_69
  ·rw [if_neg hq] at h; exact .inl ⟨hq, h⟩
 ·rw [if_neg hg] at h; cases h
def bodyL (T : List S58) (st : PSt → Option SRes) : Nat → List S41 → PSt → Option (Except Er (List S41 × PSt))
  | 0, _, _ => none
  | k + 1, xs, s => if (0 ≤ s.at_ ∧ s.at_ < T.length) ∧ xs.length < 1000 ∧ 1 ≤ s.bl ∧ s.bl ≤ 100 then
      (if isB (rd_T58 T s.at_) ⟨#[125]⟩ = true then some (.ok (xs, ⟨s.at_ + 1, s.nodes, s.op, s.bl - 1⟩)) else exK (st s) fun x s1 => bodyL T st k (xs ++ [x]) s1)
    else none
def bodyS (T : List S58) (st : PSt → Option SRes) (K : Nat) (s : PSt) : Option (Except Er (List S41 × PSt)) :=
 wantK T s ⟨#[123]⟩ fun t s1 => deeperK s1 t.f3 fun s2 => bodyL T st K [] s2
def PBody (w : World) (g : Nat) (A : Option Addr) (c : Nat) (T : List S58) (r : Except Er (List S41 × PSt)) (e : Ending) (w' : World) : Prop :=
 KeepBut w w' g none ∧ match r with
 | .ok (l, s) => ∃ A' c', e = .returned (.slice A' l.length c') ∧ Kd.F k41 w' (newO w w') A' l.length l ∧ l.length ≤ c' ∧ RD w' g A c T s
 | .error (er, at_) => e = .panicked [stopV er at_]
theorem PBody.ok {w w' : World} {g : Nat} {A : Option Addr} {c : Nat} {T : List S58} {l : List S41} {s : PSt} {e : Ending} (h : PBody w g A c T (.ok (l, s)) e w') : ∃ A' c', e = .returned (.slice A' l.length c') ∧ Kd.F k41 w' (newO w w') A' l.length l ∧ l.length ≤ c' ∧ RD w' g A c T s ∧ KeepBut w w' g none := by
 obtain ⟨h1, A', c', h2, h3, h4, h5⟩ := h; exact ⟨A', c', h2, h3, h4, h5, h1⟩
theorem PBody.err {w w' : World} {g : Nat} {A : Option Addr} {c : Nat} {T : List S58} {er at_ : Int} {e : Ending} (h : PBody w g A c T (.error (er, at_)) e w') : e = .panicked [stopV er at_] ∧ KeepBut w w' g none := ⟨h.2, h.1⟩
structure BI (w W : World) (g : Nat) (A : Option Addr) (c : Nat) (T : List S58) (s : PSt) (v : Value) (xs : List SV) : Prop where
 bk : W.heap[g]? = some (b79 A T.length c s.at_ s.nodes s.op s.bl)
 row : W.ownsRow w.heap.size 41 6 v xs.length (xs.flatMap SV.cs)
 el : ∃ o : Nat → Prop, (∀ x ∈ xs, x.ok W o) ∧ ∀ k, o k → w.heap.size ≤ k ∧ k ≠ g ∧ v.ownBlock ≠ some k
 kp : KeepBut w W g none
 gl : g < w.heap.size
theorem BI.below {w W W1 : World} {g : Nat} {A : Option Addr} {c : Nat} {T : List S58} {s : PSt} {v : Value} {xs : List SV} (h : BI w W g A c T s v xs) (b : Below W.heap.size W W1) : BI w W1 g A c T s v xs := by
 obtain ⟨o, h1, h2⟩ := h.el; exact ⟨blk_below h.bk b, own_step h.row (fun k hk => b.block k (own_lt h.row k hk)), ⟨o, fun x hx => (h1 x hx).step (fun k _ hl => b.block k hl), h2⟩, h.kp.trans (KeepBut.of_below b g none) (.inl rfl), h.gl⟩
theorem BI.rd {w W : World} {g : Nat} {A : Option Addr} {c : Nat} {T : List S58} {s : PSt} {v : Value} {xs : List SV} (h : BI w W g A c T s v xs) (HT0 : Kd.F k58 w (fun k => k ≠ g) A T.length T) : RD W g A c T s := ⟨h.bk, Kd.F_keep HT0 h.kp (fun _ h => h)⟩
theorem BI.ne {w W : World} {g : Nat} {A : Option Addr} {c : Nat} {T : List S58} {s : PSt} {v : Value} {xs : List SV} (h : BI w W g A c T s v xs) : v.ownBlock ≠ some g := fun e => own_ne h.row h.bk (by decide) e.symm
theorem BI.call {w W W1 : World} {g : Nat} {A : Option Addr} {c : Nat} {T : List S58} {s s1 : PSt} {v : Value} {xs : List SV} (h : BI w W g A c T s v xs) (hk : KeepBut W W1 g none) (hx : RD W1 g A c T s1) : BI w W1 g A c T s1 v xs := by
 obtain ⟨o, h1, h2⟩ := h.el; have kk : ∀ k, k < W.heap.size → k ≠ g → W1.heap[k]? = W.heap[k]? := fun k hl hne => hk.2 k hl hne (by simp); exact ⟨hx.bk, own_step h.row (fun k hv => kk k (own_lt h.row k hv) (fun e => h.ne (by rw [hv, e]))), ⟨o, fun x hx => (h1 x hx).step (fun k ho hl => kk k hl (h2 k ho).2.1), h2⟩, h.kp.trans hk (.inl rfl), h.gl⟩
theorem BI.set1 {w W : World} {g : Nat} {A : Option Addr} {c : Nat} {T : List S58} {a n q b : Int} {v : Value} {xs : List SV} (h : BI w W g A c T ⟨a, n, q, b⟩ v xs) (u : Int) : BI w (W.setCell ⟨g, 1, none⟩ (.int .i64 u)) g A c T ⟨u, n, q, b⟩ v xs := by
 obtain ⟨o, h1, h2⟩ := h.el; have kk : ∀ k, k ≠ g → (W.setCell ⟨g, 1, none⟩ (.int .i64 u)).heap[k]? = W.heap[k]? := fun k hne => Below.heap_setCell _ _ _ k hne; exact ⟨blk_put h.bk 1 _ rfl, own_step h.row (fun k hv => kk k (fun e => h.ne (by rw [hv, e]))), ⟨o, fun x hx => (h1 x hx).step (fun k ho hl => kk k (h2 k ho).2.1), h2⟩, h.kp.set_ _ _, h.gl⟩
theorem BI.set4 {w W : World} {g : Nat} {A : Option Addr} {c : Nat} {T : List S58} {a n q b : Int} {v : Value} {xs : List SV} (h : BI w W g A c T ⟨a, n, q, b⟩ v xs) (u : Int) : BI w (W.setCell ⟨g, 4, none⟩ (.int .i64 u)) g A c T ⟨a, n, q, u⟩ v xs := by
 obtain ⟨o, h1, h2⟩ := h.el; have kk : ∀ k, k ≠ g → (W.setCell ⟨g, 4, none⟩ (.int .i64 u)).heap[k]? = W.heap[k]? := fun k hne => Below.heap_setCell _ _ _ k hne; exact ⟨blk_put h.bk 4 _ rfl, own_step h.row (fun k hv => kk k (fun e => h.ne (by rw [hv, e]))), ⟨o, fun x hx => (h1 x hx).step (fun k ho hl => kk k (h2 k ho).2.1), h2⟩, h.kp.set_ _ _, h.gl⟩
theorem BI.app {w W w1 : World} {g : Nat} {A : Option Addr} {c : Nat} {T : List S58} {s : PSt} {v v1 : Value} {xs : List SV} {x : SV} {ox : Nat → Prop} (h : BI w W g A c T s v xs)
  (hx : x.ok W ox) (hox : ∀ k, ox k → w.heap.size ≤ k ∧ k ≠ g ∧ v.ownBlock ≠ some k) (hg : W.grownBy w1 v.ownBlock) (hv : v1.ownBlock = v.ownBlock ∨ ∃ b, v1.ownBlock = some b ∧ W.heap.size ≤ b)
  (hr : w1.ownsRow w.heap.size 41 6 v1 (xs.length + 1) (xs.flatMap SV.cs ++ x.cs)) : BI w w1 g A c T s v1 (xs ++ [x]) := by
 obtain ⟨o', h3, h4⟩ := h.el
 have nv : ∀ k, k < W.heap.size → v.ownBlock ≠ some k → v1.ownBlock ≠ some k := fun k hl hne e => by
  rcases hv with hv | ⟨b, hb, hle⟩
  ·exact hne (hv ▸ e)
  ·rw [hb] at e; injection e with e; omega
 have kk : ∀ k, k < W.heap.size → v.ownBlock ≠ some k → w1.heap[k]? = W.heap[k]? := fun k hl ho => hg.block k hl (fun e => ho e.symm); refine ⟨(kk g (blk_lt h.bk) h.ne).trans h.bk, by rw [List.length_append, List.flatMap_append]; simpa using hr, ⟨fun k => (o' k ∨ ox k) ∧ k < W.heap.size, ?_, ?_⟩, ?_, h.gl⟩
 ·intro y hy
  rcases List.mem_append.1 hy with hy | hy
  ·exact ((h3 y hy).bound.step (fun k hk hl => kk k hl (h4 k hk.1).2.2)).mono (fun k hk => ⟨.inl hk.1, hk.2⟩)
  ·obtain rfl := List.mem_singleton.1 hy
   exact (hx.bound.step (fun k hk hl => kk k hl (hox k hk.1).2.2)).mono (fun k hk => ⟨.inr hk.1, hk.2⟩)
 ·rintro k ⟨hk | hk, hl⟩
  ·exact ⟨(h4 k hk).1, (h4 k hk).2.1, nv k hl (h4 k hk).2.2⟩
  ·exact ⟨(hox k hk).1, (hox k hk).2.1, nv k hl (hox k hk).2.2⟩
 ·refine h.kp.trans (KeepBut.of_grown hg g) ?_
  rcases hv0 : v.ownBlock with _ | b
  ·exact .inl rfl
  ·exact .inr ⟨b, rfl, own_base h.row b hv0⟩
theorem BI.rows {w W : World} {g : Nat} {A : Option Addr} {c : Nat} {T : List S58} {s : PSt} {v : Value} {xs : List SV} (h : BI w W g A c T s v xs) :
  ∃ A' c', v = .slice A' xs.length c' ∧ Kd.F k41 W (newO w W) A' (xs.map (·.x)).length (xs.map (·.x)) ∧ xs.length ≤ c' := by
 obtain ⟨o', h3, h4⟩ := h.el
 have hF := F_own (d := k41) (ok := newO w W) h.row (fun k hk => ⟨own_base h.row k hk, own_lt h.row k hk⟩)
  (reps_sv xs (fun x hx => (h3 x hx).bound.mono (fun k hk => ⟨(h4 k hk.1).1, hk.2⟩))) (by simp) (by decide)
 obtain ⟨A', c', h1, h2, h5⟩ := hF; exact ⟨A', c', h1, by rw [List.length_map]; exact h2, h5⟩
theorem bodyL_some {T : List S58} {st : PSt → Option SRes} {k : Nat} {xs : List S41} {s : PSt} {r : Except Er (List S41 × PSt)} (h : bodyL T st (k + 1) xs s = some r) :
  ((0 ≤ s.at_ ∧ s.at_ < T.length) ∧ xs.length < 1000 ∧ 1 ≤ s.bl ∧ s.bl ≤ 100) ∧ ((isB (rd_T58 T s.at_) ⟨#[125]⟩ = true ∧ r = .ok (xs, ⟨s.at_ + 1, s.nodes, s.op, s.bl - 1⟩)) ∨ (isB (rd_T58 T s.at_) ⟨#[125]⟩ = false ∧ exK (st s) (fun x s1 => bodyL T st k (xs ++ [x]) s1) = some r)) := by
 unfold bodyL at h; by_cases hg : (0 ≤ s.at_ ∧ s.at_ < T.length) ∧ xs.length < 1000 ∧ 1 ≤ s.bl ∧ s.bl ≤ 100
 ·rw [if_pos hg] at h
  refine ⟨hg, ?_⟩
  cases hq : isB (rd_T58 T s.at_) ⟨#[125]⟩ with
  | true => rw [if_pos hq] at h; exact .inl ⟨rfl, (xsi h).symm⟩
  | false => rw [if_neg (by rw [hq]; simp)] at h; exact .inr ⟨rfl, h⟩
 ·rw [if_neg hg] at h; cases h
theorem sv_one (p : SV) : ∀ u ∈ p.cs, u.oneCell' = true := by
 intro u hu; simp only [SV.cs, List.mem_cons, List.not_mem_nil, or_false] at hu; rcases hu with rfl | rfl | rfl | rfl | rfl | rfl <;> rfl
theorem five9 {w : World} {g : Nat} {t : TypeId} {a0 a1 a2 a3 a4 : Value} (h : w.heap[g]? = some (.cells #[a0, a1, a2, a3, a4] t (0, 0))) :
  (w.cell? ⟨g, 1, none⟩ = some a1 ∧ w.cell? ⟨g, 4, none⟩ = some a4) ∧ w.frozen? ⟨g, 1, none⟩ = false ∧ w.frozen? ⟨g, 4, none⟩ = false := ⟨⟨xbc h 1, xbc h 4⟩, xbz h 1, xbz h 4⟩
def BRel9 (w : World) (g : Nat) (A : Option Addr) (c : Nat) (T : List S58) (st : PSt → Option SRes) (r : Except Er (List S41 × PSt)) (kq : Nat) (v3 : Value) (wq : World) : Prop :=
 ∃ (s : PSt) (Av : Option Addr) (cv : Nat) (xs : List SV), v3 = .slice Av xs.length cv ∧ Aside0 (bodyL T st kq (xs.map (·.x)) s = some r) ∧ Aside0 (BI w wq g A c T s (.slice Av xs.length cv) xs)
theorem body_L (T : List S58) (st : PSt → Option SRes) (SC0 : StmC T st) (K : Nat) (a n q b : Int) (r : Except Er (List S41 × PSt)) (g : Nat) (A : Option Addr) (c : Nat) (w : World) (h : bodyS T st K ⟨a, n, q, b⟩ = some r) (hrd : RD w g A c T ⟨a, n, q, b⟩) :
  Calls Try.prog 109 #[.pointer (some ⟨g, 0, none⟩)] w (PBody w g A c T r) := by
 have SC := A_0 SC0; clear SC0; unfold bodyS at h; have HL := A_0 h; clear h; have HT0 := A_0 hrd.tk; have hmx := hrd.max; have Bg : Aside0 (w.heap[g]? = some (b79 A T.length c a n q b)) := ⟨hrd.bk⟩; have HK := A_0 (KeepBut.refl w g none); have HLT := A_0 hrd.lt; clear hrd; have gz := five_ Bg.out
 go_enter Try.func109, Try.ntmps109
 go_wp2_with fail
 obtain ⟨⟨h0, h1⟩, hcase⟩ := wantK_some HL.out; clear HL; dsimp only at h0 h1 hcase; rcases hcase with ⟨hq, h⟩ | ⟨hq, rfl⟩
 rotate_left
 ·(with_reducible refine (want_L g A c T a n q b _ ⟨#[123]⟩ (⟨Bg.out, Kd.F_keep HT0.out HK.out (fun _ h => h)⟩ : RD _ g A c T _) h0 h1).mono ?_)
  intro e wn hp; unfold wantP at hp; rw [if_neg (by rw [hq]; simp)] at hp; obtain ⟨rfl, hk⟩ := hp.err; exact z_77
 (with_reducible refine (want_L g A c T a n q b _ ⟨#[123]⟩ (⟨Bg.out, Kd.F_keep HT0.out HK.out (fun _ h => h)⟩ : RD _ g A c T _) h0 h1).mono ?_)
 intro e wn hp; unfold wantP at hp; rw [if_pos hq] at hp; obtain ⟨rfl, hx, hk⟩ := hp.ok; generalize rd_T58 T a = o at *; obtain ⟨o0, o1, o2, o3⟩ := o; have HL := A_0 h; clear hp hq h h0 h1; unfold tokV; replace Bg : Aside0 (wn.heap[g]? = some (b79 A T.length c (a + 1) n q b)) := ⟨hx.bk⟩; replace HK := xk3 HK hk; clear hk hx; replace gz := five_ Bg.out
 go_wp2_with fail
 obtain ⟨⟨h0, h1⟩, hcase⟩ := deeperK_some HL.out; clear HL; dsimp only at h0 h1 hcase; rcases hcase with ⟨hq, h⟩ | ⟨hq, rfl⟩
 rotate_left
 ·(with_reducible refine (deeper_L g A c T ((a + 1)) n q b _ o0 o1 o2 o3 (⟨Bg.out, Kd.F_keep HT0.out HK.out (fun _ h => h)⟩ : RD _ g A c T _) h0 h1).mono ?_)
  intro e wn hp; unfold deeperP at hp; rw [if_pos hq] at hp; obtain ⟨rfl, hk⟩ := hp.err; exact z_77
 (with_reducible refine (deeper_L g A c T ((a + 1)) n q b _ o0 o1 o2 o3 (⟨Bg.out, Kd.F_keep HT0.out HK.out (fun _ h => h)⟩ : RD _ g A c T _) h0 h1).mono ?_)
 intro e wn hp; unfold deeperP at hp; rw [if_neg hq] at hp; obtain ⟨rfl, hx, hk⟩ := hp.ok; have HL := A_0 h; clear hp hq h h0 h1; unfold unitV; replace Bg : Aside0 (wn.heap[g]? = some (b79 A T.length c (a + 1) n q (b + 1))) := ⟨hx.bk⟩; replace HK := xk3 HK hk; clear gz hk hx; have gz := five_ Bg.out; have HP := A_0 (show BI w wn g A c T ⟨(a + 1), n, q, (b + 1)⟩ (.slice none 0 0) [] from ⟨Bg.out, World.ownsRow_nil _ _ _ _, ⟨fun _ => False, fun x hx => (List.not_mem_nil hx).elim, fun k hk => hk.elim⟩, HK.out, HLT.out⟩); clear gz; clear Bg HK; go_upto_region 3 with fail
 go_loopg [3] K (fun kq v3 wq => BRel9 w g A c T st r kq v3 wq)
 case atStart => exact ⟨_, none, 0, [], rfl, HL, HP⟩
 case round =>
  clear HP HL; unfold BRel9 at hrel; obtain ⟨s, Av, cv, xs, rfl, HL, HP⟩ := hrel; cases gk with
  | zero => exact absurd HL.out (by simp [bodyL])
  | succ k1 =>
  obtain ⟨⟨⟨h0, h1⟩, hx, h2, h3⟩, hcase⟩ := bodyL_some HL.out; clear HL; obtain ⟨a, n, q, b⟩ := s; dsimp only at h0 h1 h2 h3 hcase; have hxl : xs.length < 1000 := by simpa using hx
  clear hx; have HCS := A_0 hcase; clear hcase
  go_wp2_with fail
  rcases HCS.out with ⟨hq, rfl⟩ | ⟨hq, h⟩
  ·(with_reducible refine (is_L g A c T a n q b _ ⟨#[125]⟩ (HP.out.rd HT0.out) h0 h1 true hq).mono ?_)
   rintro e wn ⟨rfl, hb⟩; replace HP := A_0 (HP.out.below hb); clear hb HCS hq; have hwa : wrap64 (a + 1) = a + 1 := by unfold wrap64; omega
   have hwb : wrap64 (b - 1) = b - 1 := by unfold wrap64; omega
   obtain ⟨⟨z1, z4⟩, y1, y4⟩ := five9 HP.out.bk; go_upto_region 6 with fail; generalize hq : World.setCell _ ⟨g, 1, none⟩ _ = wa; have n0_ := A_0 (show BI w wa g A c T ⟨a + 1, n, q, b⟩ (.slice Av xs.length cv) xs by rw [← hq]; exact HP.out.set1 _)
   clear HP hq z1 z4 y1 y4; have HP := n0_; clear n0_; obtain ⟨⟨z1, z4⟩, y1, y4⟩ := five9 HP.out.bk
   go_wp2_with fail
   generalize hq : World.setCell _ ⟨g, 4, none⟩ _ = wb; have hP : BI w wb g A c T ⟨a + 1, n, q, b - 1⟩ (.slice Av xs.length cv) xs := by rw [← hq]; exact HP.out.set4 _
   obtain ⟨A', c', hv, hF, hc⟩ := hP.rows; injection hv with e1 e2 e3; subst e1 e3; refine bodyPost_ret (v := .slice Av xs.length cv) (by simp [results, Try.results109, go_sem]) rfl ?_; exact ⟨hP.kp, Av, cv, by rw [List.length_map], hF, by rw [List.length_map]; exact hc, hP.rd HT0.out⟩
  (with_reducible refine (is_L g A c T a n q b _ ⟨#[125]⟩ (HP.out.rd HT0.out) h0 h1 false hq).mono ?_)
  rintro e wn ⟨rfl, hb⟩; replace HP := A_0 (HP.out.below hb); have HL := A_0 h; clear hb HCS hq h
  go_wp2_with fail
  rcases exK_some HL.out with ⟨er, at_, hab, rfl⟩ | ⟨x0, s1, hab, h⟩
  ·(with_reducible refine (SC.out.use ⟨a, n, q, b⟩ (.error (er, at_)) g A c _ hab (HP.out.rd HT0.out)).mono ?_)
   intro e wn hp; obtain ⟨rfl, hk⟩ := PStm.err hp; exact ⟨rfl, HP.out.kp.trans hk (.inl rfl), rfl⟩
  have HZ := A_0 (show w.heap.size ≤ wn.heap.size from keep_size HP.out.kp)
  (with_reducible refine (SC.out.use ⟨a, n, q, b⟩ (.ok (x0, s1)) g A c _ hab (HP.out.rd HT0.out)).mono ?_)
  intro e wm hp; obtain ⟨x, rfl, hpx, hpo, hrd, hk⟩ := PStm.ok hp; clear hp hab HL; subst hpx; have HL := A_0 h; clear h
  have HPO := A_0 (show ∃ ox : Nat → Prop, x.ok wm ox ∧ ∀ k, ox k → w.heap.size ≤ k ∧ k ≠ g ∧ (Value.slice Av xs.length cv).ownBlock ≠ some k from
   ⟨_, hpo, fun k hk' => by have := hk'.1; have := HZ.out; have := HLT.out; exact ⟨by omega, by omega, fun e => by have := own_lt HP.out.row k e; omega⟩⟩)
  replace HP := A_0 (HP.out.call hk hrd); clear hk hrd hpo; obtain ⟨a1, n1, q1, b1⟩ := s1; unfold SV.val; dsimp only; have HSZ := A_0 (show w.heap.size ≤ wm.heap.size from keep_size HP.out.kp); have HXL := A_0 hxl; clear hxl h0 h1 h2 h3
  go_wp2_with (first | ((with_reducible refine gate_builtin (b := .append) (xs := #[.tmp 11, .tmp 14]) rfl ?_); at_builtin; refine print_append_cells (w0 := wm) w.heap.size rfl (.tmp 11) (.tmp 14) 22 41 zV41 6 104 rfl Try.underlying22 inf41 rfl (by decide) (by decide) (.slice Av xs.length cv) xs.length (xs.flatMap SV.cs) x.cs rfl rfl rfl (sv_one x) HP.out.row (xbr _ _) HSZ.out (by have := HXL.out; omega) ?_; intro v1 w1 ho1 hb1 hg1 hat; obtain ⟨A1, c1, rfl⟩ := own_slc ho1; obtain ⟨ox, hpo, hox⟩ := HPO.out; replace HP := A_0 (show BI w w1 g A c T ⟨a1, n1, q1, b1⟩ (.slice A1 (xs ++ [x]).length c1) (xs ++ [x]) by rw [show (xs ++ [x]).length = xs.length + 1 from by simp]; exact HP.out.app hpo hox hg1 hat ho1); clear HPO ho1 hb1 hg1 hat hpo hox))
  go_roundg k1
  case measure => omega
  case rel => exact ⟨_, A1, c1, xs ++ [x], by simp, ⟨by rw [List.map_append, List.map_cons, List.map_nil]; exact HL.out⟩, HP⟩
end Go.Proofs.Ytobkdmmnbnpemaa.K
