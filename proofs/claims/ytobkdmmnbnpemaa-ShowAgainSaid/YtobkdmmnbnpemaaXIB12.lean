/- Texts of the claim, one behind the other. -/
import Derived.Test.YtobkdmmnbnpemaaXIB11
import Derived.Test.YtobkdmmnbnpemaaXIB09
import Derived.Test.YtobkdmmnbnpemaaXIB05
import Derived.Deep.RegionLaw
import Derived.RegionDies
set_option maxHeartbeats 16000000
set_option maxRecDepth 100000
namespace Go.Proofs.Ytobkdmmnbnpemaa.K
open Go.RowKit Go.Proofs.YtobkdmmnbnpemaaW.PrintWords Go.Proofs.YtobkdmmnbnpemaaW.PrintLast Go.Proofs.YtobkdmmnbnpemaaW.PrintMore
attribute [local go_sem] max2_int min2_int max_two min_two max_three min_three max_four min_four
set_option linter.unusedVariables false
set_option linter.unusedSimpArgs false
def madeK {α : Type} (s : PSt) (t3 : Int) (k : PSt → Option (Except Er α)) : Option (Except Er α) :=
 if 0 ≤ s.nodes ∧ s.nodes ≤ 600 then (if 600 < s.nodes + 1 then some (.error (42, t3)) else k ⟨s.at_, s.nodes + 1, s.op, s.bl⟩) else none
theorem madeK_some {α : Type} {s : PSt} {t3 : Int} {k : PSt → Option (Except Er α)} {r : Except Er α} (h : madeK s t3 k = some r) :
  (0 ≤ s.nodes ∧ s.nodes ≤ 600) ∧ ((¬ 600 < s.nodes + 1 ∧ k ⟨s.at_, s.nodes + 1, s.op, s.bl⟩ = some r) ∨ (600 < s.nodes + 1 ∧ r = .error (42, t3))) := by
 unfold madeK at h; by_cases hg : 0 ≤ s.nodes ∧ s.nodes ≤ 600
 ·rw [if_pos hg] at h
  refine ⟨hg, ?_⟩
  by_cases hq : 600 < s.nodes + 1
  ·rw [if_pos hq] at h; exact z_69
  ·rw [if_neg hq] at h; exact .inl ⟨hq, h⟩
 ·rw [if_neg hg] at h; cases h
def endS (T : List S58) (t3 : Int) (x : S41) (s : PSt) : Option SRes :=
 if x.f0 = 6 ∨ x.f0 = 7 then madeK s t3 fun s1 => some (.ok (x, s1)) else wantK T s ⟨#[59]⟩ fun _ s1 => madeK s1 t3 fun s2 => some (.ok (x, s2))
def stmtS (T : List S58) (ab : Int → PSt → Option Res) (wd : PSt → S58 → Option SRes) (s : PSt) : Option SRes :=
 if 0 ≤ s.at_ ∧ s.at_ < T.length then
  if (rd_T58 T s.at_).f0 = 2 then wantK T ⟨s.at_ + 1, s.nodes, s.op, s.bl⟩ ⟨#[61]⟩ fun _ s1 => exK (ab 1 s1) fun p s2 => endS T (rd_T58 T s.at_).f3 ⟨2, (rd_T58 T s.at_).f1, 0, [p.1], [], []⟩ s2
  else if (rd_T58 T s.at_).f0 = 3 then exK (wd s (rd_T58 T s.at_)) fun x s1 => endS T (rd_T58 T s.at_).f3 x s1
  else some (.error (40, (rd_T58 T s.at_).f3))
 else none
theorem stmt_whole (T : List S58) (ab : Int → PSt → Option Res) (AC0 : AboC T ab) (wd : PSt → S58 → Option SRes) (WC0 : WorC T wd) : StmC T (stmtS T ab wd) := by
 intro s r g A c w h hrd; obtain ⟨a, n, q, b⟩ := s; have AC := A_0 AC0; have WC := A_0 WC0; clear AC0 WC0; unfold stmtS at h; by_cases hg : 0 ≤ a ∧ a < T.length
 rotate_left
 ·rw [if_neg hg] at h; cases h
 rw [if_pos hg] at h; obtain ⟨h0, h1⟩ := hg; dsimp only at h; generalize ht : rd_T58 T a = t at h; obtain ⟨t0, t1, t2, t3⟩ := t; dsimp only at h; have HTK := A_0 ht; have HL := A_0 h; clear h ht; have HT0 := A_0 hrd.tk; have hmx := hrd.max; have Bg : Aside0 (w.heap[g]? = some (b79 A T.length c a n q b)) := ⟨hrd.bk⟩; have HK := A_0 (KeepBut.refl w g none); have HLT := A_0 hrd.lt; clear hrd; have gz := five_ Bg.out; have hwa : wrap64 (a + 1) = a + 1 := by unfold wrap64; omega
 go_enter Try.func47, Try.ntmps47
 go_wp2_with (first | ((with_reducible refine gate_dst (N := 2) rfl ?_); refine bx (a41 0 ⟨#[]⟩ 0 none 0 0 none 0 0 none 0 0) 41 ?_; intro rb hg wr hbox hb; have Br := A_0 hbox; have Gr := A_0 (show w.heap.size ≤ rb by rw [hg]; exact keep_size HK.out); replace HK := xk1 HK hb; have hrg := (show rb ≠ g by rw [hg]; exact z_71); have hgr := Ne.symm hrg; replace Bg := xk4 Bg hb; clear hb hbox hg; replace gz := five_ Bg.out; have rz := sixc Br.out))
 (with_reducible refine (now_L g A c T ⟨a, n, q, b⟩ _ (⟨Bg.out, Kd.F_keep HT0.out HK.out (fun _ h => h)⟩ : RD _ g A c T _) h0 h1).mono ?_)
 rintro e wn ⟨rfl, hb⟩; rw [HTK.out]; unfold tokV; dsimp only; replace Bg := xk4 Bg hb; replace Br := xk4 Br hb; replace HK := xk1 HK hb; clear hb; replace gz := five_ Bg.out; replace rz := sixc Br.out; go_upto_region 2 with (first | ((with_reducible refine gate_dst (N := 3) rfl ?_); refine bx (a58 0 ⟨#[]⟩ 0 0) 58 ?_; intro tb hg wt hbox hb; have Bt := A_0 hbox; have Gt := A_0 (show w.heap.size ≤ tb by rw [hg]; exact keep_size HK.out); replace HK := xk1 HK hb; have htg := (show tb ≠ g by rw [hg]; exact z_71); have hgt := Ne.symm htg; replace Bg := xk4 Bg hb; have htr := (show tb ≠ rb by rw [hg]; exact z_79); have hrt := Ne.symm htr; replace Br := xk4 Br hb; clear hb hbox hg; replace gz := five_ Bg.out; replace rz := sixc Br.out; have tz := four Bt.out))
 generalize hq_ : World.setCell _ ⟨tb, 3, none⟩ _ = wu; have hq := hq_; clear hq_; replace Bg : Aside0 (wu.heap[g]? = some (b79 A T.length c a n q b)) := ⟨z_103⟩; replace Br : Aside0 (wu.heap[rb]? = some (b41 0 ⟨#[]⟩ 0 none 0 0 none 0 0 none 0 0)) := ⟨z_104⟩; replace Bt : Aside0 (wu.heap[tb]? = some (b58 t0 t1 t2 t3)) := ⟨z_105⟩; replace HK : Aside0 (KeepBut w wu g none) := ⟨z_106⟩; clear hq; replace gz := five_ Bg.out; replace rz := sixc Br.out; replace tz := four Bt.out; go_upto_region 4 with (first | ((with_reducible refine gate_dst (N := 4) rfl ?_); refine bx (a41 0 ⟨#[]⟩ 0 none 0 0 none 0 0 none 0 0) 41 ?_; intro sb hg ws hbox hb; have Bs := A_0 hbox; have Gs := A_0 (show w.heap.size ≤ sb by rw [hg]; exact keep_size HK.out); replace HK := xk1 HK hb; have hsg := (show sb ≠ g by rw [hg]; exact z_71); have hgs := Ne.symm hsg; replace Bg := xk4 Bg hb; have hsr := (show sb ≠ rb by rw [hg]; exact z_79); have hrs := Ne.symm hsr; replace Br := xk4 Br hb; have hst := (show sb ≠ tb by rw [hg]; exact z_72); have hts := Ne.symm hst; replace Bt := xk4 Bt hb; clear hb hbox hg; replace gz := five_ Bg.out; replace rz := sixc Br.out; replace tz := four Bt.out; have sz := sixc Bs.out))
 by_cases e2 : t0 = 2
 rotate_left
 ·have d2 : (t0 == 2) = false := beq_eq_false_iff_ne.2 e2
  by_cases e3 : t0 = 3
  rotate_left
  ·have d3 : (t0 == 3) = false := beq_eq_false_iff_ne.2 e3
   have h := HL.out; clear HL; rw [if_neg e2, if_neg e3] at h; have HL := A_0 h; clear h; have h' := xsi HL.out; subst h'
   go_wp2_with fail
   (with_reducible refine (give_A 40 t0 t1 t2 t3 _).mono ?_)
   rintro e wn ⟨rfl, hb⟩; exact z_101
  have d3 : (t0 == 3) = true := beq_iff_eq.2 e3; have h := HL.out; clear HL; rw [if_neg e2, if_pos e3] at h; have HL := A_0 h; clear h; clear e2 e3 hwa h0 h1
  go_wp2_with fail
  have HSZ := A_0 (show w.heap.size ≤ ws.heap.size ∧ rb < ws.heap.size ∧ tb < ws.heap.size ∧ sb < ws.heap.size from ⟨keep_size HK.out, blk_lt Br.out, blk_lt Bt.out, blk_lt Bs.out⟩); rcases exK_some HL.out with ⟨er, at_, hab, rfl⟩ | ⟨p0, s1, hab, h⟩
  ·(with_reducible refine (WC.out.use ⟨a, n, q, b⟩ ⟨t0, t1, t2, t3⟩ (.error (er, at_)) g A c _ hab (⟨Bg.out, Kd.F_keep HT0.out HK.out (fun _ h => h)⟩ : RD _ g A c T _)).mono ?_)
   intro e wn hp; obtain ⟨rfl, hk⟩ := PStm.err hp; exact z_77
  (with_reducible refine (WC.out.use ⟨a, n, q, b⟩ ⟨t0, t1, t2, t3⟩ (.ok (p0, s1)) g A c _ hab (⟨Bg.out, Kd.F_keep HT0.out HK.out (fun _ h => h)⟩ : RD _ g A c T _)).mono ?_)
  intro e wn hp; obtain ⟨x, rfl, hpx, hpo, hx, hk⟩ := PStm.ok hp; subst hpx; clear hp hab HL; have HL := A_0 h; clear h; obtain ⟨a1, n1, q1, b1⟩ := s1; unfold SV.val; replace Bg : Aside0 (wn.heap[g]? = some (b79 A T.length c a1 n1 q1 b1)) := ⟨hx.bk⟩; replace Br := xk2 hk Br hrg; replace Bt := xk2 hk Bt htg; replace Bs := xk2 hk Bs hsg; replace HK := xk3 HK hk; clear gz rz tz sz hk hx; have gz := five_ Bg.out; have rz := sixc Br.out; have tz := four Bt.out; have sz := sixc Bs.out; have Ex : Aside0 (∃ op_ : Nat → Prop, SV.ok wn op_ x ∧ ∀ k, op_ k → w.heap.size ≤ k ∧ k ≠ rb ∧ k ≠ tb ∧ k ≠ sb) := ⟨⟨_, hpo, fun k hk => by have := hk.1; have := HSZ.out; omega⟩⟩
  clear HSZ hpo; go_upto_region 10 with fail; generalize hq_ : World.setCell _ ⟨sb, 5, none⟩ _ = wx; have e0_ : Aside0 (∃ op_ : Nat → Prop, SV.ok wx op_ x ∧ ∀ k, op_ k → w.heap.size ≤ k ∧ k ≠ rb ∧ k ≠ tb ∧ k ≠ sb) := ⟨by obtain ⟨op_, h1, h2⟩ := Ex.out; exact z_144⟩; clear Ex; have Ex := e0_; clear e0_; have hq := hq_; clear hq_; replace Bg : Aside0 (wx.heap[g]? = some (b79 A T.length c a1 n1 q1 b1)) := ⟨z_113⟩; replace Br : Aside0 (wx.heap[rb]? = some (b41 0 ⟨#[]⟩ 0 none 0 0 none 0 0 none 0 0)) := ⟨z_114⟩; replace Bt : Aside0 (wx.heap[tb]? = some (b58 t0 t1 t2 t3)) := ⟨by rw [← hq]; refine bf6 ?_ hts; exact Bt.out⟩; replace Bs : Aside0 (wx.heap[sb]? = some (b41 x.x.f0 x.x.f1 x.x.f2 x.A3 x.x.f3.length x.c3 x.A4 x.x.f4.length x.c4 x.A5 x.x.f5.length x.c5)) := ⟨z_115⟩; replace HK : Aside0 (KeepBut w wx g none) := ⟨z_116⟩; clear hq; replace gz := five_ Bg.out; replace rz := sixc Br.out; replace tz := four Bt.out; replace sz := sixc Bs.out; unfold endS at HL; by_cases h6 : x.x.f0 = 6 ∨ x.x.f0 = 7
  ·have h := HL.out
   clear HL; rw [if_pos h6] at h; have HL := A_0 h; clear h
   have HF : Aside0 ((x.x.f0 != 6) = false ∨ ((x.x.f0 != 6) = true ∧ (x.x.f0 != 7) = false)) := ⟨by
    by_cases z : x.x.f0 = 6
    ·exact .inl (bne_eq_false_iff_eq.2 z)
    ·exact .inr ⟨bne_iff_ne.2 z, bne_eq_false_iff_eq.2 (by omega)⟩⟩
   clear h6; rcases HF.out with z1 | ⟨z1, z2⟩
   ·go_wp2_with fail
    obtain ⟨⟨m0, m1⟩, hcase⟩ := madeK_some HL.out; clear HL; dsimp only at m0 m1 hcase; rcases hcase with ⟨hq, h⟩ | ⟨hq, rfl⟩
    rotate_left
    ·(with_reducible refine (made_L g A c T a1 n1 q1 b1 _ t0 t1 t2 t3 (⟨Bg.out, Kd.F_keep HT0.out HK.out (fun _ h => h)⟩ : RD _ g A c T _) m0 m1).mono ?_)
     intro e wn hp; unfold madeP at hp; rw [if_pos hq] at hp; obtain ⟨rfl, hk⟩ := hp.err; exact z_77
    (with_reducible refine (made_L g A c T a1 n1 q1 b1 _ t0 t1 t2 t3 (⟨Bg.out, Kd.F_keep HT0.out HK.out (fun _ h => h)⟩ : RD _ g A c T _) m0 m1).mono ?_)
    intro e wn hp; unfold madeP at hp; rw [if_neg hq] at hp; obtain ⟨rfl, hx, hk⟩ := hp.ok; have h' := xsi h; clear hp hq h m0 m1; subst h'; unfold unitV; replace Ex : Aside0 (∃ op_ : Nat → Prop, SV.ok wn op_ x ∧ ∀ k, op_ k → w.heap.size ≤ k ∧ k ≠ rb ∧ k ≠ tb ∧ k ≠ sb) := ⟨z_145⟩; replace Bg : Aside0 (wn.heap[g]? = some (b79 A T.length c a1 (n1 + 1) q1 b1)) := ⟨hx.bk⟩; replace Br := xk2 hk Br hrg; replace Bt := xk2 hk Bt htg; replace Bs := xk2 hk Bs hsg; replace HK := xk3 HK hk; clear hk hx; replace gz := five_ Bg.out; replace rz := sixc Br.out; replace tz := four Bt.out; replace sz := sixc Bs.out
    go_wp2_with fail
    generalize hq_ : World.setCell _ ⟨rb, 5, none⟩ _ = wy; have e0_ : Aside0 (∃ op_ : Nat → Prop, SV.ok wy op_ x ∧ ∀ k, op_ k → w.heap.size ≤ k ∧ k ≠ rb ∧ k ≠ tb ∧ k ≠ sb) := ⟨z_142⟩; clear Ex; have Ex := e0_; clear e0_; have hq := hq_; clear hq_; replace Bg : Aside0 (wy.heap[g]? = some (b79 A T.length c a1 (n1 + 1) q1 b1)) := ⟨z_95⟩; replace Br : Aside0 (wy.heap[rb]? = some (b41 x.x.f0 x.x.f1 x.x.f2 x.A3 x.x.f3.length x.c3 x.A4 x.x.f4.length x.c4 x.A5 x.x.f5.length x.c5)) := ⟨z_97⟩; replace Bt : Aside0 (wy.heap[tb]? = some (b58 t0 t1 t2 t3)) := ⟨z_96⟩; replace Bs : Aside0 (wy.heap[sb]? = some (b41 x.x.f0 x.x.f1 x.x.f2 x.A3 x.x.f3.length x.c3 x.A4 x.x.f4.length x.c4 x.A5 x.x.f5.length x.c5)) := ⟨z_126⟩; replace HK : Aside0 (KeepBut w wy g none) := ⟨z_99⟩; clear hq; replace gz := five_ Bg.out; replace rz := sixc Br.out; replace tz := four Bt.out; replace sz := sixc Bs.out; refine bodyPost_ret (v := SV.val x) (z_146) rfl ?_; obtain ⟨op_, h1, h2⟩ := Ex.out; exact z_143
   ·go_wp2_with fail
    obtain ⟨⟨m0, m1⟩, hcase⟩ := madeK_some HL.out; clear HL; dsimp only at m0 m1 hcase; rcases hcase with ⟨hq, h⟩ | ⟨hq, rfl⟩
    rotate_left
    ·(with_reducible refine (made_L g A c T a1 n1 q1 b1 _ t0 t1 t2 t3 (⟨Bg.out, Kd.F_keep HT0.out HK.out (fun _ h => h)⟩ : RD _ g A c T _) m0 m1).mono ?_)
     intro e wn hp; unfold madeP at hp; rw [if_pos hq] at hp; obtain ⟨rfl, hk⟩ := hp.err; exact z_77
    (with_reducible refine (made_L g A c T a1 n1 q1 b1 _ t0 t1 t2 t3 (⟨Bg.out, Kd.F_keep HT0.out HK.out (fun _ h => h)⟩ : RD _ g A c T _) m0 m1).mono ?_)
    intro e wn hp; unfold madeP at hp; rw [if_neg hq] at hp; obtain ⟨rfl, hx, hk⟩ := hp.ok; have h' := xsi h; clear hp hq h m0 m1; subst h'; unfold unitV; replace Ex : Aside0 (∃ op_ : Nat → Prop, SV.ok wn op_ x ∧ ∀ k, op_ k → w.heap.size ≤ k ∧ k ≠ rb ∧ k ≠ tb ∧ k ≠ sb) := ⟨z_145⟩; replace Bg : Aside0 (wn.heap[g]? = some (b79 A T.length c a1 (n1 + 1) q1 b1)) := ⟨hx.bk⟩; replace Br := xk2 hk Br hrg; replace Bt := xk2 hk Bt htg; replace Bs := xk2 hk Bs hsg; replace HK := xk3 HK hk; clear hk hx; replace gz := five_ Bg.out; replace rz := sixc Br.out; replace tz := four Bt.out; replace sz := sixc Bs.out
    go_wp2_with fail
    generalize hq_ : World.setCell _ ⟨rb, 5, none⟩ _ = wy; have e0_ : Aside0 (∃ op_ : Nat → Prop, SV.ok wy op_ x ∧ ∀ k, op_ k → w.heap.size ≤ k ∧ k ≠ rb ∧ k ≠ tb ∧ k ≠ sb) := ⟨z_142⟩; clear Ex; have Ex := e0_; clear e0_; have hq := hq_; clear hq_; replace Bg : Aside0 (wy.heap[g]? = some (b79 A T.length c a1 (n1 + 1) q1 b1)) := ⟨z_95⟩; replace Br : Aside0 (wy.heap[rb]? = some (b41 x.x.f0 x.x.f1 x.x.f2 x.A3 x.x.f3.length x.c3 x.A4 x.x.f4.length x.c4 x.A5 x.x.f5.length x.c5)) := ⟨z_97⟩; replace Bt : Aside0 (wy.heap[tb]? = some (b58 t0 t1 t2 t3)) := ⟨z_96⟩; replace Bs : Aside0 (wy.heap[sb]? = some (b41 x.x.f0 x.x.f1 x.x.f2 x.A3 x.x.f3.length x.c3 x.A4 x.x.f4.length x.c4 x.A5 x.x.f5.length x.c5)) := ⟨z_126⟩; replace HK : Aside0 (KeepBut w wy g none) := ⟨z_99⟩; clear hq; replace gz := five_ Bg.out; replace rz := sixc Br.out; replace tz := four Bt.out; replace sz := sixc Bs.out; refine bodyPost_ret (v := SV.val x) (z_146) rfl ?_; obtain ⟨op_, h1, h2⟩ := Ex.out; exact z_143
  have h := HL.out; clear HL; rw [if_neg h6] at h; have HL := A_0 h; clear h; have z1 : (x.x.f0 != 6) = true := bne_iff_ne.2 (fun e => h6 (.inl e)); have z2 : (x.x.f0 != 7) = true := bne_iff_ne.2 (fun e => h6 (.inr e)); clear h6
  go_wp2_with fail
  obtain ⟨⟨h0, h1⟩, hcase⟩ := wantK_some HL.out; clear HL; dsimp only at h0 h1 hcase; rcases hcase with ⟨hq, h⟩ | ⟨hq, rfl⟩
  rotate_left
  ·(with_reducible refine (want_L g A c T a1 n1 q1 b1 _ ⟨#[59]⟩ (⟨Bg.out, Kd.F_keep HT0.out HK.out (fun _ h => h)⟩ : RD _ g A c T _) h0 h1).mono ?_)
   intro e wn hp; unfold wantP at hp; rw [if_neg (by rw [hq]; simp)] at hp; obtain ⟨rfl, hk⟩ := hp.err; exact z_77
  (with_reducible refine (want_L g A c T a1 n1 q1 b1 _ ⟨#[59]⟩ (⟨Bg.out, Kd.F_keep HT0.out HK.out (fun _ h => h)⟩ : RD _ g A c T _) h0 h1).mono ?_)
  intro e wn hp; unfold wantP at hp; rw [if_pos hq] at hp; obtain ⟨rfl, hx, hk⟩ := hp.ok; have HL := A_0 h; clear hp hq h h0 h1; unfold tokV; replace Ex : Aside0 (∃ op_ : Nat → Prop, SV.ok wn op_ x ∧ ∀ k, op_ k → w.heap.size ≤ k ∧ k ≠ rb ∧ k ≠ tb ∧ k ≠ sb) := ⟨z_145⟩; replace Bg : Aside0 (wn.heap[g]? = some (b79 A T.length c (a1 + 1) n1 q1 b1)) := ⟨hx.bk⟩; replace Br := xk2 hk Br hrg; replace Bt := xk2 hk Bt htg; replace Bs := xk2 hk Bs hsg; replace HK := xk3 HK hk; clear hk hx; replace gz := five_ Bg.out; replace rz := sixc Br.out; replace tz := four Bt.out; replace sz := sixc Bs.out
  go_wp2_with fail
  obtain ⟨⟨m0, m1⟩, hcase⟩ := madeK_some HL.out; clear HL; dsimp only at m0 m1 hcase; rcases hcase with ⟨hq, h⟩ | ⟨hq, rfl⟩
  rotate_left
  ·(with_reducible refine (made_L g A c T ((a1 + 1)) n1 q1 b1 _ t0 t1 t2 t3 (⟨Bg.out, Kd.F_keep HT0.out HK.out (fun _ h => h)⟩ : RD _ g A c T _) m0 m1).mono ?_)
   intro e wn hp; unfold madeP at hp; rw [if_pos hq] at hp; obtain ⟨rfl, hk⟩ := hp.err; exact z_77
  (with_reducible refine (made_L g A c T ((a1 + 1)) n1 q1 b1 _ t0 t1 t2 t3 (⟨Bg.out, Kd.F_keep HT0.out HK.out (fun _ h => h)⟩ : RD _ g A c T _) m0 m1).mono ?_)
  intro e wn hp; unfold madeP at hp; rw [if_neg hq] at hp; obtain ⟨rfl, hx, hk⟩ := hp.ok; have h' := xsi h; clear hp hq h m0 m1; subst h'; unfold unitV; replace Ex : Aside0 (∃ op_ : Nat → Prop, SV.ok wn op_ x ∧ ∀ k, op_ k → w.heap.size ≤ k ∧ k ≠ rb ∧ k ≠ tb ∧ k ≠ sb) := ⟨z_145⟩; replace Bg : Aside0 (wn.heap[g]? = some (b79 A T.length c (a1 + 1) (n1 + 1) q1 b1)) := ⟨hx.bk⟩; replace Br := xk2 hk Br hrg; replace Bt := xk2 hk Bt htg; replace Bs := xk2 hk Bs hsg; replace HK := xk3 HK hk; clear hk hx; replace gz := five_ Bg.out; replace rz := sixc Br.out; replace tz := four Bt.out; replace sz := sixc Bs.out
  go_wp2_with fail
  generalize hq_ : World.setCell _ ⟨rb, 5, none⟩ _ = wy; have e0_ : Aside0 (∃ op_ : Nat → Prop, SV.ok wy op_ x ∧ ∀ k, op_ k → w.heap.size ≤ k ∧ k ≠ rb ∧ k ≠ tb ∧ k ≠ sb) := ⟨z_142⟩; clear Ex; have Ex := e0_; clear e0_; have hq := hq_; clear hq_; replace Bg : Aside0 (wy.heap[g]? = some (b79 A T.length c (a1 + 1) (n1 + 1) q1 b1)) := ⟨z_95⟩; replace Br : Aside0 (wy.heap[rb]? = some (b41 x.x.f0 x.x.f1 x.x.f2 x.A3 x.x.f3.length x.c3 x.A4 x.x.f4.length x.c4 x.A5 x.x.f5.length x.c5)) := ⟨z_97⟩; replace Bt : Aside0 (wy.heap[tb]? = some (b58 t0 t1 t2 t3)) := ⟨z_96⟩; replace Bs : Aside0 (wy.heap[sb]? = some (b41 x.x.f0 x.x.f1 x.x.f2 x.A3 x.x.f3.length x.c3 x.A4 x.x.f4.length x.c4 x.A5 x.x.f5.length x.c5)) := ⟨z_126⟩; replace HK : Aside0 (KeepBut w wy g none) := ⟨z_99⟩; clear hq; replace gz := five_ Bg.out; replace rz := sixc Br.out; replace tz := four Bt.out; replace sz := sixc Bs.out; refine bodyPost_ret (v := SV.val x) (z_146) rfl ?_; obtain ⟨op_, h1, h2⟩ := Ex.out; exact z_143
 have d2 : (t0 == 2) = true := beq_iff_eq.2 e2; have h := HL.out; clear HL; rw [if_pos e2] at h; have HL := A_0 h; clear h; clear e2; go_upto_region 6 with fail; generalize hq_ : World.setCell _ ⟨g, 1, none⟩ _ = wa; have hq := hq_; clear hq_; replace Bg : Aside0 (wa.heap[g]? = some (b79 A T.length c (a + 1) n q b)) := ⟨z_73⟩; replace Br : Aside0 (wa.heap[rb]? = some (b41 0 ⟨#[]⟩ 0 none 0 0 none 0 0 none 0 0)) := ⟨z_75⟩; replace Bt : Aside0 (wa.heap[tb]? = some (b58 t0 t1 t2 t3)) := ⟨z_74⟩; replace Bs : Aside0 (wa.heap[sb]? = some (b41 0 ⟨#[]⟩ 0 none 0 0 none 0 0 none 0 0)) := ⟨by rw [← hq]; refine blk_far ?_ hsg _; exact Bs.out⟩; replace HK : Aside0 (KeepBut w wa g none) := ⟨z_76⟩; clear hq; replace gz := five_ Bg.out; replace rz := sixc Br.out; replace tz := four Bt.out; replace sz := sixc Bs.out; clear hwa h0 h1
 go_wp2_with fail
 obtain ⟨⟨h0, h1⟩, hcase⟩ := wantK_some HL.out; clear HL; dsimp only at h0 h1 hcase; rcases hcase with ⟨hq, h⟩ | ⟨hq, rfl⟩
 rotate_left
 ·(with_reducible refine (want_L g A c T ((a + 1)) n q b _ ⟨#[61]⟩ (⟨Bg.out, Kd.F_keep HT0.out HK.out (fun _ h => h)⟩ : RD _ g A c T _) h0 h1).mono ?_)
  intro e wn hp; unfold wantP at hp; rw [if_neg (by rw [hq]; simp)] at hp; obtain ⟨rfl, hk⟩ := hp.err; exact z_77
 (with_reducible refine (want_L g A c T ((a + 1)) n q b _ ⟨#[61]⟩ (⟨Bg.out, Kd.F_keep HT0.out HK.out (fun _ h => h)⟩ : RD _ g A c T _) h0 h1).mono ?_)
 intro e wn hp; unfold wantP at hp; rw [if_pos hq] at hp; obtain ⟨rfl, hx, hk⟩ := hp.ok; have HL := A_0 h; clear hp hq h h0 h1; unfold tokV; replace Bg : Aside0 (wn.heap[g]? = some (b79 A T.length c ((a + 1) + 1) n q b)) := ⟨hx.bk⟩; replace Br := xk2 hk Br hrg; replace Bt := xk2 hk Bt htg; replace Bs := xk2 hk Bs hsg; replace HK := xk3 HK hk; clear hk hx; replace gz := five_ Bg.out; replace rz := sixc Br.out; replace tz := four Bt.out; replace sz := sixc Bs.out; go_upto_region 7 with fail; have HSZ := A_0 (show w.heap.size ≤ wn.drew.heap.size ∧ rb < wn.drew.heap.size ∧ tb < wn.drew.heap.size ∧ sb < wn.drew.heap.size from ⟨keep_size HK.out, blk_lt Br.out, blk_lt Bt.out, blk_lt Bs.out⟩); rcases exK_some HL.out with ⟨er, at_, hab, rfl⟩ | ⟨p0, s1, hab, h⟩
 ·first | go_region_dies | fail
  all_goals (refine (expr_L T ab AC.out (((a + 1) + 1)) n q b (.error (er, at_)) g A c _ hab (RD.drew (⟨Bg.out, Kd.F_keep HT0.out HK.out (fun _ h => h)⟩ : RD _ g A c T _))).mono ?_)
  all_goals (intro e wn hp; obtain ⟨rfl, hk⟩ := PExp.err hp; exact z_77)
 go_region_law ((first | (go_simp; refine (expr_L T ab AC.out (((a + 1) + 1)) n q b (.ok (p0, s1)) g A c _ hab (RD.drew (⟨Bg.out, Kd.F_keep HT0.out HK.out (fun _ h => h)⟩ : RD _ g A c T _))).mono ?_; intro e wn hp; obtain ⟨p, rfl, hpx, hpo, hx, hk⟩ := PExp.ok hp; clear hp; subst hpx; obtain ⟨a1, n1, q1, b1⟩ := s1; replace Bg : Aside0 (wn.heap[g]? = some (b79 A T.length c a1 n1 q1 b1)) := ⟨hx.bk⟩; replace Br := xk2 hk Br hrg; replace Bt := xk2 hk Bt htg; replace Bs := xk2 hk Bs hsg; replace HK := xk3 HK hk; clear gz rz tz sz hk hx; have gz := five_ Bg.out; have rz := sixc Br.out; have tz := four Bt.out; have sz := sixc Bs.out; have Ep : Aside0 (∃ op_ : Nat → Prop, PV.ok wn op_ p ∧ ∀ k, op_ k → w.heap.size ≤ k ∧ k ≠ rb ∧ k ≠ tb ∧ k ≠ sb) := ⟨⟨_, hpo, fun k hk => by have := hk.1; have := HSZ.out; omega⟩⟩; clear HSZ hpo; have ltr := blk_lt Br.out; have ltt := blk_lt Bt.out; have lts := blk_lt Bs.out; unfold PV.eval; dsimp only)))
 all_goals
  go_upto_region 10 with fail
  clear HL hab ltr ltt lts; have HL := A_0 h; clear h; generalize hgn_ : wn.heap.size = nb; have HNB := A_0 hgn_; clear hgn_; generalize hq_ : World.setCell _ ⟨sb, 5, none⟩ _ = wv; have e0_ : Aside0 (∃ op_ : Nat → Prop, PV.ok wv op_ p ∧ ∀ k, op_ k → w.heap.size ≤ k ∧ k ≠ rb ∧ k ≠ tb ∧ k ≠ sb) := ⟨z_112⟩; clear Ep; have Ep := e0_; clear e0_; have hq := hq_; clear hq_; have n0_ : Aside0 (wv.heap[g]? = some (b79 A T.length c a1 n1 q1 b1)) := ⟨z_113⟩; have n1_ : Aside0 (wv.heap[rb]? = some (b41 0 ⟨#[]⟩ 0 none 0 0 none 0 0 none 0 0)) := ⟨z_114⟩; have n2_ : Aside0 (wv.heap[tb]? = some (b58 t0 t1 t2 t3)) := ⟨by rw [← hq]; refine bf6 ?_ hts; exact Bt.out⟩; have n3_ : Aside0 (wv.heap[sb]? = some (b41 2 t1 0 (some ⟨nb, 0, none⟩) 1 1 none 0 0 none 0 0)) := ⟨z_115⟩; have nk_ : Aside0 (KeepBut w wv g none) := ⟨z_116⟩; have HSM := A_0 (show (∀ k, k ≠ sb → wv.heap[k]? = wn.heap[k]?) ∧ wv.heap.size = wn.heap.size from ⟨fun k hs => by rw [← hq]; rw [Below.heap_setCell _ _ _ k hs]; rw [Below.heap_setCell _ _ _ k hs]; rw [Below.heap_setCell _ _ _ k hs]; rw [Below.heap_setCell _ _ _ k hs]; rw [Below.heap_setCell _ _ _ k hs]; rw [Below.heap_setCell _ _ _ k hs], by rw [← hq]; simp [World.setCell]⟩)
  clear gz; clear rz; clear tz; clear sz; clear hq HK Bg Br Bt Bs; have Bg := n0_; have Br := n1_; have Bt := n2_; have Bs := n3_; have HK := nk_; clear nk_ n0_ n1_ n2_ n3_; have gz := five_ Bg.out; have rz := sixc Br.out; have tz := four Bt.out; have sz := sixc Bs.out; have hg_ : wv.heap.size = nb := HSM.out.2.trans HNB.out; clear HSM HNB; generalize hqa : World.alloc wv _ = wz; have hb : Below wv.heap.size wv wz := z_91; have n0_ := A_0 (show wz.heap[nb]? = some (b38 p.x.f0 p.x.f1 p.x.f2 p.x.f3 p.A p.x.f4.length p.c) from z_138); have nk_ := xk1 HK hb; have n3_ := A_0 (show w.heap.size ≤ nb from by rw [← hg_]; exact keep_size HK.out)
  have m0_ := xk4 Bg hb; have k0_ := A_0 (show nb ≠ g by rw [← hg_]; exact z_71)
  have m1_ := xk4 Br hb; have k1_ := A_0 (show nb ≠ rb by rw [← hg_]; exact z_79)
  have m2_ := xk4 Bt hb; have k2_ := A_0 (show nb ≠ tb by rw [← hg_]; exact z_72)
  have m3_ := xk4 Bs hb; have k3_ := A_0 (show nb ≠ sb by rw [← hg_]; exact Ne.symm (xnl (blk_lt Bs.out)))
  have e0_ : Aside0 (∃ op_ : Nat → Prop, PV.ok wz op_ p ∧ ∀ k, op_ k → w.heap.size ≤ k ∧ k ≠ rb ∧ k ≠ tb ∧ k ≠ sb ∧ k ≠ nb) := ⟨z_139⟩; clear gz; clear rz; clear tz; clear sz; clear HK hb hqa hg_ Bg Br Bt Bs Ep; have HK := nk_; have Bn := n0_; have Gn := n3_; clear nk_ n0_ n3_; have Bg := m0_; have hng := k0_.out; have hgn := Ne.symm k0_.out; clear m0_ k0_; have Br := m1_; have hnr := k1_.out; have hrn := Ne.symm k1_.out; clear m1_ k1_; have Bt := m2_; have hnt := k2_.out; have htn := Ne.symm k2_.out; clear m2_ k2_; have Bs := m3_; have hns := k3_.out; have hsn := Ne.symm k3_.out; clear m3_ k3_; have Ep := e0_; clear e0_; have gz := five_ Bg.out; have rz := sixc Br.out; have tz := four Bt.out; have sz := sixc Bs.out; have nz := five_ Bn.out
  have Eu : Aside0 (∃ op_ : Nat → Prop, AV.ok wz op_ (⟨[p.x], some ⟨nb, 0, none⟩, 1⟩ : AV) ∧ ∀ k, op_ k → w.heap.size ≤ k ∧ k ≠ rb ∧ k ≠ tb ∧ k ≠ sb) := ⟨by
   obtain ⟨op_, h1, h2⟩ := Ep.out; refine ⟨_, ⟨F_one Bn.out h1, xlr _⟩, fun k hk => ?_⟩; have hgn := Gn.out; have hlt_ := HLT.out; rcases hk with z | z
   ·have := h2 k z; omega
   ·rw [z]; omega⟩
  clear Ep Bn; clear nz; have h := HL.out; clear HL; unfold endS at h; rw [if_neg (by simp)] at h; have HL := A_0 h; clear h
  go_wp2_with fail
  obtain ⟨⟨h0, h1⟩, hcase⟩ := wantK_some HL.out; clear HL; dsimp only at h0 h1 hcase; rcases hcase with ⟨hq, h⟩ | ⟨hq, rfl⟩
  rotate_left
  ·(with_reducible refine (want_L g A c T a1 n1 q1 b1 _ ⟨#[59]⟩ (⟨Bg.out, Kd.F_keep HT0.out HK.out (fun _ h => h)⟩ : RD _ g A c T _) h0 h1).mono ?_)
   intro e wn hp; unfold wantP at hp; rw [if_neg (by rw [hq]; simp)] at hp; obtain ⟨rfl, hk⟩ := hp.err; exact z_77
  (with_reducible refine (want_L g A c T a1 n1 q1 b1 _ ⟨#[59]⟩ (⟨Bg.out, Kd.F_keep HT0.out HK.out (fun _ h => h)⟩ : RD _ g A c T _) h0 h1).mono ?_)
  intro e wn hp; unfold wantP at hp; rw [if_pos hq] at hp; obtain ⟨rfl, hx, hk⟩ := hp.ok; have HL := A_0 h; clear hp hq h h0 h1; unfold tokV; replace Eu : Aside0 (∃ op_ : Nat → Prop, AV.ok wn op_ (⟨[p.x], some ⟨nb, 0, none⟩, 1⟩ : AV) ∧ ∀ k, op_ k → w.heap.size ≤ k ∧ k ≠ rb ∧ k ≠ tb ∧ k ≠ sb) := ⟨z_117⟩; replace Bg : Aside0 (wn.heap[g]? = some (b79 A T.length c (a1 + 1) n1 q1 b1)) := ⟨hx.bk⟩; replace Br := xk2 hk Br hrg; replace Bt := xk2 hk Bt htg; replace Bs := xk2 hk Bs hsg; replace HK := xk3 HK hk; clear hk hx; replace gz := five_ Bg.out; replace rz := sixc Br.out; replace tz := four Bt.out; replace sz := sixc Bs.out
  go_wp2_with fail
  obtain ⟨⟨m0, m1⟩, hcase⟩ := madeK_some HL.out; clear HL; dsimp only at m0 m1 hcase; rcases hcase with ⟨hq, h⟩ | ⟨hq, rfl⟩
  rotate_left
  ·(with_reducible refine (made_L g A c T ((a1 + 1)) n1 q1 b1 _ t0 t1 t2 t3 (⟨Bg.out, Kd.F_keep HT0.out HK.out (fun _ h => h)⟩ : RD _ g A c T _) m0 m1).mono ?_)
   intro e wn hp; unfold madeP at hp; rw [if_pos hq] at hp; obtain ⟨rfl, hk⟩ := hp.err; exact z_77
  (with_reducible refine (made_L g A c T ((a1 + 1)) n1 q1 b1 _ t0 t1 t2 t3 (⟨Bg.out, Kd.F_keep HT0.out HK.out (fun _ h => h)⟩ : RD _ g A c T _) m0 m1).mono ?_)
  intro e wn hp; unfold madeP at hp; rw [if_neg hq] at hp; obtain ⟨rfl, hx, hk⟩ := hp.ok; have h' := xsi h; clear hp hq h m0 m1; subst h'; unfold unitV; replace Eu : Aside0 (∃ op_ : Nat → Prop, AV.ok wn op_ (⟨[p.x], some ⟨nb, 0, none⟩, 1⟩ : AV) ∧ ∀ k, op_ k → w.heap.size ≤ k ∧ k ≠ rb ∧ k ≠ tb ∧ k ≠ sb) := ⟨z_117⟩; replace Bg : Aside0 (wn.heap[g]? = some (b79 A T.length c (a1 + 1) (n1 + 1) q1 b1)) := ⟨hx.bk⟩; replace Br := xk2 hk Br hrg; replace Bt := xk2 hk Bt htg; replace Bs := xk2 hk Bs hsg; replace HK := xk3 HK hk; clear hk hx; replace gz := five_ Bg.out; replace rz := sixc Br.out; replace tz := four Bt.out; replace sz := sixc Bs.out
  go_wp2_with fail
  generalize hq_ : World.setCell _ ⟨rb, 5, none⟩ _ = wy; have e0_ : Aside0 (∃ op_ : Nat → Prop, AV.ok wy op_ (⟨[p.x], some ⟨nb, 0, none⟩, 1⟩ : AV) ∧ ∀ k, op_ k → w.heap.size ≤ k ∧ k ≠ rb ∧ k ≠ tb ∧ k ≠ sb) := ⟨z_124⟩; clear Eu; have Eu := e0_; clear e0_; have hq := hq_; clear hq_; replace Bg : Aside0 (wy.heap[g]? = some (b79 A T.length c (a1 + 1) (n1 + 1) q1 b1)) := ⟨z_95⟩; replace Br : Aside0 (wy.heap[rb]? = some (b41 2 t1 0 (some ⟨nb, 0, none⟩) 1 1 none 0 0 none 0 0)) := ⟨z_97⟩; replace Bt : Aside0 (wy.heap[tb]? = some (b58 t0 t1 t2 t3)) := ⟨z_96⟩; replace Bs : Aside0 (wy.heap[sb]? = some (b41 2 t1 0 (some ⟨nb, 0, none⟩) 1 1 none 0 0 none 0 0)) := ⟨z_126⟩; replace HK : Aside0 (KeepBut w wy g none) := ⟨z_99⟩; clear hq; replace gz := five_ Bg.out; replace rz := sixc Br.out; replace tz := four Bt.out; replace sz := sixc Bs.out; refine bodyPost_ret (v := SV.val ⟨⟨2, t1, 0, [p.x], [], []⟩, some ⟨nb, 0, none⟩, 1, none, 0, none, 0⟩) (z_146) rfl ?_; obtain ⟨o1, hu1, hu2⟩ := Eu.out; exact ⟨HK.out, ⟨⟨2, t1, 0, [p.x], [], []⟩, some ⟨nb, 0, none⟩, 1, none, 0, none, 0⟩, rfl, rfl, ⟨(hu1.bound.mono (fun k hk => ⟨(hu2 k hk.1).1, hk.2⟩)), ⟨Kd.F_nil _ _ _, xlr _⟩, ⟨Kd.F_nil _ _ _, xlr _⟩⟩, ⟨Bg.out, Kd.F_keep HT0.out HK.out (fun _ h => h)⟩⟩
def exG (T : List S58) : Nat → (PSt → Option Res) × (Int → PSt → Option Res)
 | 0 => (fun _ => none, fun _ _ => none)
 | h + 1 => (valS T (exG T h).1 (exG T h).2, stepF T (exG T h).1 (exG T h).2 (T.length + 1))
theorem exG_ok (T : List S58) : ∀ h, OneC T (exG T h).1 ∧ AboC T (exG T h).2
 | 0 => ⟨fun s r g A c w h => absurd h (by simp [exG]), fun least s r g A c w h => absurd h (by simp [exG])⟩
 | h + 1 => ⟨one_L T _ (exG_ok T h).1 _ (exG_ok T h).2, above_step T _ (exG_ok T h).1 _ (exG_ok T h).2 _⟩
def stG (T : List S58) (ab : Int → PSt → Option Res) : Nat → PSt → Option SRes
 | 0 => fun _ => none
 | h + 1 => stmtS T ab (wordS T ab (stG T ab h) (T.length + 1))
theorem stG_ok (T : List S58) (ab : Int → PSt → Option Res) (AC : AboC T ab) : ∀ h, StmC T (stG T ab h)
 | 0 => fun s r g A c w h => absurd h (by simp [stG])
 | h + 1 => stmt_whole T ab AC _ (worded_L T ab AC _ (stG_ok T ab AC h) _)
def Tot {α : Type} (N : Int) (o : Option (Except Er α)) (Q : α → Prop) : Prop := ∃ r, o = some r ∧ match r with
 | .ok x => Q x
 | .error e => (0 ≤ e.2 ∧ e.2 ≤ N) ∧ (e.1 = 40 ∨ e.1 = 41 ∨ e.1 = 42)
theorem Tot.mono {α : Type} {N : Int} {o : Option (Except Er α)} {Q Q' : α → Prop} (h : Tot N o Q) (hq : ∀ x, Q x → Q' x) : Tot N o Q' := by
 obtain ⟨r, h1, h2⟩ := h; refine ⟨r, h1, ?_⟩; cases r with
 | ok x => exact hq x h2
 | error e => exact h2
theorem tot_ok {α : Type} {N : Int} {x : α} {Q : α → Prop} (h : Q x) : Tot N (some (.ok x)) Q := ⟨_, rfl, h⟩
theorem tot_err {α : Type} {N : Int} {er at_ : Int} {Q : α → Prop} (h : 0 ≤ at_ ∧ at_ ≤ N) (he : er = 40 ∨ er = 41 ∨ er = 42 := by decide) : Tot N (some (.error (er, at_)) : Option (Except Er α)) Q := ⟨_, rfl, h, he⟩
structure TokT (T : List S58) (N : Int) : Prop where
 pos : 0 < T.length
 last : (rd_T58 T ((T.length : Int) - 1)).f0 = 0
 place : ∀ i : Int, 0 ≤ i → i < T.length → 0 ≤ (rd_T58 T i).f3 ∧ (rd_T58 T i).f3 ≤ N
 num : ∀ i : Int, 0 ≤ i → i < T.length → (rd_T58 T i).f0 = 1 → 0 ≤ (rd_T58 T i).f2
 nam : ∀ i : Int, 0 ≤ i → i < T.length → (rd_T58 T i).f0 = 2 → nameB (lst (rd_T58 T i).f1) = true
theorem isB_kind {t : S58} {s : ByteArray} (h : isB t s = true) : t.f0 ≠ 0 := by
 intro e; unfold isB at h; rw [e] at h; simp at h
theorem TokT.next {T : List S58} {N : Int} (H : TokT T N) {i : Int} (h0 : 0 ≤ i) (h1 : i < T.length) (hk : (rd_T58 T i).f0 ≠ 0) : i + 1 < T.length := by
 rcases Int.lt_or_le (i + 1) T.length with h | h
 ·exact h
 ·have e : i = (T.length : Int) - 1 := by omega
  rw [e] at hk; exact absurd H.last hk
structure Inv (T : List S58) (s : PSt) : Prop where
 a0 : 0 ≤ s.at_
 a1 : s.at_ < T.length
 n0 : 0 ≤ s.nodes
 n1 : s.nodes ≤ 600
 o0 : 0 ≤ s.op
 o1 : s.op ≤ 48
 b0 : 0 ≤ s.bl
 b1 : s.bl ≤ 12
section
variable {α β : Type} {T : List S58} {N : Int} {s : PSt} {Q : α → Prop}
theorem tot_want {tx : ByteArray} {k : S58 → PSt → Option (Except Er α)} (H : TokT T N) (h0 : 0 ≤ s.at_) (h1 : s.at_ < T.length) (hk : (rd_T58 T s.at_).f0 ≠ 0 → s.at_ + 1 < T.length → Tot N (k (rd_T58 T s.at_) ⟨s.at_ + 1, s.nodes, s.op, s.bl⟩) Q) : Tot N (wantK T s tx k) Q := by
 unfold wantK; rw [if_pos ⟨h0, h1⟩]; cases hq : isB (rd_T58 T s.at_) tx with
 | true => rw [if_pos rfl]; exact hk (isB_kind hq) (H.next h0 h1 (isB_kind hq))
 | false => rw [if_neg (by simp)]; exact tot_err (H.place _ h0 h1)
theorem tot_enter {t3 : Int} {k : PSt → Option (Except Er α)} (h0 : 0 ≤ s.op) (h1 : s.op ≤ 48) (ht : 0 ≤ t3 ∧ t3 ≤ N) (hk : s.op + 1 ≤ 48 → Tot N (k ⟨s.at_, s.nodes, s.op + 1, s.bl⟩) Q) : Tot N (enterK s t3 k) Q := by
 unfold enterK; rw [if_pos ⟨h0, h1⟩]; by_cases hq : 48 < s.op + 1
 ·rw [if_pos hq]; exact tot_err ht
 ·rw [if_neg hq]; exact hk (by omega)
theorem tot_leave {tx : ByteArray} {k : PSt → Option (Except Er α)} (H : TokT T N) (h0 : 0 ≤ s.at_) (h1 : s.at_ < T.length) (h2 : 1 ≤ s.op) (h3 : s.op ≤ 48) (hk : s.at_ + 1 < T.length → Tot N (k ⟨s.at_ + 1, s.nodes, s.op - 1, s.bl⟩) Q) : Tot N (leaveK T s tx k) Q := by
 unfold leaveK; rw [if_pos ⟨⟨h0, h1⟩, h2, by omega⟩]
 cases hq : isB (rd_T58 T s.at_) tx with
 | true => rw [if_pos rfl]; exact hk (H.next h0 h1 (isB_kind hq))
 | false => rw [if_neg (by simp)]; exact tot_err (H.place _ h0 h1)
theorem tot_ex {o : Option (Except Er (β × PSt))} {k : β → PSt → Option (Except Er α)} (h : Tot N o (fun x => Tot N (k x.1 x.2) Q)) : Tot N (exK o k) Q := by
 obtain ⟨r, h1, h2⟩ := h; rw [h1]; cases r with
 | ok x => exact h2
 | error e => exact ⟨_, rfl, h2⟩
theorem tot_open {k : PSt → Option (Except Er α)} (h0 : 1 ≤ s.op) (h1 : s.op ≤ 100) (hk : Tot N (k ⟨s.at_, s.nodes, s.op - 1, s.bl⟩) Q) : Tot N (openK s k) Q := by
 unfold openK; rw [if_pos ⟨h0, h1⟩]; exact hk
theorem tot_close {k : PSt → Option (Except Er α)} (h0 : 1 ≤ s.bl) (h1 : s.bl ≤ 100) (hk : Tot N (k ⟨s.at_, s.nodes, s.op, s.bl - 1⟩) Q) : Tot N (closeK s k) Q := by
 unfold closeK; rw [if_pos ⟨h0, h1⟩]; exact hk
theorem tot_deeper {t3 : Int} {k : PSt → Option (Except Er α)} (h0 : 0 ≤ s.bl) (h1 : s.bl ≤ 12) (ht : 0 ≤ t3 ∧ t3 ≤ N) (hk : s.bl + 1 ≤ 12 → Tot N (k ⟨s.at_, s.nodes, s.op, s.bl + 1⟩) Q) : Tot N (deeperK s t3 k) Q := by
 unfold deeperK; rw [if_pos ⟨h0, h1⟩]; by_cases hq : 12 < s.bl + 1
 ·rw [if_pos hq]; exact tot_err ht
 ·rw [if_neg hq]; exact hk (by omega)
theorem tot_made {t3 : Int} {k : PSt → Option (Except Er α)} (h0 : 0 ≤ s.nodes) (h1 : s.nodes ≤ 600) (ht : 0 ≤ t3 ∧ t3 ≤ N) (hk : s.nodes + 1 ≤ 600 → Tot N (k ⟨s.at_, s.nodes + 1, s.op, s.bl⟩) Q) : Tot N (madeK s t3 k) Q := by
 unfold madeK; rw [if_pos ⟨h0, h1⟩]; by_cases hq : 600 < s.nodes + 1
 ·rw [if_pos hq]; exact tot_err ht
 ·rw [if_neg hq]; exact hk (by omega)
theorem tot_kind {kd : Int} {k : S58 → PSt → Option (Except Er α)} (H : TokT T N) (h0 : 0 ≤ s.at_) (h1 : s.at_ < T.length) (hkd : kd ≠ 0) (hk : (rd_T58 T s.at_).f0 = kd → s.at_ + 1 < T.length → Tot N (k (rd_T58 T s.at_) ⟨s.at_ + 1, s.nodes, s.op, s.bl⟩) Q) : Tot N (kindK T s kd k) Q := by
 unfold kindK; rw [if_pos ⟨h0, h1⟩]; by_cases hq : (rd_T58 T s.at_).f0 = kd
 ·rw [if_pos hq]; exact hk hq (H.next h0 h1 (by rw [hq]; exact hkd))
 ·rw [if_neg hq]; exact tot_err (H.place _ h0 h1)
theorem tot_is {tx : ByteArray} {k1 k2 : Option (Except Er α)} (H : TokT T N) (h0 : 0 ≤ s.at_) (h1 : s.at_ < T.length) (hk1 : s.at_ + 1 < T.length → Tot N k1 Q) (hk2 : Tot N k2 Q) : Tot N (isK T s tx k1 k2) Q := by
 unfold isK; rw [if_pos ⟨h0, h1⟩]; cases hq : isB (rd_T58 T s.at_) tx with
 | true => rw [if_pos rfl]; exact hk1 (H.next h0 h1 (isB_kind hq))
 | false => rw [if_neg (by simp)]; exact hk2
end
theorem tot_node {N : Int} {s : PSt} {t3 k nm : Int} {st : ByteArray} {op : Int} {ps : List (S38 × Int)} {Q : (S38 × Int) × PSt → Prop} (h0 : 0 ≤ s.nodes) (h1 : s.nodes ≤ 600) (hp : ∀ p ∈ ps, 1 ≤ p.2 ∧ p.2 ≤ 48) (ht : 0 ≤ t3 ∧ t3 ≤ N)
  (hk : deepQ ps 1 ≤ 48 → s.nodes + 1 ≤ 600 → Q ((⟨k, nm, st, op, ps.map (·.1)⟩, deepQ ps 1), ⟨s.at_, s.nodes + 1, s.op, s.bl⟩)) : Tot N (nodeK s t3 k nm st op ps) Q := by
 unfold nodeK; rw [if_pos ⟨⟨h0, h1⟩, fun p hpp => ⟨by have := hp p hpp; omega, (hp p hpp).2⟩⟩]; unfold nodeQ; by_cases hd : 48 < deepQ ps 1
 ·rw [if_pos hd]; exact tot_err ht
 ·rw [if_neg hd]
  by_cases hn : 600 < s.nodes + 1
  ·rw [if_pos hn]; exact tot_err ht
  ·rw [if_neg hn]; exact tot_ok (hk (by omega) (by omega))
def ExQ (T : List S58) (s : PSt) (x : (S38 × Int) × PSt) : Prop :=
 (s.at_ < x.2.at_ ∧ x.2.at_ < T.length) ∧ x.2.nodes = s.nodes + (cntE x.1.1 : Int) ∧ x.2.nodes ≤ 600 ∧ x.2.op = s.op ∧ x.2.bl = s.bl ∧ fitE x.1.1 = true ∧ ((deepE x.1.1 : Nat) : Int) = x.1.2 ∧ 1 ≤ x.1.2 ∧ x.1.2 ≤ 48
theorem rank_bd (x : ByteArray) : ((tree_Rank.f x).getD (0, 0)).1 = 0 ∨ ((1 ≤ ((tree_Rank.f x).getD (0, 0)).1 ∧ ((tree_Rank.f x).getD (0, 0)).1 ≤ 8) ∧ 1 ≤ ((tree_Rank.f x).getD (0, 0)).2 ∧ ((tree_Rank.f x).getD (0, 0)).2 ≤ 16) := by
 unfold tree_Rank.f; by_cases c0 : x.toList = ([124] : List UInt8)
 ·rw [if_pos c0]; exact .inr (by decide)
 rw [if_neg c0]; by_cases c1 : x.toList = ([94] : List UInt8)
 ·rw [if_pos c1]; exact .inr (by decide)
 rw [if_neg c1]; by_cases c2 : x.toList = ([38] : List UInt8)
 ·rw [if_pos c2]; exact .inr (by decide)
 rw [if_neg c2]; by_cases c3 : x.toList = ([61, 61] : List UInt8)
 ·rw [if_pos c3]; exact .inr (by decide)
 rw [if_neg c3]; by_cases c4 : x.toList = ([33, 61] : List UInt8)
 ·rw [if_pos c4]; exact .inr (by decide)
 rw [if_neg c4]; by_cases c5 : x.toList = ([60] : List UInt8)
 ·rw [if_pos c5]; exact .inr (by decide)
 rw [if_neg c5]; by_cases c6 : x.toList = ([60, 61] : List UInt8)
 ·rw [if_pos c6]; exact .inr (by decide)
 rw [if_neg c6]; by_cases c7 : x.toList = ([62] : List UInt8)
 ·rw [if_pos c7]; exact .inr (by decide)
 rw [if_neg c7]; by_cases c8 : x.toList = ([62, 61] : List UInt8)
 ·rw [if_pos c8]; exact .inr (by decide)
 rw [if_neg c8]; by_cases c9 : x.toList = ([60, 60] : List UInt8)
 ·rw [if_pos c9]; exact .inr (by decide)
 rw [if_neg c9]; by_cases c10 : x.toList = ([62, 62] : List UInt8)
 ·rw [if_pos c10]; exact .inr (by decide)
 rw [if_neg c10]; by_cases c11 : x.toList = ([43] : List UInt8)
 ·rw [if_pos c11]; exact .inr (by decide)
 rw [if_neg c11]; by_cases c12 : x.toList = ([45] : List UInt8)
 ·rw [if_pos c12]; exact .inr (by decide)
 rw [if_neg c12]; by_cases c13 : x.toList = ([42] : List UInt8)
 ·rw [if_pos c13]; exact .inr (by decide)
 rw [if_neg c13]; by_cases c14 : x.toList = ([47] : List UInt8)
 ·rw [if_pos c14]; exact .inr (by decide)
 rw [if_neg c14]; by_cases c15 : x.toList = ([37] : List UInt8)
 ·rw [if_pos c15]; exact .inr (by decide)
 rw [if_neg c15]; exact .inl (by decide)
theorem rankOf_bd (t : S58) : (rankOf t).1 = 0 ∨ (t.f0 = 4 ∧ (1 ≤ (rankOf t).1 ∧ (rankOf t).1 ≤ 8) ∧ 1 ≤ (rankOf t).2 ∧ (rankOf t).2 ≤ 16) := by
 unfold rankOf; by_cases h : t.f0 = 4
 ·rw [if_pos h]
  rcases rank_bd t.f1 with z | z
  ·exact .inl z
  ·exact .inr ⟨h, z⟩
 ·rw [if_neg h]; exact .inl rfl
theorem empB : ((⟨#[]⟩ : ByteArray).toList == ([] : List UInt8)) = true := by
 have : (⟨#[]⟩ : ByteArray).toList = [] := by rw [toList_eq]
 rw [this]; rfl
theorem fit_num (n : Int) (h : 0 ≤ n) : fitE ⟨1, n, ⟨#[]⟩, 0, []⟩ = true := by
 simp only [fitE, fitL, wantE, fieldsB, numB, nmB, opB, List.length_nil, empB]; simp [h]
theorem fit_name (s : ByteArray) (h : nameB (lst s) = true) : fitE ⟨2, 0, s, 0, []⟩ = true := by
 simp only [fitE, fitL, wantE, fieldsB, numB, nmB, opB, List.length_nil]; simp [h]
theorem fit_mem (p : S38) (h : fitE p = true) : fitE ⟨3, 0, ⟨#[]⟩, 0, [p]⟩ = true := by
 simp only [fitE, fitL, wantE, fieldsB, numB, nmB, opB, List.length_cons, List.length_nil, empB, h]
 decide
theorem fit_one (p : S38) (op : Int) (h : fitE p = true) (h0 : 19 ≤ op) (h1 : op ≤ 21) : fitE ⟨4, 0, ⟨#[]⟩, op, [p]⟩ = true := by
 simp only [fitE, fitL, wantE, fieldsB, numB, nmB, opB, List.length_cons, List.length_nil, empB, h]; simp [h0, h1]
theorem fit_two (p y : S38) (op : Int) (h : fitE p = true) (hy : fitE y = true) (h0 : 1 ≤ op) (h1 : op ≤ 18) : fitE ⟨5, 0, ⟨#[]⟩, op, [p, y]⟩ = true := by
 simp only [fitE, fitL, wantE, fieldsB, numB, nmB, opB, List.length_cons, List.length_nil, empB, h, hy]; simp [h0, h1]
theorem exq_node0 {T : List S58} {s : PSt} {e : S38} {d : Int} {a : Int} (ha : s.at_ < a) (ha1 : a < T.length) (hn : s.nodes + 1 ≤ 600) (he : e.f4 = []) (hf : fitE e = true) (hd : d = 1) : ExQ T s ((e, d), ⟨a, s.nodes + 1, s.op, s.bl⟩) := by
 obtain ⟨e0, e1, e2, e3, e4⟩ := e; dsimp only at he; subst he; refine ⟨⟨ha, ha1⟩, ?_, hn, rfl, rfl, hf, ?_, by show 1 ≤ d; omega, by show d ≤ 48; omega⟩
 ·simp [cntE, cntL]
 ·simp [deepE, deepL, hd]
theorem tot_val {T : List S58} {N : Int} (H : TokT T N) (on : PSt → Option Res) (ab : Int → PSt → Option Res) (s : PSt) (I : Inv T s)
  (hO : ∀ s', Inv T s' → s.at_ < s'.at_ → Tot N (on s') (ExQ T s')) (hA : ∀ least s', 1 ≤ least → least ≤ 9 → Inv T s' → s.at_ < s'.at_ → Tot N (ab least s') (ExQ T s')) : Tot N (valS T on ab s) (ExQ T s) := by
 have hpl := H.place _ I.a0 I.a1; have i1 := I.n0; have i2 := I.n1; have i3 := I.o0; have i4 := I.o1; have i5 := I.b0; have i6 := I.b1; have i7 := I.a0; have i8 := I.a1; unfold valS; rw [if_pos ⟨I.a0, I.a1⟩]; by_cases e1 : (rd_T58 T s.at_).f0 = 1
 ·rw [if_pos e1]
  have hx := H.next I.a0 I.a1 (by rw [e1]; decide); exact tot_node I.n0 I.n1 (fun p hp => by cases hp) hpl (fun _ hn => exq_node0 (by show s.at_ < s.at_ + 1; omega) hx hn rfl (fit_num _ (H.num _ I.a0 I.a1 e1)) rfl)
 rw [if_neg e1]; by_cases e2 : (rd_T58 T s.at_).f0 = 2
 ·rw [if_pos e2]
  have hx := H.next I.a0 I.a1 (by rw [e2]; decide); exact tot_node I.n0 I.n1 (fun p hp => by cases hp) hpl (fun _ hn => exq_node0 (by show s.at_ < s.at_ + 1; omega) hx hn rfl (fit_name _ (H.nam _ I.a0 I.a1 e2)) rfl)
 rw [if_neg e2]; by_cases c0 : isB (rd_T58 T s.at_) ⟨#[40]⟩ = true
 ·rw [if_pos c0]
  have hx := H.next I.a0 I.a1 (isB_kind c0); refine tot_enter I.o0 I.o1 hpl fun ho => tot_ex ((hA 1 ⟨s.at_ + 1, s.nodes, s.op + 1, s.bl⟩ (by omega) (by omega) ⟨z_147, hx, i1, i2, z_148, ho, i5, i6⟩ (by show s.at_ < s.at_ + 1; omega)).mono ?_); rintro ⟨p, s3⟩ ⟨⟨q1, q2⟩, q3, q4, q5, q6, q7⟩; dsimp only at q1 q2 q3 q4 q5 q6 q7 ⊢; have ho_ : s.op + 1 ≤ 48 := ho; refine tot_leave H (by omega) q2 (by omega) (by omega) fun hl => tot_ok ⟨⟨by show s.at_ < s3.at_ + 1; omega, hl⟩, q3, q4, by show s3.op - 1 = s.op; omega, q6, q7⟩
 rw [if_neg c0]; by_cases c1 : isB (rd_T58 T s.at_) ⟨#[109]⟩ = true
 ·rw [if_pos c1]
  have hx := H.next I.a0 I.a1 (isB_kind c1); refine tot_want H (z_147) hx fun hk hx2 => ?_; dsimp only at hk hx2 ⊢; refine tot_enter i3 i4 (H.place _ (by omega) hx) fun ho => tot_ex ((hA 1 ⟨s.at_ + 1 + 1, s.nodes, s.op + 1, s.bl⟩ (by omega) (by omega) ⟨z_149, hx2, i1, i2, z_148, ho, i5, i6⟩ (by show s.at_ < s.at_ + 1 + 1; omega)).mono ?_); rintro ⟨p, s3⟩ ⟨⟨q1, q2⟩, q3, q4, q5, q6, q7, q8, q9, q10⟩; dsimp only at q1 q2 q3 q4 q5 q6 q7 q8 q9 q10 ⊢; have ho_ : s.op + 1 ≤ 48 := ho; refine tot_leave H (by omega) q2 (by omega) (by omega) fun hl => tot_node (by show 0 ≤ s3.nodes; omega) q4 (fun p' hp' => by obtain rfl := List.mem_singleton.1 hp'; exact ⟨q9, q10⟩) hpl fun hd hn => ?_
  have hd' : max 1 (p.2 + 1) ≤ 48 := hd; refine ⟨⟨by show s.at_ < s3.at_ + 1; omega, hl⟩, ?_, hn, by show s3.op - 1 = s.op; omega, q6, fit_mem _ q7, ?_, ?_, ?_⟩
  ·show s3.nodes + 1 = s.nodes + ((cntE ⟨3, 0, ⟨#[]⟩, 0, [p.1]⟩ : Nat) : Int)
   simp only [cntE, cntL]; omega
  ·show ((deepE ⟨3, 0, ⟨#[]⟩, 0, [p.1]⟩ : Nat) : Int) = max 1 (p.2 + 1)
   simp only [deepE, deepL]; omega
  ·show 1 ≤ max 1 (p.2 + 1); omega
  ·exact hd'
 rw [if_neg c1]
 have hcall : ∀ op : Int, 1 ≤ op → op ≤ 18 → (rd_T58 T s.at_).f0 ≠ 0 → Tot N (callS T ab (rd_T58 T s.at_).f3 op s) (ExQ T s) := by
  intro op ho0 ho1 hk0; have hx := H.next I.a0 I.a1 hk0; unfold callS; rw [if_pos ⟨I.a0, I.a1⟩]; refine tot_want H (z_147) hx fun hk hx2 => ?_; dsimp only at hk hx2 ⊢; refine tot_enter i3 i4 (H.place _ (by omega) hx) fun ho => tot_ex ((hA 1 ⟨s.at_ + 1 + 1, s.nodes, s.op + 1, s.bl⟩ (by omega) (by omega) ⟨z_149, hx2, i1, i2, z_148, ho, i5, i6⟩ (by show s.at_ < s.at_ + 1 + 1; omega)).mono ?_); rintro ⟨p, s3⟩ ⟨⟨q1, q2⟩, q3, q4, q5, q6, q7, q8, q9, q10⟩; dsimp only at q1 q2 q3 q4 q5 q6 q7 q8 q9 q10 ⊢; have ho_ : s.op + 1 ≤ 48 := ho; refine tot_want H (by omega) q2 fun hk3 hx3 => tot_ex ((hA 1 ⟨s3.at_ + 1, s3.nodes, s3.op, s3.bl⟩ (by omega) (by omega) ⟨by show 0 ≤ s3.at_ + 1; omega, hx3, by show 0 ≤ s3.nodes; omega, q4, by show 0 ≤ s3.op; omega, by show s3.op ≤ 48; omega, by show 0 ≤ s3.bl; omega, by show s3.bl ≤ 12; omega⟩ (by show s.at_ < s3.at_ + 1; omega)).mono ?_)
  rintro ⟨y, s5⟩ ⟨⟨r1, r2⟩, r3, r4, r5, r6, r7, r8, r9, r10⟩; dsimp only at r1 r2 r3 r4 r5 r6 r7 r8 r9 r10 ⊢
  refine tot_leave H (by omega) r2 (by omega) (by omega) fun hl => tot_node (by show 0 ≤ s5.nodes; omega) r4 (fun p' hp' => by
   rcases List.mem_cons.1 hp' with z | z
   ·rw [z]; exact ⟨q9, q10⟩
   ·obtain rfl := List.mem_singleton.1 z; exact ⟨r9, r10⟩) hpl fun hd hn => ?_
  have hd' : max (max 1 (p.2 + 1)) (y.2 + 1) ≤ 48 := hd; refine ⟨⟨by show s.at_ < s5.at_ + 1; omega, hl⟩, ?_, hn, by show s5.op - 1 = s.op; omega, by show s5.bl = s.bl; omega, fit_two _ _ _ q7 r7 ho0 ho1, ?_, ?_, hd'⟩
  ·show s5.nodes + 1 = s.nodes + ((cntE ⟨5, 0, ⟨#[]⟩, op, [p.1, y.1]⟩ : Nat) : Int)
   simp only [cntE, cntL]; omega
  ·show ((deepE ⟨5, 0, ⟨#[]⟩, op, [p.1, y.1]⟩ : Nat) : Int) = max (max 1 (p.2 + 1)) (y.2 + 1)
   simp only [deepE, deepL]; omega
  ·show 1 ≤ max (max 1 (p.2 + 1)) (y.2 + 1); omega
 by_cases c2 : isB (rd_T58 T s.at_) ⟨#[109, 105, 110]⟩ = true
 ·rw [if_pos c2]; exact hcall 17 (by omega) (by omega) (isB_kind c2)
 rw [if_neg c2]; by_cases c3 : isB (rd_T58 T s.at_) ⟨#[109, 97, 120]⟩ = true
 ·rw [if_pos c3]; exact hcall 18 (by omega) (by omega) (isB_kind c3)
 rw [if_neg c3]; unfold signS; rw [if_pos ⟨I.a0, I.a1⟩]
 have hsg : signOp (rd_T58 T s.at_) = none ∨ ∃ op, signOp (rd_T58 T s.at_) = some op ∧ (19 ≤ op ∧ op ≤ 21) ∧ (rd_T58 T s.at_).f0 ≠ 0 := by
  unfold signOp; by_cases d0 : isB (rd_T58 T s.at_) ⟨#[45]⟩ = true
  ·rw [if_pos d0]; exact .inr ⟨_, rfl, by decide, isB_kind d0⟩
  rw [if_neg d0]; by_cases d1 : isB (rd_T58 T s.at_) ⟨#[126]⟩ = true
  ·rw [if_pos d1]; exact .inr ⟨_, rfl, by decide, isB_kind d1⟩
  rw [if_neg d1]; by_cases d2 : isB (rd_T58 T s.at_) ⟨#[33]⟩ = true
  ·rw [if_pos d2]; exact .inr ⟨_, rfl, by decide, isB_kind d2⟩
  rw [if_neg d2]; exact .inl rfl
 rcases hsg with z | ⟨op, z, ⟨hop0, hop1⟩, hk0⟩
 ·rw [z]; exact tot_err hpl
 rw [z]; have hx := H.next I.a0 I.a1 hk0; refine tot_enter i3 i4 hpl fun ho => tot_ex ((hO ⟨s.at_ + 1, s.nodes, s.op + 1, s.bl⟩ ⟨z_147, hx, i1, i2, z_148, ho, i5, i6⟩ (by show s.at_ < s.at_ + 1; omega)).mono ?_); rintro ⟨p, s3⟩ ⟨⟨q1, q2⟩, q3, q4, q5, q6, q7, q8, q9, q10⟩; dsimp only at q1 q2 q3 q4 q5 q6 q7 q8 q9 q10 ⊢; have ho_ : s.op + 1 ≤ 48 := ho; refine tot_open (by omega) (by omega) (tot_node (by show 0 ≤ s3.nodes; omega) q4 (fun p' hp' => by obtain rfl := List.mem_singleton.1 hp'; exact ⟨q9, q10⟩) hpl fun hd hn => ?_)
 have hd' : max 1 (p.2 + 1) ≤ 48 := hd; refine ⟨⟨by show s.at_ < s3.at_; omega, q2⟩, ?_, hn, by show s3.op - 1 = s.op; omega, q6, fit_one _ _ q7 hop0 hop1, ?_, ?_, hd'⟩
 ·show s3.nodes + 1 = s.nodes + ((cntE ⟨4, 0, ⟨#[]⟩, op, [p.1]⟩ : Nat) : Int)
  simp only [cntE, cntL]; omega
 ·show ((deepE ⟨4, 0, ⟨#[]⟩, op, [p.1]⟩ : Nat) : Int) = max 1 (p.2 + 1)
  simp only [deepE, deepL]; omega
 ·show 1 ≤ max 1 (p.2 + 1); omega
theorem tot_loop {T : List S58} {N : Int} (H : TokT T N) (ab : Int → PSt → Option Res) (least : Int) (s : PSt) (I : Inv T s)
  (hA : ∀ least s', 1 ≤ least → least ≤ 9 → Inv T s' → s.at_ < s'.at_ → Tot N (ab least s') (ExQ T s')) :
  ∀ (K : Nat) (p : S38 × Int) (s1 : PSt), ExQ T s (p, s1) → (T.length : Int) - s1.at_ < K → Tot N (loopF T ab least K p s1) (ExQ T s)
 | 0, p, s1, h, hk => by
  have := h.1.2; dsimp only at this
  omega
 | K + 1, p, s1, h, hk => by
  have h' := h; obtain ⟨⟨q1, q2⟩, q3, q4, q5, q6, q7, q8, q9, q10⟩ := h; dsimp only at q1 q2 q3 q4 q5 q6 q7 q8 q9 q10; have i1 := I.n0; have i2 := I.n1; have i3 := I.o0; have i4 := I.o1; have i5 := I.b0; have i6 := I.b1; have i7 := I.a0; have i8 := I.a1; unfold loopF; have hb := rankOf_bd (rd_T58 T s1.at_); have hpl := H.place s1.at_ (by omega) q2; rw [if_pos ⟨⟨⟨by omega, q2⟩, by omega, q4⟩, ⟨by omega, q10⟩, by omega, by omega⟩]
  by_cases hr : (rankOf (rd_T58 T s1.at_)).1 < least ∨ (rankOf (rd_T58 T s1.at_)).1 = 0
  ·rw [if_pos hr]; exact tot_ok h'
  rw [if_neg hr]; rcases hb with z | ⟨z0, ⟨z1, z2⟩, z3, z4⟩
  ·exact absurd (.inr z) hr
  have hx := H.next (i := s1.at_) (by omega) q2 (by rw [z0]; decide); obtain ⟨r, e1, e2⟩ := hA ((rankOf (rd_T58 T s1.at_)).1 + 1) ⟨s1.at_ + 1, s1.nodes, s1.op, s1.bl⟩ (by omega) (by omega) ⟨by show 0 ≤ s1.at_ + 1; omega, hx, by show 0 ≤ s1.nodes; omega, q4, by show 0 ≤ s1.op; omega, by show s1.op ≤ 48; omega, by show 0 ≤ s1.bl; omega, by show s1.bl ≤ 12; omega⟩ (by show s.at_ < s1.at_ + 1; omega)
  rw [e1]; rcases r with e | ⟨y, s5⟩
  ·exact ⟨_, rfl, e2⟩
  obtain ⟨⟨r1, r2⟩, r3, r4, r5, r6, r7, r8, r9, r10⟩ := e2; dsimp only at r1 r2 r3 r4 r5 r6 r7 r8 r9 r10; dsimp only; rw [if_pos ⟨⟨by omega, r10⟩, by omega, r4⟩]
  have hdq : deepQ [p, y] 1 = max (max 1 (p.2 + 1)) (y.2 + 1) := rfl; unfold nodeQ; rw [hdq]; by_cases hd : 48 < max (max 1 (p.2 + 1)) (y.2 + 1)
  ·rw [if_pos hd]; exact tot_err hpl
  rw [if_neg hd]; by_cases hn : 600 < s5.nodes + 1
  ·rw [if_pos hn]; exact tot_err hpl
  rw [if_neg hn]; dsimp only; refine tot_loop H ab least s I hA K _ _ ⟨⟨by show s.at_ < s5.at_; omega, r2⟩, ?_, by show s5.nodes + 1 ≤ 600; omega, by show s5.op = s.op; omega, by show s5.bl = s.bl; omega, fit_two _ _ _ q7 r7 (by omega) (by omega), ?_, ?_, ?_⟩ (by show (T.length : Int) - s5.at_ < K; omega)
  ·show s5.nodes + 1 = s.nodes + ((cntE ⟨5, 0, ⟨#[]⟩, (rankOf (rd_T58 T s1.at_)).2, [p.1, y.1]⟩ : Nat) : Int)
   simp only [cntE, cntL]; omega
  ·show ((deepE ⟨5, 0, ⟨#[]⟩, (rankOf (rd_T58 T s1.at_)).2, [p.1, y.1]⟩ : Nat) : Int) = max (max 1 (p.2 + 1)) (y.2 + 1)
   simp only [deepE, deepL]; omega
  ·show 1 ≤ max (max 1 (p.2 + 1)) (y.2 + 1); omega
  ·show max (max 1 (p.2 + 1)) (y.2 + 1) ≤ 48; omega
theorem ex_tot {T : List S58} {N : Int} (H : TokT T N) : ∀ h : Nat, (∀ s, Inv T s → ((T.length : Int) - s.at_) * 2 ≤ h → Tot N ((exG T h).1 s) (ExQ T s)) ∧ (∀ least s, 1 ≤ least → least ≤ 9 → Inv T s → ((T.length : Int) - s.at_) * 2 + 1 ≤ h → Tot N ((exG T h).2 least s) (ExQ T s))
 | 0 => ⟨fun s I h => by have := I.a1; omega, fun least s _ _ I h => by have := I.a1; omega⟩
 | h + 1 => by
  obtain ⟨ih1, ih2⟩ := ex_tot H h; refine ⟨fun s I hh => tot_val H _ _ s I (fun s' I' hs => ih1 s' I' (by omega)) (fun least s' l0 l1 I' hs => ih2 least s' l0 l1 I' (by omega)), fun least s l0 l1 I hh => ?_⟩; show Tot N (stepF T (exG T h).1 (exG T h).2 (T.length + 1) least s) (ExQ T s); obtain ⟨r, e1, e2⟩ := ih1 s I (by omega); unfold stepF; rw [e1]; rcases r with e | ⟨p, s1⟩
  ·exact ⟨_, rfl, e2⟩
  refine tot_loop H (exG T h).2 least s I (fun least s' l0 l1 I' hs => ih2 least s' l0 l1 I' (by omega)) _ p s1 e2 ?_
  have := I.a0; have := e2.1.1; dsimp only at this
  omega
def ab0 (T : List S58) : Int → PSt → Option Res := (exG T (2 * T.length + 1)).2
theorem ab0_tot {T : List S58} {N : Int} (H : TokT T N) (s : PSt) (I : Inv T s) : Tot N (ab0 T 1 s) (ExQ T s) := (ex_tot H _).2 1 s (by omega) (by omega) I (by have := I.a0; omega)
theorem ab0_ok (T : List S58) : AboC T (ab0 T) := (exG_ok T _).2
def StQ (d : Int) (T : List S58) (s : PSt) (x : S41 × PSt) : Prop :=
 (s.at_ < x.2.at_ ∧ x.2.at_ < T.length) ∧ x.2.nodes = s.nodes + (cntS x.1 : Int) + d ∧ x.2.nodes ≤ 600 ∧ x.2.op = s.op ∧ x.2.bl = s.bl ∧ fitSt (fitB (12 - s.bl).toNat) x.1 = true
def BoQ (T : List S58) (s : PSt) (x : List S41 × PSt) : Prop :=
 (s.at_ < x.2.at_ ∧ x.2.at_ < T.length) ∧ x.2.nodes = s.nodes + (cntB x.1 : Int) ∧ x.2.nodes ≤ 600 ∧ x.2.op = s.op ∧ x.2.bl = s.bl - 1 ∧ x.1.all (fitSt (fitB (12 - s.bl).toNat)) = true
theorem cntB_add : ∀ (l m : List S41), cntB (l ++ m) = cntB l + cntB m
 | [], m => by simp [cntB]
 | x :: xs, m => by
  have := cntB_add xs m; simp only [List.cons_append, cntB]; omega
theorem tot_bodyL {T : List S58} {N : Int} (H : TokT T N) (st : PSt → Option SRes) (lo : Int) (hS : ∀ s', Inv T s' → lo < s'.at_ → Tot N (st s') (StQ 1 T s')) (s : PSt) (I : Inv T s) (hlo : lo < s.at_) (hbl : 1 ≤ s.bl) :
  ∀ (K : Nat) (xs : List S41) (s1 : PSt), s.at_ ≤ s1.at_ → s1.at_ < T.length → s1.nodes = s.nodes + (cntB xs : Int) → s1.nodes ≤ 600 → s1.op = s.op → s1.bl = s.bl → xs.all (fitSt (fitB (12 - s.bl).toNat)) = true → (T.length : Int) - s1.at_ < K →
   Tot N (bodyL T st K xs s1) (BoQ T s)
 | 0, xs, s1, q1, q2, q3, q4, q5, q6, q7, hk => by omega
 | K + 1, xs, s1, q1, q2, q3, q4, q5, q6, q7, hk => by
  have i1 := I.n0; have i2 := I.n1; have i3 := I.o0; have i4 := I.o1; have i5 := I.b0; have i6 := I.b1; have i7 := I.a0; have i8 := I.a1; have hl := len_cntB xs; unfold bodyL; rw [if_pos ⟨⟨by omega, q2⟩, by omega, by omega, by omega⟩]
  by_cases hb : isB (rd_T58 T s1.at_) ⟨#[125]⟩ = true
  ·rw [if_pos hb]
   have hx := H.next (i := s1.at_) (by omega) q2 (isB_kind hb); exact tot_ok ⟨⟨by show s.at_ < s1.at_ + 1; omega, hx⟩, q3, q4, q5, by show s1.bl - 1 = s.bl - 1; omega, q7⟩
  rw [if_neg hb]; refine tot_ex ((hS s1 ⟨by omega, q2, by omega, q4, by omega, by omega, by omega, by omega⟩ (by omega)).mono ?_)
  rintro ⟨x, s2⟩ ⟨⟨r1, r2⟩, r3, r4, r5, r6, r7⟩; dsimp only at r1 r2 r3 r4 r5 r6 r7 ⊢; refine tot_bodyL H st lo hS s I hlo hbl K (xs ++ [x]) s2 (by omega) r2 ?_ r4 (by omega) (by omega) ?_ (by omega)
  ·rw [cntB_add]; simp only [cntB]; omega
  ·rw [List.all_append, q7, List.all_cons, List.all_nil]
   rw [q6] at r7; rw [r7]; rfl
def BkQ (T : List S58) (s : PSt) (x : List S41 × PSt) : Prop :=
 (s.at_ < x.2.at_ ∧ x.2.at_ < T.length) ∧ x.2.nodes = s.nodes + (cntB x.1 : Int) ∧ x.2.nodes ≤ 600 ∧ x.2.op = s.op ∧ x.2.bl = s.bl ∧ fitB (12 - s.bl).toNat x.1 = true
theorem tot_body {T : List S58} {N : Int} (H : TokT T N) (st : PSt → Option SRes) (lo : Int) (hS : ∀ s', Inv T s' → lo < s'.at_ → Tot N (st s') (StQ 1 T s')) (s : PSt) (I : Inv T s) (hlo : lo < s.at_) : Tot N (bodyS T st (T.length + 1) s) (BkQ T s) := by
 have i1 := I.n0; have i2 := I.n1; have i3 := I.o0; have i4 := I.o1; have i5 := I.b0; have i6 := I.b1; have i7 := I.a0; have i8 := I.a1; unfold bodyS; refine tot_want H i7 i8 fun hk hx => ?_; refine tot_deeper i5 i6 (H.place _ i7 i8) fun hb => ?_; have hb' : s.bl + 1 ≤ 12 := hb; refine (tot_bodyL H st lo hS ⟨s.at_ + 1, s.nodes, s.op, s.bl + 1⟩ ⟨z_147, hx, i1, i2, i3, i4, by show 0 ≤ s.bl + 1; omega, hb⟩ (by show lo < s.at_ + 1; omega) (by show 1 ≤ s.bl + 1; omega) _ [] _ (Int.le_refl _) hx (by simp [cntB]) i2 rfl rfl rfl (by show (T.length : Int) - (s.at_ + 1) < _; omega)).mono ?_
 rintro ⟨l, s2⟩ ⟨⟨r1, r2⟩, r3, r4, r5, r6, r7⟩; dsimp only at r1 r2 r3 r4 r5 r6 r7; refine ⟨⟨by show s.at_ < s2.at_; omega, r2⟩, r3, r4, r5, by show s2.bl = s.bl; omega, ?_⟩
 have e : (12 - s.bl).toNat = (12 - (s.bl + 1)).toNat + 1 := by omega
 rw [e]; exact r7
theorem tot_test {T : List S58} {N : Int} (H : TokT T N) (ab : Int → PSt → Option Res) (hA : ∀ s', Inv T s' → Tot N (ab 1 s') (ExQ T s')) (s : PSt) (I : Inv T s) : Tot N (testS T ab s) (ExQ T s) := by
 have i1 := I.n0; have i2 := I.n1; have i3 := I.o0; have i4 := I.o1; have i5 := I.b0; have i6 := I.b1; have i7 := I.a0; have i8 := I.a1; unfold testS; refine tot_want H i7 i8 fun hk hx => ?_; refine tot_enter i3 i4 (H.place _ i7 i8) fun ho => tot_ex ((hA ⟨s.at_ + 1, s.nodes, s.op + 1, s.bl⟩ ⟨z_147, hx, i1, i2, z_148, ho, i5, i6⟩).mono ?_); rintro ⟨p, s3⟩ ⟨⟨q1, q2⟩, q3, q4, q5, q6, q7⟩; dsimp only at q1 q2 q3 q4 q5 q6 q7 ⊢; have ho_ : s.op + 1 ≤ 48 := ho; exact tot_leave H (by omega) q2 (by omega) (by omega) fun hl => tot_ok ⟨⟨by show s.at_ < s3.at_ + 1; omega, hl⟩, q3, q4, by show s3.op - 1 = s.op; omega, q6, q7⟩
theorem deepL_one (p : S38) : deepL [p] = deepE p := by simp [deepL]
theorem fit_stm (r : List S41 → Bool) (kd : Int) (nm : ByteArray) (cl : Int) (l : List S38) (hh : headB ⟨kd, nm, cl, l, [], []⟩ = true) (hl : loopsB kd = false) (hf : fitL l = true) (hd : deepL l ≤ 48) : fitSt r ⟨kd, nm, cl, l, [], []⟩ = true := by
 unfold fitSt; rw [hh, hf, xdt hd, hl]; rfl
theorem fitL_one {p : S38} (h : fitE p = true) : fitL [p] = true := by simp [fitL, h]
theorem fitL_two {p y : S38} (h : fitE p = true) (h' : fitE y = true) : fitL [p, y] = true := by simp [fitL, h, h']
theorem deepL_two {p y : S38} (h : deepE p ≤ 48) (h' : deepE y ≤ 48) : deepL [p, y] ≤ 48 := by simp only [deepL]; omega
theorem cntS_ex (kd : Int) (nm : ByteArray) (cl : Int) (l : List S38) : cntS ⟨kd, nm, cl, l, [], []⟩ = cntL l := by simp [cntS, cntB]
theorem tot_exS {T : List S58} {N : Int} (H : TokT T N) (ab : Int → PSt → Option Res) (hA : ∀ s', Inv T s' → Tot N (ab 1 s') (ExQ T s')) (kd : Int) (nm : ByteArray) (cl : Int) (s0 s : PSt) (I : Inv T s) (h0 : s0.at_ < s.at_) (h1 : s.nodes = s0.nodes) (h2 : s.op = s0.op) (h3 : s.bl = s0.bl)
  (hh : ∀ p : S38, headB ⟨kd, nm, cl, [p], [], []⟩ = true) (hl : loopsB kd = false) : Tot N (exS T ab kd nm cl s) (StQ 0 T s0) := by
 unfold exS; refine tot_ex ((hA s I).mono ?_); rintro ⟨p, s3⟩ ⟨⟨q1, q2⟩, q3, q4, q5, q6, q7, q8, q9, q10⟩; dsimp only at q1 q2 q3 q4 q5 q6 q7 q8 q9 q10 ⊢; refine tot_ok ⟨⟨by show s0.at_ < s3.at_; omega, q2⟩, ?_, q4, by show s3.op = s0.op; omega, by show s3.bl = s0.bl; omega, fit_stm _ _ _ _ _ (hh _) hl (fitL_one q7) (by rw [deepL_one]; omega)⟩
 show s3.nodes = s0.nodes + (cntS ⟨kd, nm, cl, [p.1], [], []⟩ : Int) + 0; rw [cntS_ex]; simp only [cntL]
 omega
theorem head_named (kd : Int) (nm : ByteArray) (p : S38) (h : kd = 1 ∨ kd = 2) (hn : nameB (lst nm) = true) : headB ⟨kd, nm, 0, [p], [], []⟩ = true := by
 rcases h with e | e <;> subst e <;> simp [headB, wantS, cellB, loopsB, hn]
theorem head_plain (kd cl : Int) (p : S38) (h : (kd = 4 ∨ kd = 8) ∧ cl = 0 ∨ kd = 5 ∧ 0 ≤ cl ∧ cl ≤ 255) : headB ⟨kd, ⟨#[]⟩, cl, [p], [], []⟩ = true := by
 have e0 : nameB (lst ⟨#[]⟩) = false := by rfl
 have e1 := empB; rcases h with ⟨e | e, z⟩ | ⟨e, z⟩
 ·subst e z; simp [headB, wantS, cellB, loopsB, e0, e1]
 ·subst e z; simp [headB, wantS, cellB, loopsB, e0, e1]
 ·subst e; simp [headB, wantS, cellB, loopsB, e0, e1, z]
theorem head_store (p y : S38) : headB ⟨3, ⟨#[]⟩, 0, [p, y], [], []⟩ = true := by
 have e0 : nameB (lst ⟨#[]⟩) = false := by rfl
 have e1 := empB; simp [headB, wantS, cellB, loopsB, e0, e1]
theorem head_stop : headB ⟨9, ⟨#[]⟩, 0, [], [], []⟩ = true := by
 have e0 : nameB (lst ⟨#[]⟩) = false := by rfl
 have e1 := empB; simp [headB, wantS, cellB, loopsB, e0, e1]
theorem fit_while (r : List S41 → Bool) (p : S38) (l : List S41) (h : fitE p = true) (hd : deepE p ≤ 48) (hr : r l = true) : fitSt r ⟨7, ⟨#[]⟩, 0, [p], l, []⟩ = true := by
 have e0 : nameB (lst ⟨#[]⟩) = false := by rfl
 have e1 := empB; have e2 : headB ⟨7, ⟨#[]⟩, 0, [p], l, []⟩ = true := by simp [headB, wantS, cellB, loopsB, e0, e1]
 unfold fitSt; rw [e2, fitL_one h, deepL_one, xdt hd, hr]; simp
theorem fit_if (r : List S41 → Bool) (p : S38) (l m : List S41) (h : fitE p = true) (hd : deepE p ≤ 48) (hr : r l = true) (hm : m = [] ∨ r m = true) : fitSt r ⟨6, ⟨#[]⟩, 0, [p], l, m⟩ = true := by
 have e0 : nameB (lst ⟨#[]⟩) = false := by rfl
 have e1 := empB; have e2 : headB ⟨6, ⟨#[]⟩, 0, [p], l, m⟩ = true := by simp [headB, wantS, cellB, loopsB, e0, e1]
 unfold fitSt; rw [e2, fitL_one h, deepL_one, xdt hd, hr]; rcases hm with z | z
 ·subst z; simp
 ·rw [z]; simp
theorem assert75 (er at_ : Int) (w : World) : (Instr.typeAssert (.iface 75 (.agg #[.int .i64 er, .int .i64 at_])) 20 75 true).run Try.prog w = .ok (.tuple #[.agg #[.int .i64 er, .int .i64 at_], .bool true]) w := by kernel_rfl
def TrapP (b : Nat) (er at_ : Int) (w : World) (e : Ending) (u' : FrameMode) (w' : World) : Prop := e = .returned (.tuple #[]) ∧ u' = .panicking [{ v := .iface 75 (.agg #[.int .i64 er, .int .i64 at_]), recovered := true }] ∧
 (w'.heap[b]? = some (.cells #[.slice none 0 0] 22 (0, 0)) ∧ w'.heap[b + 1]? = some (.cells #[.int .i64 at_] 3 (0, 0)) ∧ w'.heap[b + 2]? = some (.cells #[.int .i64 er] 24 (0, 0))) ∧ Below b w w'
theorem trap_L (b : Nat) (er at_ : Int) (v : Value) (w : World) (h0 : w.heap[b]? = some (.cells #[v] 22 (0, 0))) (h1 : w.heap[b + 1]? = some (.cells #[.int .i64 0] 3 (0, 0))) (h2 : w.heap[b + 2]? = some (.cells #[.int .i64 0] 24 (0, 0))) :
  CallsD Try.prog 45 #[.pointer (some ⟨b, 0, none⟩), .pointer (some ⟨b + 1, 0, none⟩), .pointer (some ⟨b + 2, 0, none⟩)] (.panicking [stopV er at_]) w (TrapP b er at_ w) := by
 have has := fun w => assert75 er at_ w; have hu75 : Try.prog.underlying 75 = _ := Try.underlying75; refine callsD_of_wpS Try.func45 rfl fun c₀ cs hu => ?_; have ht : (#[Value.pointer (some ⟨b, 0, none⟩), .pointer (some ⟨b + 1, 0, none⟩), .pointer (some ⟨b + 2, 0, none⟩)] ++ Array.replicate (Try.f45.ntmps - #[Value.pointer (some ⟨b, 0, none⟩), .pointer (some ⟨b + 1, 0, none⟩), .pointer (some ⟨b + 2, 0, none⟩)].size) undef : Array Value) = #[Value.pointer (some ⟨b, 0, none⟩), .pointer (some ⟨b + 1, 0, none⟩), .pointer (some ⟨b + 2, 0, none⟩), undef, undef, undef, undef, undef, undef, undef, undef, undef, undef, undef, undef, undef, undef, undef, undef, undef, undef] := by kernel_rfl
 rw [ht]
 apply wpS_seq
 apply wpS_region
 simp [wpOpsS, go_sem, recoverD, hu, stopV, Exit.thenS]
 apply wpS_seq
 apply wpS_region
 simp [wpOpsS, go_sem, recoverD, hu, Exit.thenS]; refine wpS_cond (t := true) (by simp [Act.eval]) ?_; simp only [if_true]; refine wpS_of_wp ?_; clear hu ht; have hl0 := blk_lt h0; have hl1 := blk_lt h1; have hl2 := blk_lt h2; go_upto_region 5 with fail; clear has; generalize hgx : w.heap.size = gx at *; generalize hwq : World.alloc w (Obj.cells #[Value.int IntKind.i64 er, Value.int IntKind.i64 at_] 75) = wq; have hB : Below b w wq := by rw [← hwq]; exact Below.alloc (xbr _ _) (by omega) _
 have hX : wq.heap[gx]? = some (.cells #[.int .i64 er, .int .i64 at_] 75 (0, 0)) := by rw [← hwq, ← hgx]; exact blk_new _ _
 have hY0 : wq.heap[b]? = some (.cells #[v] 22 (0, 0)) := by rw [← hwq]; exact blk_alloc h0 _
 have hY1 : wq.heap[b + 1]? = some (.cells #[.int .i64 0] 3 (0, 0)) := by rw [← hwq]; exact blk_alloc h1 _
 have hY2 : wq.heap[b + 2]? = some (.cells #[.int .i64 0] 24 (0, 0)) := by rw [← hwq]; exact blk_alloc h2 _
 have hbl : b ≤ w.heap.size := by omega
 clear hwq hgx h0 h1 h2; have HB := A_0 hB; have HY0 := A_0 hY0; have HY1 := A_0 hY1; have HY2 := A_0 hY2; obtain ⟨c0, f0⟩ := one_ hY0; obtain ⟨c1, f1⟩ := one_ hY1; obtain ⟨c2, f2⟩ := one_ hY2; have x0 := xbc hX 0; have x1 := xbc hX 1; have y0 := xbz hX 0; have y1 := xbz hX 1; replace x0 := x0.trans rfl; replace x1 := x1.trans rfl; clear hB hX hY0 hY1 hY2; have n0 : gx ≠ b := by omega
 have n1 : gx ≠ b + 1 := by omega
 have n2 : gx ≠ b + 2 := by omega
 have n0' : b ≠ gx := by omega
 have n1' : b + 1 ≠ gx := by omega
 have n2' : b + 2 ≠ gx := by omega
 clear hl0 hl1 hl2
 go_wp2_with fail
 go_region
 refine ⟨rfl, _, rfl, .tuple #[], by simp [results, Try.results45, go_sem], rfl, rfl, ⟨?_, ?_, ?_⟩, ?_⟩
 ·refine blk_drew ?_; refine blk_far ?_ (by show b ≠ b + 2; omega) _; refine blk_far ?_ (by show b ≠ b + 1; omega) _; exact blk_put (cs := #[v]) HY0.out 0 _ rfl
 ·refine blk_drew ?_; refine blk_far ?_ (by show b + 1 ≠ b + 2; omega) _; apply p1_0; exact blk_far HY1.out (by show b + 1 ≠ b; omega) _
 ·refine blk_drew ?_; apply p1_0; refine blk_far ?_ (by show b + 2 ≠ b + 1; omega) _; exact blk_far HY2.out (by show b + 2 ≠ b; omega) _
 ·exact below_drew (Below.setCell (Below.setCell (Below.setCell HB.out (xlr _) _) (Nat.le_add_right _ _) _) (Nat.le_add_right _ _) _)
def PRel (w : World) (T : List S58) (st : PSt → Option SRes) (r : Except (Int × Int) (List S41)) (g : Nat) (A : Option Addr) (c : Nat) (kq : Nat) (wq : World) : Prop :=
 ∃ (s : PSt) (Av : Option Addr) (cv : Nat) (xs : List SV), Aside0 (parsF T st kq (xs.map (·.x)) s = some r) ∧ Aside0 (PI w wq g A c T s (.slice Av xs.length cv) xs)
theorem parsF_succ {T : List S58} {st : PSt → Option SRes} {k : Nat} {xs : List S41} {s : PSt} {r : Except (Int × Int) (List S41)} (h : parsF T st (k + 1) xs s = some r) :
  ((0 ≤ s.at_ ∧ s.at_ < T.length) ∧ xs.length < 1000) ∧ (((rd_T58 T s.at_).f0 = 0 ∧ r = .ok xs) ∨ ((rd_T58 T s.at_).f0 ≠ 0 ∧ ((∃ er at_, st s = some (.error (er, at_)) ∧ r = .error (er, at_)) ∨ (∃ x s1, st s = some (.ok (x, s1)) ∧ parsF T st k (xs ++ [x]) s1 = some r)))) := by
 unfold parsF at h; by_cases hg : (0 ≤ s.at_ ∧ s.at_ < T.length) ∧ xs.length < 1000
 ·rw [if_pos hg] at h
  refine ⟨hg, ?_⟩
  by_cases h0 : (rd_T58 T s.at_).f0 = 0
  ·rw [if_pos h0] at h; exact .inl ⟨h0, (xsi h).symm⟩
  ·rw [if_neg h0] at h
   refine .inr ⟨h0, ?_⟩
   rcases hst : st s with _ | r1
   ·rw [hst] at h; cases h
   rw [hst] at h; rcases r1 with ⟨er, at_⟩ | ⟨x, s1⟩
   ·exact .inl ⟨er, at_, rfl, (xsi h).symm⟩
   ·exact .inr ⟨x, s1, rfl, h⟩
 ·rw [if_neg hg] at h; cases h
theorem par_trap {w W : World} {v : Value} {er at_ : Int} {tm : Array Value} (h : W.heap[w.heap.size]? = some (.cells #[v] 22 (0, 0)) ∧ W.heap[w.heap.size + 1]? = some (.cells #[.int .i64 0] 3 (0, 0)) ∧ W.heap[w.heap.size + 2]? = some (.cells #[.int .i64 0] 24 (0, 0)) ∧ Below w.heap.size w W)
  (hr : ∀ W' : World, W'.cell? ⟨w.heap.size, 0, none⟩ = some (.slice none 0 0) → W'.cell? ⟨w.heap.size + 1, 0, none⟩ = some (.int .i64 at_) → W'.cell? ⟨w.heap.size + 2, 0, none⟩ = some (.int .i64 er) → (results Try.f25 tm).run Try.prog W' = .ok (.tuple #[.slice none 0 0, .int .i64 at_, .int .i64 er]) W') :
  Leaves Try.prog Try.f25 tm (PPar w (.error (er, at_))) [{ target := .fn (.func 45) #[.pointer (some ⟨w.heap.size, 0, none⟩), .pointer (some ⟨w.heap.size + 1, 0, none⟩), .pointer (some ⟨w.heap.size + 2, 0, none⟩)], args := #[] }] (.panicking [stopV er at_]) W := by
 obtain ⟨hl, ha, he, hb⟩ := h; refine leaves_cons (f := 45) (args := #[.pointer (some ⟨w.heap.size, 0, none⟩), .pointer (some ⟨w.heap.size + 1, 0, none⟩), .pointer (some ⟨w.heap.size + 2, 0, none⟩)]) (by simp) (by simp [go_sem]) ?_; refine (trap_L w.heap.size er at_ v W hl ha he).mono ?_; rintro e u' w' ⟨rfl, rfl, ⟨h0, h1, h2⟩, hB⟩; have hl := hr w' (one_ h0).1 (one_ h1).1 (one_ h2).1; simp only [settle, List.dropWhile]; exact ⟨_, hl, ⟨hb.trans hB, rfl⟩⟩
theorem PI.err {w W W1 : World} {g : Nat} {A : Option Addr} {c : Nat} {T : List S58} {s : PSt} {v : Value} {xs : List SV} (h : PI w W g A c T s v xs) (hk : KeepBut W W1 g none) :
  W1.heap[w.heap.size]? = some (.cells #[v] 22 (0, 0)) ∧ W1.heap[w.heap.size + 1]? = some (.cells #[.int .i64 0] 3 (0, 0)) ∧ W1.heap[w.heap.size + 2]? = some (.cells #[.int .i64 0] 24 (0, 0)) ∧ Below w.heap.size w W1 := by
 have hgw := h.hg; have kk : ∀ k, k < W.heap.size → k ≠ g → W1.heap[k]? = W.heap[k]? := fun k hl hne => hk.2 k hl hne (by simp); exact ⟨(kk _ (blk_lt h.bl) (by omega)).trans h.bl, (kk _ (blk_lt h.ba) (by omega)).trans h.ba, (kk _ (blk_lt h.be) (by omega)).trans h.be, hk.1.1.trans h.bw.os, hk.1.2.1.trans h.bw.tape, hk.1.2.2.1.trans h.bw.output, Nat.le_trans h.bw.size hk.size, fun k hl => (kk k (Nat.lt_of_lt_of_le hl h.bw.size) (by omega)).trans (h.bw.block k hl)⟩
theorem par_idle {w W : World} {tm : Array Value} {R : Ending → World → Prop} {v : Value}
  (hr : (results Try.f25 tm).run Try.prog W = .ok v W) (hR : R (.returned v) W) :
  Leaves Try.prog Try.f25 tm R [{ target := .fn (.func 45) #[.pointer (some ⟨w.heap.size, 0, none⟩), .pointer (some ⟨w.heap.size + 1, 0, none⟩), .pointer (some ⟨w.heap.size + 2, 0, none⟩)], args := #[] }] .returning W := by
 refine leaves_cons (f := 45) (args := #[.pointer (some ⟨w.heap.size, 0, none⟩), .pointer (some ⟨w.heap.size + 1, 0, none⟩), .pointer (some ⟨w.heap.size + 2, 0, none⟩)]) (by simp) (by simp [go_sem]) ?_
 refine (idle_L _ _ _ W).mono ?_
 rintro e u' w' ⟨rfl, rfl, rfl⟩; exact ⟨_, hr, hR⟩
theorem z6_one : ∀ u ∈ z6L, u.oneCell' = true := by
 intro u hu; simp only [z6L, List.mem_cons, List.not_mem_nil, or_false] at hu; rcases hu with rfl | rfl | rfl | rfl | rfl | rfl <;> rfl
theorem part_of {w W W0 w7 : World} {g : Nat} {A : Option Addr} {c : Nat} {T : List S58} {s : PSt} {v : Value} {xs : List SV} {p : SV} (h : PI w W g A c T s v xs) (hs : W.heap.size ≤ W0.heap.size) (hp : p.ok w7 (newO W0 w7)) :
  ∃ ox : Nat → Prop, p.ok w7 ox ∧ ∀ k, ox k → w.heap.size + 3 ≤ k ∧ k ≠ g ∧ v.ownBlock ≠ some k := by
 refine ⟨_, hp, fun k hk => ?_⟩
 have h1 := hk.1; have h2 := blk_lt h.bk; have h3 := h.hg; exact ⟨by omega, by omega, fun e => by have := own_lt h.row k e; omega⟩
theorem part_alloc {w7 : World} {p : SV} {ox : Nat → Prop} (h : p.ok w7 ox) (o : Obj) : p.ok (w7.alloc o) (fun k => ox k ∧ k < w7.heap.size) := h.bound.step (fun k hk hl => (below_alloc (xbr w7.heap.size w7) o).block k hl)
theorem new_ne {w W w1 : World} {g gb : Nat} {A : Option Addr} {c : Nat} {T : List S58} {s : PSt} {v : Value} {xs : List SV} (h : PI w W g A c T s v xs) (hg : W.grownBy w1 v.ownBlock) (hv : v.ownBlock = some gb ∨ gb = W.heap.size) :
  (gb ≠ w.heap.size ∧ w.heap.size ≠ gb) ∧ w1.cell? ⟨w.heap.size, 0, none⟩ = some v ∧ w1.frozen? ⟨w.heap.size, 0, none⟩ = false := by
 have n0 := own_ne_blk h
 have hne : gb ≠ w.heap.size := by
  rcases hv with hv | hv
  ·intro e; exact n0.2.1 (by rw [hv, e])
  ·have := blk_lt h.bl; omega
 exact ⟨⟨hne, Ne.symm hne⟩, one_ (blk_grown h.bl hg (fun e => n0.2.1 e.symm))⟩
structure PFin (w w1 : World) (g gb cap : Nat) (A : Option Addr) (c : Nat) (T : List S58) (s : PSt) (xs : List SV) (x : SV) : Prop where
 a : PI w (((((((w1.setCell ⟨gb, xs.length * 6, none⟩ (.int .i64 x.x.f0)).setCell ⟨gb, xs.length * 6 + 1, none⟩ (.string x.x.f1)).setCell ⟨gb, xs.length * 6 + 2, none⟩ (.int .i64 x.x.f2)).setCell ⟨gb, xs.length * 6 + 3, none⟩ (.slice x.A3 x.x.f3.length x.c3)).setCell ⟨gb, xs.length * 6 + 4, none⟩ (.slice x.A4 x.x.f4.length x.c4)).setCell ⟨gb, xs.length * 6 + 5, none⟩ (.slice x.A5 x.x.f5.length x.c5)).setCell ⟨w.heap.size, 0, none⟩ (.slice (some ⟨gb, 0, none⟩) (xs.length + 1) cap)) g A c T s (.slice (some ⟨gb, 0, none⟩) (xs ++ [x]).length cap) (xs ++ [x])
 b : PI w (((((((w1.setCell ⟨w.heap.size, 0, none⟩ (.slice (some ⟨gb, 0, none⟩) (xs.length + 1) cap)).setCell ⟨gb, xs.length * 6, none⟩ (.int .i64 x.x.f0)).setCell ⟨gb, xs.length * 6 + 1, none⟩ (.string x.x.f1)).setCell ⟨gb, xs.length * 6 + 2, none⟩ (.int .i64 x.x.f2)).setCell ⟨gb, xs.length * 6 + 3, none⟩ (.slice x.A3 x.x.f3.length x.c3)).setCell ⟨gb, xs.length * 6 + 4, none⟩ (.slice x.A4 x.x.f4.length x.c4)).setCell ⟨gb, xs.length * 6 + 5, none⟩ (.slice x.A5 x.x.f5.length x.c5)) g A c T s (.slice (some ⟨gb, 0, none⟩) (xs ++ [x]).length cap) (xs ++ [x])
theorem PFin.mk' {w W w1 : World} {g gb cap : Nat} {A : Option Addr} {c : Nat} {T : List S58} {s : PSt} {v : Value} {xs : List SV} {x : SV} {ox : Nat → Prop} (h : PI w W g A c T s v xs)
  (hx : x.ok W ox) (hox : ∀ k, ox k → w.heap.size + 3 ≤ k ∧ k ≠ g ∧ v.ownBlock ≠ some k) (hg : W.grownBy w1 v.ownBlock) (hv : v.ownBlock = some gb ∨ gb = W.heap.size)
  (ho : w1.ownsRow w.heap.size 41 6 (.slice (some ⟨gb, 0, none⟩) (xs.length + 1) cap) (xs.length + 1) (xs.flatMap SV.cs ++ z6L)) : PFin w w1 g gb cap A c T s xs x := by
 have hf := h.finA hx hox hg (by rcases hv with hv | hv; exact .inl hv; exact .inr (Nat.le_of_eq hv.symm)) ho
 have hne : gb ≠ w.heap.size := by
  have n0 := own_ne_blk h; rcases hv with hv | hv
  ·intro e; exact n0.2.1 (by rw [hv, e])
  ·have := blk_lt h.bl; omega
 have el : (xs ++ [x]).length = xs.length + 1 := by simp
 refine ⟨by rw [el]; exact hf, ?_⟩
 rw [el]; have hc : ∀ (W : World) (j : Nat) (u u' : Value), (W.setCell ⟨w.heap.size, 0, none⟩ u).setCell ⟨gb, j, none⟩ u' = (W.setCell ⟨gb, j, none⟩ u').setCell ⟨w.heap.size, 0, none⟩ u := fun W j u u' => setCell_comm W _ _ _ _ (Ne.symm hne); rw [hc, hc, hc, hc, hc, hc]; exact hf
theorem PI.again {w W : World} {g : Nat} {A : Option Addr} {c : Nat} {T : List S58} {s : PSt} {v : Value} {xs : List SV} (h : PI w W g A c T s v xs) :
  PI w (((W.setCell ⟨w.heap.size, 0, none⟩ v).setCell ⟨w.heap.size + 1, 0, none⟩ (.int .i64 0)).setCell ⟨w.heap.size + 2, 0, none⟩ (.int .i64 0)) g A c T s v xs := by
 refine h.same ?_ (Below.setCell (Below.setCell (Below.setCell h.bw (xlr _) _) (Nat.le_add_right _ _) _) (Nat.le_add_right _ _) _)
 intro k hk; by_cases e2 : k = w.heap.size + 2
 ·subst e2
  refine (blk_put (cs := #[.int .i64 0]) ?_ 0 _ rfl).trans h.be.symm
  refine blk_far ?_ (z_150) _; exact blk_far h.be (by show w.heap.size + 2 ≠ w.heap.size; omega) _
 rw [Below.heap_setCell _ _ _ k e2]; by_cases e1 : k = w.heap.size + 1
 ·subst e1
  refine (blk_put (cs := #[.int .i64 0]) ?_ 0 _ rfl).trans h.ba.symm
  exact blk_far h.ba (by show w.heap.size + 1 ≠ w.heap.size; omega) _
 rw [Below.heap_setCell _ _ _ k e1]; by_cases e0 : k = w.heap.size
 ·subst e0
  exact (blk_put (cs := #[v]) h.bl 0 _ rfl).trans h.bl.symm
 rw [Below.heap_setCell _ _ _ k e0]
theorem parse_L (s : ByteArray) (T : List S58) (HC0 : CutC s (.ok T)) (st : PSt → Option SRes) (SC0 : StmC T st) (K : Nat) (r : Except (Int × Int) (List S41)) (HF0 : parsF T st K [] ⟨0, 0, 0, 0⟩ = some r) (w : World) : Calls Try.prog 25 #[.string s] w (PPar w r) := by
 have HC := A_0 HC0; have SC := A_0 SC0; have HF := A_0 HF0; have hmf : ∀ (fn : Fn) (first cap : Array Value) (w : World), (Instr.makeFunc fn first cap).run Try.prog w = .ok (.func fn first cap) w := fun _ _ _ _ => rfl
 clear HC0 SC0 HF0
 go_enter_defers Try.func25, Try.ntmps25
 go_upto_region 1 with fail
 generalize hw3 : World.alloc _ (.cells #[.int .i64 0] 24) = w3; have hB3 : Below w.heap.size w w3 := by rw [← hw3]; exact below_alloc (below_alloc (below_alloc (xbr _ _) _) _) _
 have hs3 : w3.heap.size = w.heap.size + 3 := by rw [← hw3]; simp
 have hl3 : w3.heap[w.heap.size]? = some (.cells #[.slice none 0 0] 22 (0, 0)) := by rw [← hw3]; exact blk_alloc (blk_alloc (blk_new _ _) _) _
 have ha3 : w3.heap[w.heap.size + 1]? = some (.cells #[.int .i64 0] 3 (0, 0)) := by rw [← hw3]; exact blk_alloc (blk_new' (by simp)) _
 have he3 : w3.heap[w.heap.size + 2]? = some (.cells #[.int .i64 0] 24 (0, 0)) := by rw [← hw3]; exact blk_new' (by simp)
 clear hw3; rw [show w.heap.size + 1 + 1 = w.heap.size + 2 from rfl]; obtain ⟨zl, fl⟩ := one_ hl3; obtain ⟨za, fa⟩ := one_ ha3; obtain ⟨ze, fe⟩ := one_ he3; have n10 : w.heap.size + 1 ≠ w.heap.size := by omega
 have HB := A_0 hB3; have HL := A_0 hl3; have HA := A_0 ha3; have HE := A_0 he3; have HS := A_0 hs3; clear hB3 hl3 ha3 he3 hs3
 go_wp2_with fail
 (with_reducible refine (HC.out.use w3).mono ?_)
 rintro e w4 ⟨A, c, rfl, hT, hb4⟩; have n0_ := A_0 (xbs HB.out hb4); have n1_ := A_0 (blk_below HL.out hb4); have n2_ := A_0 (blk_below HA.out hb4); have n3_ := A_0 (blk_below HE.out hb4); have n4_ := A_0 (show w.heap.size + 3 ≤ w4.heap.size from by have := hb4.size; have := HS.out; omega)
 have n5_ := A_0 (show Kd.F k58 w4 (fun k => w.heap.size + 3 ≤ k ∧ k < w4.heap.size) A T.length T from Kd.F_mono hT (fun k hk => ⟨by have := hk.1; have := HS.out; omega, hk.2⟩)); clear zl fl za fa ze fe HB HL HA HE HS hT hb4 HC; have HB := n0_; have HL := n1_; have HA := n2_; have HE := n3_; have HS := n4_; have HT := n5_; clear n0_ n1_ n2_ n3_ n4_ n5_; obtain ⟨zl, fl⟩ := one_ HL.out; obtain ⟨za, fa⟩ := one_ HA.out; obtain ⟨ze, fe⟩ := one_ HE.out; go_upto_region 5 with fail; generalize hw5 : World.setCell _ ⟨w.heap.size + 2, 0, none⟩ _ = w5; have n0_ : Aside0 (Below w.heap.size w w5) := ⟨z_151⟩; have n1_ : Aside0 (w5.heap[w.heap.size]? = some (.cells #[.slice none 0 0] 22 (0, 0))) := ⟨z_152⟩; have n2_ : Aside0 (w5.heap[w.heap.size + 1]? = some (.cells #[.int .i64 0] 3 (0, 0))) := ⟨z_153⟩; have n3_ : Aside0 (w5.heap[w.heap.size + 2]? = some (.cells #[.int .i64 0] 24 (0, 0))) := ⟨z_154⟩; have n5_ : Aside0 (Kd.F k58 w5 (fun k => w.heap.size + 3 ≤ k ∧ k < w4.heap.size) A T.length T) := ⟨Kd.F_step HT.out (fun k hk hl => by rw [← hw5]; rw [Below.heap_setCell _ _ _ k (by show k ≠ w.heap.size + 2; omega), Below.heap_setCell _ _ _ k (by show k ≠ w.heap.size + 1; omega)])⟩
 have n6_ : w5.heap.size = w4.heap.size := by rw [← hw5]; simp [World.setCell]
 have n4_ := A_0 (show w.heap.size + 3 ≤ w5.heap.size from by have := HS.out; omega)
 rw [← n6_] at n5_; clear zl fl za fa ze fe HB HL HA HE HS HT n6_ hw5; have HB := n0_; have HL := n1_; have HA := n2_; have HE := n3_; have HS := n4_; have HT := n5_; clear n0_ n1_ n2_ n3_ n4_ n5_; obtain ⟨zl, fl⟩ := one_ HL.out; obtain ⟨za, fa⟩ := one_ HA.out; obtain ⟨ze, fe⟩ := one_ HE.out
 go_wp2_with (first | ((with_reducible refine gate_dst (N := 20) rfl ?_); refine bx (a79 A T.length c 0 0 0 0) 79 ?_; intro g hg w6 hbox hb; have HP := A_0 (show PI w w6 g A c T ⟨0, 0, 0, 0⟩ (.slice none 0 0) [] from ⟨hbox, ⟨_, Kd.F_below HT.out hb, fun k hk => ⟨hk.1, by rw [hg]; exact xnl hk.2, by simp [Value.ownBlock]⟩⟩, blk_below HL.out hb, blk_below HA.out hb, blk_below HE.out hb, World.ownsRow_nil _ _ _ _, ⟨fun _ => False, fun x hx => (List.not_mem_nil hx).elim, fun k hk => hk.elim⟩, xbs HB.out hb, by rw [hg]; exact HS.out⟩); clear zl fl za fa ze fe HB HL HA HE HS HT hbox hb hg))
 go_loopg [21] K (fun kq v21 wq => PRel w T st r g A c kq wq)
 case atStart => exact ⟨_, _, _, [], HF, HP⟩
 case round =>
  clear HP HF; unfold PRel at hrel; obtain ⟨s, Av, cv, xs, HF, HP⟩ := hrel; cases gk with
  | zero => exact absurd HF.out (by simp [parsF])
  | succ k1 =>
  obtain ⟨⟨⟨h0, h1⟩, hx⟩, hcase⟩ := parsF_succ HF.out; clear HF; have hxl : xs.length < 1000 := by simpa using hx
  clear hx; have HCS := A_0 hcase; clear hcase; obtain ⟨⟨z0, z1, z2⟩, y0, y1, y2⟩ := HP.out.cells
  go_wp2_with fail
  (with_reducible refine (now_L g A c T s _ HP.out.rd h0 h1).mono ?_)
  rintro e wn ⟨rfl, hb⟩; replace HP := A_0 (HP.out.below hb); clear hb z0 z1 z2 y0 y1 y2; obtain ⟨⟨z0, z1, z2⟩, y0, y1, y2⟩ := HP.out.cells; generalize ht : rd_T58 T s.at_ = t at *; obtain ⟨t0, t1, t2, t3⟩ := t; have hf0 := field58_0 t0 t1 t2 t3; unfold tokV; dsimp only; have hcase := HCS.out; clear HCS; dsimp only at hcase; rcases hcase with ⟨ht0, rfl⟩ | ⟨ht0, hcase⟩
  ·subst ht0
   go_wp2_with fail
   generalize hq : World.setCell _ ⟨w.heap.size + 2, 0, none⟩ _ = wf; have hP : PI w wf g A c T s (.slice Av xs.length cv) xs := by rw [← hq]; exact HP.out.again
   obtain ⟨⟨x0, x1, x2⟩, _, _, _⟩ := hP.cells; obtain ⟨A', c', hv, hF, hc⟩ := hP.rows; injection hv with e1 e2 e3; subst e1 e3; have hpp : PPar w (.ok (xs.map (·.x))) (.returned (.tuple #[.slice Av xs.length cv, .int .i64 0, .int .i64 0])) wf := ⟨hP.bw, Av, cv, by rw [List.length_map], hF, by rw [List.length_map]; exact hc⟩
   refine par_idle (w := w) ?_ hpp
   simp [results, Try.results25, go_sem, x0, x1, x2]
  have hk0 : (t0 != 0) = true := bne_iff_ne.2 ht0; clear ht0; have HCS := A_0 hcase; clear hcase; go_upto_region 7 with fail; clear hf0 hk0 ht h0 h1; have hn0 : w.heap.size < wn.heap.size := blk_lt HP.out.bl; rcases HCS.out with ⟨er, at_, hst, rfl⟩ | ⟨x, s2, hst, hps⟩
  ·clear HCS hxl
   first | go_region_dies | fail
   all_goals (refine (SC.out.use s _ g A c _ hst (PI.rd (w := w) (v := .slice Av xs.length cv) (xs := xs) (z_157))).mono ?_)
   all_goals (intro e wx hp; obtain ⟨rfl, hk⟩ := hp.err)
   all_goals (refine par_trap (PI.err (g := g) (A := A) (c := c) (T := T) (s := s) (v := .slice Av xs.length cv) (xs := xs) (z_157) hk) ?_)
   all_goals (intro W' q0 q1 q2; simp [results, Try.results25, go_sem, q0, q1, q2])
  ·clear HCS
   have HPS := A_0 hps; clear hps; obtain ⟨i0, hi0, hzz⟩ := Option.map_eq_some_iff.1 inf41; simp only [Prod.mk.injEq] at hzz; obtain ⟨iz0, iz1, iz2⟩ := hzz; have HI := A_0 hi0; have HZ := A_0 iz0; have HZ1 := A_0 iz1; have HZ2 := A_0 iz2; clear hi0 iz0 iz1 iz2; have HLN := A_0 hn0; have HXL := A_0 hxl; clear hxl; have hu41 := Try.underlying41; have hu22 := Try.underlying22; have p0 := eq_true (show (0 : Int) ≤ (xs.length : Int) by omega)
   have p1 := eq_true (show (xs.length : Int) < ((xs.length + 1 : Nat) : Int) by omega)
   have p2 := eq_true (show (xs.length : Int) < (xs.length : Int) + 1 by omega)
   refine wp_region_noPanic ?_
   go_region_law ((first | (refine step_append_lies _ rfl (.tmp 25) (.tmp 29) 22 rfl w.heap.size 41 i0 zV41 6 104 Try.underlying22 HI.out HZ.out HZ1.out HZ2.out rfl (by decide) (.slice Av xs.length cv) xs.length (xs.flatMap SV.cs) rfl (PI.row (g := g) (A := A) (c := c) (T := T) (s := s2) (z_158)) _ 1 1 z6L rfl rfl (World.news_of_block (cs := a41 0 ⟨#[]⟩ 0 none 0 0 none 0 0 none 0 0) (t := 41) (fr := (0, 0)) (by first | exact HN7.out | exact blk_new _ _ | exact blk_drew (blk_new _ _))) z6_one (by decide) (by have := HXL.out; simp only [maxLen]; omega) (by have := HXL.out; omega) (PI.bw (g := g) (A := A) (c := c) (T := T) (s := s2) (v := .slice Av xs.length cv) (xs := xs) (z_158)).size _ rfl ?_; intro gb cap w1 ho1 hg1 hat hlt; obtain ⟨ox, hpo7, hox7⟩ := HO7.out; have FN : Aside0 (PFin w w1 g gb cap A c T s2 xs p) := ⟨by first | exact PFin.mk' HP7.out hpo7 hox7 hg1 hat ho1 | exact PFin.mk' (HP7.out.alloc _) (part_alloc hpo7 _) (fun k hk => hox7 k hk.1) hg1 hat ho1⟩; obtain ⟨⟨m0, m1, m2, m3, m4, m5⟩, r0, r1, r2, r3, r4, r5⟩ := new_cells (flat6 xs) ho1; obtain ⟨⟨hne1, hne2⟩, v0, v1⟩ := new_ne (w := w) (g := g) (A := A) (c := c) (T := T) (s := s2) (xs := xs) (z_158) hg1 hat; clear ho1 hg1 hat hlt hpo7 hox7) | (go_simp; refine (SC.out.use s _ g A c _ hst (PI.rd (w := w) (v := .slice Av xs.length cv) (xs := xs) (z_157))).mono ?_; intro e w7 hp; obtain ⟨p, rfl, hpx, hpo, hrd, hk⟩ := hp.ok; subst hpx; have HP7 : Aside0 (PI w w7 g A c T s2 (.slice Av xs.length cv) xs) := ⟨PI.call (s := s) (z_157) hk hrd⟩; have HO7 : Aside0 (∃ ox : Nat → Prop, p.ok w7 ox ∧ ∀ k, ox k → w.heap.size + 3 ≤ k ∧ k ≠ g ∧ (Value.slice Av xs.length cv).ownBlock ≠ some k) := ⟨part_of HP.out (by first | exact xlr _ | (show wn.heap.size ≤ (wn.alloc _).heap.size; simp)) hpo⟩; (try (have HN7 : Aside0 (w7.heap[wn.heap.size]? = some (b41 0 ⟨#[]⟩ 0 none 0 0 none 0 0 none 0 0)) := ⟨KeepBut.blk hk (by first | exact blk_new _ _ | exact blk_drew (blk_new _ _)) (by have := blk_lt HP.out.bk; omega) (by simp)⟩)); clear hp hpo; obtain ⟨⟨c0, c1, c2⟩, e0, e1, e2⟩ := HP7.out.cells; have hn7 : w.heap.size < w7.heap.size := blk_lt HP7.out.bl; unfold SV.val; dsimp only)))
   all_goals (refine NoPanic.normal ?_)
   all_goals (go_wp2_with fail)
   all_goals (go_roundg k1)
   all_goals (first | exact Nat.lt_succ_self _ | exact ⟨s2, _, _, xs ++ [p], ⟨by rw [List.map_append, List.map_cons, List.map_nil]; exact HPS.out⟩, ⟨by first | with_reducible exact FN.out.a | with_reducible exact FN.out.b⟩⟩)
end Go.Proofs.Ytobkdmmnbnpemaa.K
