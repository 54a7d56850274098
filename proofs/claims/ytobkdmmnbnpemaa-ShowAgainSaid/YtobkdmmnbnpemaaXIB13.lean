/- Texts of the claim, one behind the other. -/
import Derived.Test.YtobkdmmnbnpemaaXIB12
import Derived.Test.YtobkdmmnbnpemaaXIB06
import Derived.Test.YtobkdmmnbnpemaaProg
import Derived.Below
import Derived.Deep.Draws
import Derived.Deep.AppendLies
import Derived.Maps.AppendAt
import Derived.OwnWalk
import Derived.Laws.BytesArg
import Derived.Laws.MakeOwn
import Derived.Laws.OwnMore
import Derived.Deep.OwnRows
import Derived.Tactics
import Derived.Lib.ConvBytes
import Derived.Laws.Slices
import Derived.WalkKit
import Derived.KernelRfl
import Derived.RowKit3
import Derived.Deep.LoopGhost
import Derived.Deep.QuietTactic
import Derived.BigQuiet
import Derived.WideLaws
import Derived.Deep.DeepCutAuto
import Derived.Deep.CutBlock
import Derived.Deep.RegionHeld3
import Derived.Laws.Rows
import Derived.Lib.AppendStr
import Derived.ArgAppend
import Derived.Laws.IdiomCopy
import Derived.OrdersHeld
import Derived.Laws.BitsLemmas
import Derived.RowKit
import Derived.Test.YtobkdmmnbnpemaaXIW
import Derived.Lib.Hide
import Derived.StillTailTactics
import Derived.IntWalk
set_option maxHeartbeats 16000000
set_option maxRecDepth 100000
namespace Go.Proofs.Ytobkdmmnbnpemaa.K
open Go.RowKit Go.Proofs.YtobkdmmnbnpemaaW.PrintWords Go.Proofs.YtobkdmmnbnpemaaW.PrintLast Go.Proofs.YtobkdmmnbnpemaaW.PrintMore
set_option linter.unusedVariables false
set_option linter.unusedSimpArgs false
theorem cntS_if (k : Int) (nm : ByteArray) (cl : Int) (l : List S38) (b c : List S41) : cntS ⟨k, nm, cl, l, b, c⟩ = cntL l + (cntB b + cntB c) := by simp [cntS]
theorem tot_branch {T : List S58} {N : Int} (H : TokT T N) (ab : Int → PSt → Option Res) (hA : ∀ s', Inv T s' → Tot N (ab 1 s') (ExQ T s')) (st : PSt → Option SRes) (s0 s : PSt) (I : Inv T s) (h0 : s0.at_ < s.at_) (h1 : s.nodes = s0.nodes) (h2 : s.op = s0.op) (h3 : s.bl = s0.bl)
  (hS : ∀ s', Inv T s' → s0.at_ < s'.at_ → Tot N (st s') (StQ 1 T s')) : Tot N (branchS T ab st (T.length + 1) s) (StQ 0 T s0) := by
 have i1 := I.n0; have i2 := I.n1; have i3 := I.o0; have i4 := I.o1; have i5 := I.b0; have i6 := I.b1; have i7 := I.a0; have i8 := I.a1; unfold branchS; refine tot_ex ((tot_test H ab hA s I).mono ?_); rintro ⟨p, s1⟩ ⟨⟨q1, q2⟩, q3, q4, q5, q6, q7, q8, q9, q10⟩; dsimp only at q1 q2 q3 q4 q5 q6 q7 q8 q9 q10 ⊢; have I1 : Inv T s1 := ⟨by omega, q2, by omega, q4, by omega, by omega, by omega, by omega⟩
 refine tot_ex ((tot_body H st s0.at_ hS s1 I1 (by omega)).mono ?_)
 rintro ⟨l, s2⟩ ⟨⟨r1, r2⟩, r3, r4, r5, r6, r7⟩; dsimp only at r1 r2 r3 r4 r5 r6 r7 ⊢; have eb : (12 - s1.bl).toNat = (12 - s0.bl).toNat := by omega
 rw [eb] at r7; refine tot_is H (by omega) r2 (fun hx => ?_) (tot_ok ⟨⟨by show s0.at_ < s2.at_; omega, r2⟩, ?_, r4, by show s2.op = s0.op; omega, by show s2.bl = s0.bl; omega, fit_if _ _ _ _ q7 (by omega) r7 (.inl rfl)⟩)
 ·refine tot_is H (by show 0 ≤ s2.at_ + 1; omega) hx (fun hx2 => ?_) ?_
  ·refine tot_deeper (by show 0 ≤ s2.bl; omega) (by show s2.bl ≤ 12; omega) (H.place _ (by omega) hx) fun hb => ?_
   have hb' : s2.bl + 1 ≤ 12 := hb; refine tot_ex ((hS ⟨s2.at_ + 1, s2.nodes, s2.op, s2.bl + 1⟩ ⟨by show 0 ≤ s2.at_ + 1; omega, hx, by show 0 ≤ s2.nodes; omega, r4, by show 0 ≤ s2.op; omega, by show s2.op ≤ 48; omega, by show 0 ≤ s2.bl + 1; omega, hb⟩ (by show s0.at_ < s2.at_ + 1; omega)).mono ?_)
   rintro ⟨x, s4⟩ ⟨⟨u1, u2⟩, u3, u4, u5, u6, u7⟩; dsimp only at u1 u2 u3 u4 u5 u6 u7 ⊢; refine tot_close (by omega) (by omega) (tot_ok ⟨⟨by show s0.at_ < s4.at_; omega, u2⟩, ?_, u4, by show s4.op = s0.op; omega, by show s4.bl - 1 = s0.bl; omega, fit_if _ _ _ _ q7 (by omega) r7 (.inr ?_)⟩)
   ·show s4.nodes = s0.nodes + (cntS ⟨6, ⟨#[]⟩, 0, [p.1], l, [x]⟩ : Int) + 0
    rw [cntS_if]; simp only [cntL, cntB]; omega
   ·have e : (12 - s0.bl).toNat = (12 - (s2.bl + 1)).toNat + 1 := by omega
    rw [e]; show [x].all (fitSt (fitB (12 - (s2.bl + 1)).toNat)) = true; rw [List.all_cons, u7]; rfl
  ·refine tot_ex ((tot_body H st s0.at_ hS ⟨s2.at_ + 1, s2.nodes, s2.op, s2.bl⟩ ⟨by show 0 ≤ s2.at_ + 1; omega, hx, by show 0 ≤ s2.nodes; omega, r4, by show 0 ≤ s2.op; omega, by show s2.op ≤ 48; omega, by show 0 ≤ s2.bl; omega, by show s2.bl ≤ 12; omega⟩ (by show s0.at_ < s2.at_ + 1; omega)).mono ?_)
   rintro ⟨m, s4⟩ ⟨⟨u1, u2⟩, u3, u4, u5, u6, u7⟩; dsimp only at u1 u2 u3 u4 u5 u6 u7 ⊢; have eb2 : (12 - s2.bl).toNat = (12 - s0.bl).toNat := by omega
   rw [eb2] at u7; refine tot_ok ⟨⟨by show s0.at_ < s4.at_; omega, u2⟩, ?_, u4, by show s4.op = s0.op; omega, by show s4.bl = s0.bl; omega, fit_if _ _ _ _ q7 (by omega) r7 (.inr u7)⟩
   show s4.nodes = s0.nodes + (cntS ⟨6, ⟨#[]⟩, 0, [p.1], l, m⟩ : Int) + 0; rw [cntS_if]; simp only [cntL]; omega
 ·show s2.nodes = s0.nodes + (cntS ⟨6, ⟨#[]⟩, 0, [p.1], l, []⟩ : Int) + 0
  rw [cntS_if]; simp only [cntL, cntB]; omega
theorem tot_word {T : List S58} {N : Int} (H : TokT T N) (ab : Int → PSt → Option Res) (hA : ∀ s', Inv T s' → Tot N (ab 1 s') (ExQ T s')) (st : PSt → Option SRes) (s : PSt) (I : Inv T s)
  (hS : ∀ s', Inv T s' → s.at_ < s'.at_ → Tot N (st s') (StQ 1 T s')) (hk : (rd_T58 T s.at_).f0 ≠ 0) : Tot N (wordS T ab st (T.length + 1) s (rd_T58 T s.at_)) (StQ 0 T s) := by
 have i1 := I.n0; have i2 := I.n1; have i3 := I.o0; have i4 := I.o1; have i5 := I.b0; have i6 := I.b1; have i7 := I.a0; have i8 := I.a1; have hx := H.next i7 i8 hk; have hpl := H.place _ i7 i8; have I1 : Inv T ⟨s.at_ + 1, s.nodes, s.op, s.bl⟩ := ⟨z_147, hx, i1, i2, i3, i4, i5, i6⟩; have lt1 : s.at_ < s.at_ + 1 := by omega
 unfold wordS; rw [if_pos ⟨i7, i8⟩]; generalize (rd_T58 T s.at_).f1.toList = tx; by_cases c0 : tx = [118, 97, 114]
 ·rw [if_pos c0]
  refine tot_kind H I1.a0 hx (by decide) fun hk2 hx2 => ?_
  dsimp only at hk2 hx2 ⊢; refine tot_want H (z_149) hx2 fun hk3 hx3 => ?_; dsimp only at hk3 hx3 ⊢; refine tot_exS H ab hA _ _ _ s ⟨s.at_ + 1 + 1 + 1, s.nodes, s.op, s.bl⟩ ⟨by show 0 ≤ s.at_ + 1 + 1 + 1; omega, hx3, i1, i2, i3, i4, i5, i6⟩ (by show s.at_ < s.at_ + 1 + 1 + 1; omega) rfl rfl rfl (fun p => head_named _ _ p (.inl rfl) (H.nam _ (by omega) hx hk2)) rfl
 rw [if_neg c0]; by_cases c1 : tx = [109]
 ·rw [if_pos c1]
  refine tot_want H I1.a0 hx fun hk2 hx2 => ?_
  dsimp only at hk2 hx2 ⊢; refine tot_enter i3 i4 (H.place _ (by omega) hx) fun ho => tot_ex ((hA ⟨s.at_ + 1 + 1, s.nodes, s.op + 1, s.bl⟩ ⟨z_149, hx2, i1, i2, z_148, ho, i5, i6⟩).mono ?_); rintro ⟨p, s3⟩ ⟨⟨q1, q2⟩, q3, q4, q5, q6, q7, q8, q9, q10⟩; dsimp only at q1 q2 q3 q4 q5 q6 q7 q8 q9 q10 ⊢; have ho_ : s.op + 1 ≤ 48 := ho; refine tot_leave H (by omega) q2 (by omega) (by omega) fun hl => ?_; refine tot_want H (by show 0 ≤ s3.at_ + 1; omega) hl fun hk3 hx3 => ?_; dsimp only at hk3 hx3 ⊢; refine tot_ex ((hA ⟨s3.at_ + 1 + 1, s3.nodes, s3.op - 1, s3.bl⟩ ⟨by show 0 ≤ s3.at_ + 1 + 1; omega, hx3, by show 0 ≤ s3.nodes; omega, q4, by show 0 ≤ s3.op - 1; omega, by show s3.op - 1 ≤ 48; omega, by show 0 ≤ s3.bl; omega, by show s3.bl ≤ 12; omega⟩).mono ?_)
  rintro ⟨y, s5⟩ ⟨⟨r1, r2⟩, r3, r4, r5, r6, r7, r8, r9, r10⟩; dsimp only at r1 r2 r3 r4 r5 r6 r7 r8 r9 r10 ⊢; refine tot_ok ⟨⟨by show s.at_ < s5.at_; omega, r2⟩, ?_, r4, by show s5.op = s.op; omega, by show s5.bl = s.bl; omega, fit_stm _ _ _ _ _ (head_store _ _) rfl (fitL_two q7 r7) (deepL_two (by omega) (by omega))⟩
  show s5.nodes = s.nodes + (cntS ⟨3, ⟨#[]⟩, 0, [p.1, y.1], [], []⟩ : Int) + 0; rw [cntS_ex]; simp only [cntL]; omega
 rw [if_neg c1]; by_cases c2 : tx = [101, 109, 105, 116]
 ·rw [if_pos c2]
  exact tot_exS H ab hA _ _ _ s ⟨s.at_ + 1, s.nodes, s.op, s.bl⟩ I1 lt1 rfl rfl rfl (fun p => head_plain _ _ p (.inl ⟨.inl rfl, rfl⟩)) rfl
 rw [if_neg c2]; by_cases c3 : tx = [105, 110, 116, 111]
 ·rw [if_pos c3]
  refine tot_kind H I1.a0 hx (by decide) fun hk2 hx2 => ?_
  dsimp only at hk2 hx2 ⊢; have hnum := H.num _ I1.a0 hx hk2; dsimp only at hnum; by_cases hq : 255 < (rd_T58 T (s.at_ + 1)).f2
  ·rw [if_pos hq]; exact tot_err (H.place _ I1.a0 hx)
  rw [if_neg hq]; exact tot_exS H ab hA _ _ _ s ⟨s.at_ + 1 + 1, s.nodes, s.op, s.bl⟩ ⟨z_149, hx2, i1, i2, i3, i4, i5, i6⟩ (by show s.at_ < s.at_ + 1 + 1; omega) rfl rfl rfl (fun p => head_plain _ _ p (.inr ⟨rfl, hnum, by omega⟩)) rfl
 rw [if_neg c3]; by_cases c4 : tx = [102, 97, 105, 108]
 ·rw [if_pos c4]
  exact tot_exS H ab hA _ _ _ s ⟨s.at_ + 1, s.nodes, s.op, s.bl⟩ I1 lt1 rfl rfl rfl (fun p => head_plain _ _ p (.inl ⟨.inr rfl, rfl⟩)) rfl
 rw [if_neg c4]; by_cases c5 : tx = [115, 116, 111, 112]
 ·rw [if_pos c5]
  exact tot_ok ⟨⟨lt1, hx⟩, by show s.nodes = s.nodes + (cntS ⟨9, ⟨#[]⟩, 0, [], [], []⟩ : Int) + 0; rw [cntS_ex]; simp [cntL], i2, rfl, rfl, fit_stm _ _ _ _ _ head_stop rfl rfl (by simp [deepL])⟩
 rw [if_neg c5]; by_cases c6 : tx = [119, 104, 105, 108, 101]
 ·rw [if_pos c6]
  refine tot_ex ((tot_test H ab hA _ I1).mono ?_)
  rintro ⟨p, s1⟩ ⟨⟨q1, q2⟩, q3, q4, q5, q6, q7, q8, q9, q10⟩; dsimp only at q1 q2 q3 q4 q5 q6 q7 q8 q9 q10 ⊢; refine tot_ex ((tot_body H st s.at_ hS s1 ⟨by omega, q2, by omega, q4, by omega, by omega, by omega, by omega⟩ (by omega)).mono ?_)
  rintro ⟨l, s2⟩ ⟨⟨r1, r2⟩, r3, r4, r5, r6, r7⟩; dsimp only at r1 r2 r3 r4 r5 r6 r7 ⊢; rw [q6] at r7; refine tot_ok ⟨⟨by show s.at_ < s2.at_; omega, r2⟩, ?_, r4, by show s2.op = s.op; omega, by show s2.bl = s.bl; omega, fit_while _ _ _ q7 (by omega) r7⟩
  show s2.nodes = s.nodes + (cntS ⟨7, ⟨#[]⟩, 0, [p.1], l, []⟩ : Int) + 0; rw [cntS_if]; simp only [cntL, cntB]; omega
 rw [if_neg c6]; by_cases c7 : tx = [105, 102]
 ·rw [if_pos c7]
  exact tot_branch H ab hA st s _ I1 lt1 rfl rfl rfl hS
 rw [if_neg c7]; exact tot_err hpl
theorem tot_end {T : List S58} {N : Int} (H : TokT T N) (t3 : Int) (ht : 0 ≤ t3 ∧ t3 ≤ N) (s : PSt) (I : Inv T s) (x : S41 × PSt) (h : StQ 0 T s x) : Tot N (endS T t3 x.1 x.2) (StQ 1 T s) := by
 have i1 := I.n0; have i2 := I.n1; have i3 := I.o0; have i4 := I.o1; have i5 := I.b0; have i6 := I.b1; have i7 := I.a0; have i8 := I.a1; obtain ⟨x, s1⟩ := x; obtain ⟨⟨q1, q2⟩, q3, q4, q5, q6, q7⟩ := h; dsimp only at q1 q2 q3 q4 q5 q6 q7 ⊢; unfold endS; by_cases hk : x.f0 = 6 ∨ x.f0 = 7
 ·rw [if_pos hk]
  refine tot_made (by omega) q4 ht fun hn => tot_ok ⟨⟨q1, q2⟩, by show s1.nodes + 1 = s.nodes + (cntS x : Int) + 1; omega, hn, q5, q6, q7⟩
 ·rw [if_neg hk]
  refine tot_want H (by omega) q2 fun hk2 hx2 => tot_made (by show 0 ≤ s1.nodes; omega) q4 ht fun hn => tot_ok ⟨⟨by show s.at_ < s1.at_ + 1; omega, hx2⟩, by show s1.nodes + 1 = s.nodes + (cntS x : Int) + 1; omega, hn, q5, q6, q7⟩
theorem tot_stmt {T : List S58} {N : Int} (H : TokT T N) (ab : Int → PSt → Option Res) (hA : ∀ s', Inv T s' → Tot N (ab 1 s') (ExQ T s')) (st : PSt → Option SRes) (s : PSt) (I : Inv T s)
  (hS : ∀ s', Inv T s' → s.at_ < s'.at_ → Tot N (st s') (StQ 1 T s')) : Tot N (stmtS T ab (wordS T ab st (T.length + 1)) s) (StQ 1 T s) := by
 have i1 := I.n0; have i2 := I.n1; have i3 := I.o0; have i4 := I.o1; have i5 := I.b0; have i6 := I.b1; have i7 := I.a0; have i8 := I.a1; have hpl := H.place _ i7 i8; unfold stmtS; rw [if_pos ⟨i7, i8⟩]; by_cases e2 : (rd_T58 T s.at_).f0 = 2
 ·rw [if_pos e2]
  have hx := H.next i7 i8 (by rw [e2]; decide); refine tot_want H (z_147) hx fun hk2 hx2 => ?_; dsimp only at hk2 hx2 ⊢; refine tot_ex ((hA ⟨s.at_ + 1 + 1, s.nodes, s.op, s.bl⟩ ⟨z_149, hx2, i1, i2, i3, i4, i5, i6⟩).mono ?_); rintro ⟨p, s3⟩ ⟨⟨q1, q2⟩, q3, q4, q5, q6, q7, q8, q9, q10⟩; dsimp only at q1 q2 q3 q4 q5 q6 q7 q8 q9 q10 ⊢; refine tot_end H _ hpl s I (⟨2, (rd_T58 T s.at_).f1, 0, [p.1], [], []⟩, s3) ⟨⟨by show s.at_ < s3.at_; omega, q2⟩, ?_, q4, q5, q6, fit_stm _ _ _ _ _ (head_named _ _ _ (.inr rfl) (H.nam _ i7 i8 e2)) rfl (fitL_one q7) (by rw [deepL_one]; omega)⟩; show s3.nodes = s.nodes + (cntS ⟨2, (rd_T58 T s.at_).f1, 0, [p.1], [], []⟩ : Int) + 0; rw [cntS_ex]; simp only [cntL]; omega
 rw [if_neg e2]; by_cases e3 : (rd_T58 T s.at_).f0 = 3
 ·rw [if_pos e3]
  refine tot_ex ((tot_word H ab hA st s I hS (by rw [e3]; decide)).mono ?_)
  rintro ⟨x, s1⟩ hq; exact tot_end H _ hpl s I (x, s1) hq
 rw [if_neg e3]; exact tot_err hpl
theorem st_tot {T : List S58} {N : Int} (H : TokT T N) (ab : Int → PSt → Option Res) (hA : ∀ s', Inv T s' → Tot N (ab 1 s') (ExQ T s')) : ∀ (h : Nat) (s : PSt), Inv T s → (T.length : Int) - s.at_ ≤ h → Tot N (stG T ab h s) (StQ 1 T s)
 | 0, s, I, hh => by have := I.a1; omega
 | h + 1, s, I, hh => tot_stmt H ab hA _ s I fun s' I' hs => st_tot H ab hA h s' I' (by omega)
def st0 (T : List S58) : PSt → Option SRes := stG T (ab0 T) T.length
theorem st0_ok (T : List S58) : StmC T (st0 T) := stG_ok T _ (ab0_ok T) _
theorem st0_tot {T : List S58} {N : Int} (H : TokT T N) (s : PSt) (I : Inv T s) : Tot N (st0 T s) (StQ 1 T s) := st_tot H _ (fun s' I' => ab0_tot H s' I') _ s I (by have := I.a0; omega)
theorem tot_pars {T : List S58} {N : Int} (H : TokT T N) (st : PSt → Option SRes) (hS : ∀ s', Inv T s' → Tot N (st s') (StQ 1 T s')) :
  ∀ (K : Nat) (xs : List S41) (s1 : PSt), Inv T s1 → s1.nodes = (cntB xs : Int) → s1.bl = 0 → xs.all (fitSt (fitB 12)) = true → (T.length : Int) - s1.at_ < K →
   Tot N (parsF T st K xs s1) (fun l => l.all (fitSt (fitB 12)) = true ∧ cntB l ≤ 600)
 | 0, xs, s1, I, q3, q6, q7, hk => by have := I.a1; omega
 | K + 1, xs, s1, I, q3, q6, q7, hk => by
  have i1 := I.n0; have i2 := I.n1; have i3 := I.o0; have i4 := I.o1; have i5 := I.b0; have i6 := I.b1; have i7 := I.a0; have i8 := I.a1; have hl := len_cntB xs; unfold parsF; rw [if_pos ⟨⟨i7, i8⟩, by omega⟩]
  by_cases hb : (rd_T58 T s1.at_).f0 = 0
  ·rw [if_pos hb]
   exact tot_ok ⟨q7, by omega⟩
  rw [if_neg hb]; obtain ⟨r, e1, e2⟩ := hS s1 I; rw [e1]; rcases r with e | ⟨x, s2⟩
  ·exact ⟨_, rfl, e2⟩
  obtain ⟨⟨r1, r2⟩, r3, r4, r5, r6, r7⟩ := e2; dsimp only at r1 r2 r3 r4 r5 r6 r7 ⊢; refine tot_pars H st hS K (xs ++ [x]) s2 ⟨by omega, r2, by omega, r4, by omega, by omega, by omega, by omega⟩ ?_ (by omega) ?_ (by omega)
  ·rw [cntB_add]; simp only [cntB]; omega
  ·rw [List.all_append, q7, List.all_cons, List.all_nil]
   rw [q6] at r7; rw [show fitSt (fitB 12) x = true from r7]; rfl
def parT (T : List S58) : Option (Except (Int × Int) (List S41)) := parsF T (st0 T) (T.length + 1) [] ⟨0, 0, 0, 0⟩
theorem parT_tot {T : List S58} {N : Int} (H : TokT T N) : Tot N (parT T) (fun l => l.all (fitSt (fitB 12)) = true ∧ cntB l ≤ 600) :=
 tot_pars H (st0 T) (fun s' I' => st0_tot H s' I') _ [] ⟨0, 0, 0, 0⟩ ⟨Int.le_refl _, by have := H.pos; show (0 : Int) < T.length; omega, Int.le_refl _, by show (0 : Int) ≤ 600; omega, Int.le_refl _, by show (0 : Int) ≤ 48; omega, Int.le_refl _, by show (0 : Int) ≤ 12; omega⟩ (by simp [cntB]) rfl rfl (by show (T.length : Int) - 0 < _; omega)
structure Sim (T U : List S58) (d m : Int) : Prop where
 pos : 0 < T.length
 last : (rd_T58 T ((T.length : Int) - 1)).f0 = 0
 len : (T.length : Int) + d ≤ U.length
 d0 : 0 ≤ d
 m0 : 0 ≤ m
 tok : ∀ i : Int, 0 ≤ i → i < (T.length : Int) - 1 → ∃ q, rd_T58 U (i + d) = ⟨(rd_T58 T i).f0, (rd_T58 T i).f1, (rd_T58 T i).f2, q⟩
 e4 : (rd_T58 U ((T.length : Int) - 1 + d)).f0 ≠ 4
 ee : isB (rd_T58 U ((T.length : Int) - 1 + d)) ⟨#[101, 108, 115, 101]⟩ = false
section
variable {α β : Type} {T U : List S58} {d m : Int}
theorem Sim.lt (H : Sim T U d m) {i : Int} (h0 : 0 ≤ i) (h1 : i < T.length) (hk : (rd_T58 T i).f0 ≠ 0) : i < (T.length : Int) - 1 := by
 rcases Int.lt_or_le i ((T.length : Int) - 1) with h | h
 ·exact h
 ·have e : i = (T.length : Int) - 1 := by omega
  rw [e] at hk; exact absurd H.last hk
end
end Go.Proofs.Ytobkdmmnbnpemaa.K
namespace Go.Proofs.Ytobkdmmnbnpemaa.Lx
open Go.RowKit Go.Proofs.YtobkdmmnbnpemaaW.PrintWords Go.Proofs.YtobkdmmnbnpemaaW.PrintLast Go.Proofs.YtobkdmmnbnpemaaW.PrintMore
attribute [local go_sem] max2_int min2_int max_two min_two max_three min_three max_four min_four
set_option linter.unusedVariables false
set_option linter.unusedSimpArgs false
def errW : Option Int → Value
 | none => .nilIface
 | some c => .iface 0 (.int .i64 c)
theorem errW_none : errW none = .nilIface := rfl
theorem errW_some (c : Int) : errW (some c) = .iface 0 (.int .i64 c) := rfl
theorem info33 : (Try.prog.info? 58).map (fun i => (i.zero, i.size, i.bytes)) = some (some (.agg #[(.int .i64 0), (.string ⟨#[]⟩), (.int .i64 0), (.int .i64 0)]), 4, 40) := by kernel_rfl
abbrev S33 := K.S58
abbrev k33 : Kd S33 := K.k58
theorem k33_openM {w : World} {base : Nat} {ok : Nat → Prop} {x : S33} {cs : List Value} (h : k33.M w base ok x cs) : cs = [.int .i64 x.f0, .string x.f1, .int .i64 x.f2, .int .i64 x.f3] := by
 obtain ⟨_, _, rfl, rfl, ⟨_, _, rfl, rfl, ⟨_, _, rfl, rfl, rfl⟩⟩⟩ := h; exact rfl
theorem k33_mkM (w : World) (base : Nat) (ok : Nat → Prop) (x : S33)  : k33.M w base ok x [.int .i64 x.f0, .string x.f1, .int .i64 x.f2, .int .i64 x.f3] := ⟨[.int .i64 x.f0], [.string x.f1, .int .i64 x.f2, .int .i64 x.f3], rfl, rfl, ⟨[.string x.f1], [.int .i64 x.f2, .int .i64 x.f3], rfl, rfl, ⟨[.int .i64 x.f2], [.int .i64 x.f3], rfl, rfl, rfl⟩⟩⟩
def lex_blank.f (a0 : Int) : Option (Bool) := if a0 = 32 then (some true) else (if a0 = 10 then (some true) else (if a0 = 9 then (some true) else (some (a0 == 13))))
theorem lex_blank.calls (a0 : Int) (r : Bool) (w : World) (h : lex_blank.f a0 = some r) :
  Calls Try.prog 95 #[.int .u8 a0] w fun e w' => e = .returned (.bool r) ∧ Drawn0 w w' := by
 have H : (if a0 = 32 then (some true) else (if a0 = 10 then (some true) else (if a0 = 9 then (some true) else (some (a0 == 13))))) = some r := h; clear h; by_cases c2 : a0 = 32
 ·rw [if_pos c2] at H
  obtain ⟨c2b0, c2b1⟩ := xbq c2; clear c2; obtain rfl := xsi H
  go_enter Try.func95, Try.ntmps95
  go_wp2
  go_ret
  exact z_19
 ·rw [if_neg c2] at H
  obtain ⟨c2b0, c2b1⟩ := xnq c2; by_cases c3 : a0 = 10
  ·rw [if_pos c3] at H
   obtain ⟨c3b0, c3b1⟩ := xbq c3; clear c3; obtain rfl := xsi H
   go_enter Try.func95, Try.ntmps95
   go_wp2
   go_ret
   exact z_19
  ·rw [if_neg c3] at H
   obtain ⟨c3b0, c3b1⟩ := xnq c3; by_cases c4 : a0 = 9
   ·rw [if_pos c4] at H
    obtain ⟨c4b0, c4b1⟩ := xbq c4; clear c4; obtain rfl := xsi H
    go_enter Try.func95, Try.ntmps95
    go_wp2
    go_ret
    exact z_19
   ·rw [if_neg c4] at H
    obtain ⟨c4b0, c4b1⟩ := xnq c4; obtain rfl := xsi H
    go_enter Try.func95, Try.ntmps95
    go_wp2
    go_ret
    exact z_19
def IsS41 (w0 W : World) (g : Nat) (f0 : ByteArray) (f1 : Int) : Prop := W.heap[g]? = some (.cells #[.string f0, .int .i64 f1] 99 (0, 0)) ∧ w0.heap.size ≤ g
theorem IsS41.grown {w0 W : World} {g : Nat} {f0 : ByteArray} {f1 : Int} {W1 : World} {row : Option Nat} (h : IsS41 w0 W g f0 f1) (hw : W.grownBy W1 row) (hne : some g ≠ row) : IsS41 w0 W1 g f0 f1 := by
 obtain ⟨hb, hg⟩ := h; exact ⟨blk_grown hb hw hne, hg⟩
theorem IsS41.fresh {w0 W : World} {g : Nat} {f0 : ByteArray} {f1 : Int} (h : IsS41 w0 W g f0 f1) : ∀ k, W.heap.size ≤ k → k ≠ g := by
 obtain ⟨hb, hg⟩ := h; exact Kd.freshB hb
theorem IsS41.kept {w0 W : World} {g : Nat} {f0 : ByteArray} {f1 : Int} {W1 : World} {S : Nat → Prop} (h : IsS41 w0 W g f0 f1) (hk : Kept W W1 S) (hne : ¬ S g) : IsS41 w0 W1 g f0 f1 := by
 obtain ⟨hb, hg⟩ := h; exact ⟨blk_kept hb hk hne, hg⟩
theorem IsS41.below {w0 W : World} {g : Nat} {f0 : ByteArray} {f1 : Int} {W1 : World} (h : IsS41 w0 W g f0 f1) (hw : Below W.heap.size W W1) : IsS41 w0 W1 g f0 f1 := h.grown (grown_of_below hw none) (by simp)
theorem IsS41.alloc {w0 W : World} {g : Nat} {f0 : ByteArray} {f1 : Int} (h : IsS41 w0 W g f0 f1) (o : Obj) : IsS41 w0 (W.alloc o) g f0 f1 := h.below (below_alloc (xbr _ _) o)
theorem IsS41.drewN {w0 W : World} {g : Nat} {f0 : ByteArray} {f1 : Int} (h : IsS41 w0 W g f0 f1) (m : Nat) : IsS41 w0 (W.drewN m) g f0 f1 := h
theorem IsS41.drew {w0 W : World} {g : Nat} {f0 : ByteArray} {f1 : Int} (h : IsS41 w0 W g f0 f1) : IsS41 w0 W.drew g f0 f1 := h
theorem IsS41.at_ {w0 W : World} {g : Nat} {f0 : ByteArray} {f1 : Int} {w' : World} {m : Nat} (hq : W.drewN m = w') (h : IsS41 w0 W g f0 f1) : IsS41 w0 w' g f0 f1 := by subst hq; exact IsS41.drewN h m
theorem IsS41.apart {w0 W : World} {g : Nat} {f0 : ByteArray} {f1 : Int} {α : Type} {d : Kd α} {e : Nat} {base : Nat} {ok : Nat → Prop} {v : Value} {xs : List α} (h : IsS41 w0 W g f0 f1) (ho : d.R e W base ok v xs) (ht : ∀ q, q ∈ e :: d.E → q ≠ 99) : d.R e W base (fun k => ok k ∧ k ≠ g) v xs := by
 obtain ⟨hb, hg⟩ := h; exact Kd.R_types ho hb ht
theorem IsS41.own_ne {w0 W : World} {g : Nat} {f0 : ByteArray} {f1 : Int} {α : Type} {d : Kd α} {e : Nat} {base : Nat} {ok : Nat → Prop} {v : Value} {xs : List α} (h : IsS41 w0 W g f0 f1) (ho : d.R e W base ok v xs) (ht : e ≠ 99) : some g ≠ v.ownBlock := by
 obtain ⟨hb, hg⟩ := h; exact Kd.R_ne ho hb ht
theorem IsS41.lt {w0 W : World} {g : Nat} {f0 : ByteArray} {f1 : Int} (h : IsS41 w0 W g f0 f1) : g < W.heap.size := by
 obtain ⟨hb, hg⟩ := h; exact blk_lt hb
theorem IsS41.ge {w0 W : World} {g : Nat} {f0 : ByteArray} {f1 : Int} (h : IsS41 w0 W g f0 f1) : w0.heap.size ≤ g := by
 obtain ⟨hb, hg⟩ := h; exact hg
theorem IsS41.ne_blk {w0 W : World} {g : Nat} {f0 : ByteArray} {f1 : Int} {a : Nat} {cs : Array Value} {t : TypeId} {fr : Nat × Nat} (h : IsS41 w0 W g f0 f1) (hb2 : W.heap[a]? = some (.cells cs t fr)) (ht : t ≠ 99) : g ≠ a := by
 obtain ⟨hb, hg⟩ := h; rintro rfl; rw [hb] at hb2; injection hb2 with hb2; injection hb2 with _ ht2; exact ht ht2.symm
theorem IsS41.far {w0 W : World} {g : Nat} {f0 : ByteArray} {f1 : Int} {p : Addr} (h : IsS41 w0 W g f0 f1) (hne : g ≠ p.block) (u : Value) : IsS41 w0 (W.setCell p u) g f0 f1 := by
 obtain ⟨hb, hg⟩ := h; exact ⟨blk_far hb hne u, hg⟩
theorem cellS41_0 {W : World} {g : Nat} {f0 : ByteArray} {f1 : Int} (h : W.heap[g]? = some (.cells #[.string f0, .int .i64 f1] 99 (0, 0))) : W.cell? ⟨g, 0, none⟩ = some (.string f0) := (xbc h 0).trans rfl
theorem IsS41.set_0 {w0 W : World} {g : Nat} {f0 : ByteArray} {f1 : Int} (h : IsS41 w0 W g f0 f1) (x : ByteArray) : IsS41 w0 (W.setCell ⟨g, 0, none⟩ (.string x)) g x f1 := by
 obtain ⟨hb, hg⟩ := h; exact ⟨by simpa using blk_set hb 0 (.string x), hg⟩
theorem cellS41_1 {W : World} {g : Nat} {f0 : ByteArray} {f1 : Int} (h : W.heap[g]? = some (.cells #[.string f0, .int .i64 f1] 99 (0, 0))) : W.cell? ⟨g, 1, none⟩ = some (.int .i64 f1) := (xbc h 1).trans rfl
theorem IsS41.set_1 {w0 W : World} {g : Nat} {f0 : ByteArray} {f1 : Int} (h : IsS41 w0 W g f0 f1) (x : Int) : IsS41 w0 (W.setCell ⟨g, 1, none⟩ (.int .i64 x)) g f0 x := by
 obtain ⟨hb, hg⟩ := h; exact ⟨by simpa using blk_set hb 1 (.int .i64 x), hg⟩
mutual
def lex_cutter_skip.l0 : Nat → ByteArray → Int → Option (ByteArray × Int)
 | 0, _, _ => none
 | k + 1, x1000, x1001 => if x1001 < (x1000.size : Int) then (if 0 ≤ x1001 then ((lex_blank.f (bt x1000 x1001)).bind fun t101 => (if t101 = true then (lex_cutter_skip.l0 k x1000 (wrap64 (x1001 + 1))) else (if (bt x1000 x1001) = 35 then (lex_cutter_skip.l1 k x1000 x1001) else (some (x1000, x1001))))) else (none)) else (some (x1000, x1001))
def lex_cutter_skip.l1 : Nat → ByteArray → Int → Option (ByteArray × Int)
 | 0, _, _ => none
 | k + 1, x1000, x1001 => if x1001 < (x1000.size : Int) then (if 0 ≤ x1001 then (if (bt x1000 x1001) = 10 then (lex_cutter_skip.l0 k x1000 x1001) else (lex_cutter_skip.l1 k x1000 (wrap64 (x1001 + 1)))) else (none)) else (lex_cutter_skip.l0 k x1000 x1001)
end
def lex_cutter_skip.f (k : Nat) (s0_0 : ByteArray) (s0_1 : Int) : Option (ByteArray × Int) := lex_cutter_skip.l0 k s0_0 s0_1
theorem lex_cutter_skip.mono_l : ∀ k, (∀ y0 y1, LeO (lex_cutter_skip.l0 k y0 y1) (lex_cutter_skip.l0 (k + 1) y0 y1)) ∧ (∀ y0 y1, LeO (lex_cutter_skip.l1 k y0 y1) (lex_cutter_skip.l1 (k + 1) y0 y1))
 | 0 => ⟨fun _ _ r h => by simp [lex_cutter_skip.l0] at h, fun _ _ r h => by simp [lex_cutter_skip.l1] at h⟩
 | k + 1 => by
  obtain ⟨ih0, ih1⟩ := lex_cutter_skip.mono_l k; refine ⟨?_, ?_⟩
  ·intro y0 y1
   unfold lex_cutter_skip.l0
   repeat' first
   | (with_reducible exact ih0 _ _)
   | (with_reducible exact ih1 _ _)
   | (with_reducible exact LeO.refl _)
   | (with_reducible exact LeO.none _)
   | (with_reducible refine LeO.ite ?_ ?_)
   | (with_reducible refine LeO.bind ?_ (fun _ => ?_))
   | exact ih0 _ _
   | exact ih1 _ _
   | exact LeO.none _
   | refine LeO.ite ?_ ?_
   | refine LeO.bind ?_ (fun _ => ?_)
  ·intro y0 y1
   unfold lex_cutter_skip.l1
   repeat' first
   | (with_reducible exact ih0 _ _)
   | (with_reducible exact ih1 _ _)
   | (with_reducible exact LeO.refl _)
   | (with_reducible exact LeO.none _)
   | (with_reducible refine LeO.ite ?_ ?_)
   | (with_reducible refine LeO.bind ?_ (fun _ => ?_))
   | exact ih0 _ _
   | exact ih1 _ _
   | exact LeO.none _
   | refine LeO.ite ?_ ?_
   | refine LeO.bind ?_ (fun _ => ?_)
theorem lex_cutter_skip.mono : ∀ a0 a1 k, LeO (lex_cutter_skip.f k a0 a1) (lex_cutter_skip.f (k + 1) a0 a1) := by
 intro a0 a1 k; obtain ⟨ih0, ih1⟩ := lex_cutter_skip.mono_l k; unfold lex_cutter_skip.f
 repeat' first
   | (with_reducible exact ih0 _ _)
   | (with_reducible exact ih1 _ _)
   | (with_reducible exact LeO.refl _)
   | (with_reducible exact LeO.none _)
   | (with_reducible refine LeO.ite ?_ ?_)
   | (with_reducible refine LeO.bind ?_ (fun _ => ?_))
   | exact ih0 _ _
   | exact ih1 _ _
   | exact LeO.none _
   | refine LeO.ite ?_ ?_
   | refine LeO.bind ?_ (fun _ => ?_)
theorem lex_cutter_skip.calls (k : Nat) (g : Nat) (s0_0 : ByteArray) (s0_1 : Int) (r1 : ByteArray) (r2 : Int) (w0 w : World) (hI : IsS41 w0 w g s0_0 s0_1) (hB : Below w0.heap.size w0 w) (h : lex_cutter_skip.f k s0_0 s0_1 = some (r1, r2)) :
  Calls Try.prog 57 #[.pointer (some ⟨g, 0, none⟩)] w fun e w' => e = .returned (.tuple #[]) ∧ IsS41 w0 w' g r1 r2 ∧ Below w0.heap.size w0 w' ∧ KeepBut w w' g none := by
 have HI0 := A_0 hI; have HK := A_0 (KeepBut.refl w g none); have HL := A_0 hB.size; clear hI; have HW0 := A_0 hB.size; have HB := A_0 hB; clear hB; have H : (lex_cutter_skip.l0 k s0_0 s0_1) = some (r1, r2) := h; clear h; have H' := A_0 H; clear H
 go_enter Try.func57, Try.ntmps57
 go_wp2
 go_loopg [] k (fun kq w' => ∃ (x1001_1 : Int), Aside0 (lex_cutter_skip.l0 kq s0_0 x1001_1 = some (r1, r2)) ∧ Aside0 (kq ≤ k) ∧ Aside0 (IsS41 w0 w' g s0_0 x1001_1) ∧ Aside0 (KeepBut w w' g none) ∧ Aside0 (Below w0.heap.size w0 w'))
 case atStart => exact ⟨(s0_1), H', ⟨xlr _⟩, ⟨z_183⟩, ⟨z_18⟩, ⟨z_184⟩⟩
 case round =>
  clear H'; obtain ⟨x1001_1, HA, HK1, HI0, HK, HB⟩ := hrel; cases gk with
  | zero => exact absurd HA.out (by simp [lex_cutter_skip.l0])
  | succ k1 =>
   have H := HA.out; clear HA; simp only [lex_cutter_skip.l0] at H; by_cases c2 : x1001_1 < (s0_0.size : Int)
   ·rw [if_pos c2] at H
    have c2b0 := xdt c2; clear c2; by_cases c3 : 0 ≤ x1001_1
    ·rw [if_pos c3] at H
     have c3b0 := xdt c3; clear c3; replace H := Option.bind_eq_some_iff.mp H; obtain ⟨t101, A50, H⟩ := H; replace H : (if t101 = true then (lex_cutter_skip.l0 k1 s0_0 (wrap64 (x1001_1 + 1))) else (if (bt s0_0 x1001_1) = 35 then (lex_cutter_skip.l1 k1 s0_0 x1001_1) else (some (s0_0, x1001_1)))) = some (r1, r2) := H; have A5 := A_0 A50; clear A50; by_cases c6 : t101 = true
     ·subst c6
      have H1 : (lex_cutter_skip.l0 k1 s0_0 (wrap64 (x1001_1 + 1))) = some (r1, r2) := z_23; clear H; have H := H1; clear H1; have H' := A_0 H; clear H; obtain ⟨HGz7, hgz7⟩ := HI0.out; have hcz7_0 := cellS41_0 HGz7; have hcz7_1 := cellS41_1 HGz7; have hfz7_0 := xbz HGz7 0; have hfz7_1 := xbz HGz7 1; clear HGz7 hgz7; have p4 : 0 ≤ (x1001_1 : Int) := xod (z_25); have q4 : x1001_1 < (s0_0.size : Int) := xod (z_25); have hx4 := bt_at s0_0 x1001_1; replace p4 := eq_true p4; replace q4 := eq_true q4
      go_wp2_with (fail)
      repeat (go_quiet (first | (go_at_call 95; (with_reducible refine (lex_blank.calls (bt s0_0 x1001_1) true _ A5.out).mono ?_); rintro e w' ⟨rfl, ⟨nd, rfl⟩⟩; (try first | exact ⟨rfl, _, World.drewN_drewN _ _ _⟩ | exact ⟨rfl, _, Eq.trans (World.drewN_drewN _ _ _) (congrArg (World.drewN _) (Nat.add_assoc _ _ _))⟩))); try go_wp2_with (fail))
      go_roundg k1
      case measure => have := HK1.out; omega
      case rel => exact ⟨(wrap64 (x1001_1 + 1)), H', ⟨by have := HK1.out; omega⟩, ⟨z_183⟩, ⟨z_18⟩, ⟨z_184⟩⟩
     ·replace c6 := Bool.eq_false_iff.mpr c6
      subst c6; have H1 : (if (bt s0_0 x1001_1) = 35 then (lex_cutter_skip.l1 k1 s0_0 x1001_1) else (some (s0_0, x1001_1))) = some (r1, r2) := z_26; clear H; have H := H1; clear H1; by_cases c9 : (bt s0_0 x1001_1) = 35
      ·rw [if_pos c9] at H
       obtain ⟨c9b0, c9b1⟩ := xbq c9; clear c9; have H' := A_0 H; clear H; obtain ⟨HGz10, hgz10⟩ := HI0.out; have hcz10_0 := cellS41_0 HGz10; have hcz10_1 := cellS41_1 HGz10; have hfz10_0 := xbz HGz10 0; have hfz10_1 := xbz HGz10 1; clear HGz10 hgz10; have p4 : 0 ≤ (x1001_1 : Int) := xod (z_25); have q4 : x1001_1 < (s0_0.size : Int) := xod (z_25); have hx4 := bt_at s0_0 x1001_1; replace p4 := eq_true p4; replace q4 := eq_true q4
       go_wp2_with (fail)
       repeat (go_quiet (first | (go_at_call 95; (with_reducible refine (lex_blank.calls (bt s0_0 x1001_1) false _ A5.out).mono ?_); rintro e w' ⟨rfl, ⟨nd, rfl⟩⟩; (try first | exact ⟨rfl, _, World.drewN_drewN _ _ _⟩ | exact ⟨rfl, _, Eq.trans (World.drewN_drewN _ _ _) (congrArg (World.drewN _) (Nat.add_assoc _ _ _))⟩); have p8 : 0 ≤ (x1001_1 : Int) := xod (z_25); have q8 : x1001_1 < (s0_0.size : Int) := xod (z_25); have hx8 := bt_at s0_0 x1001_1; replace p8 := eq_true p8; replace q8 := eq_true q8)); try go_wp2_with (fail))
       go_loopg [] k1 (fun kq w' => ∃ (x1001_2 : Int), Aside0 (lex_cutter_skip.l1 kq s0_0 x1001_2 = some (r1, r2)) ∧ Aside0 (kq ≤ k1) ∧ Aside0 (IsS41 w0 w' g s0_0 x1001_2) ∧ Aside0 (KeepBut w w' g none) ∧ Aside0 (Below w0.heap.size w0 w'))
       case atStart => exact ⟨(x1001_1), H', ⟨xlr _⟩, ⟨z_183⟩, ⟨z_18⟩, ⟨z_184⟩⟩
       case round =>
        clear H' c2b0 c3b0 p4 q4 hx4 p8 q8 hx8 c9b0 c9b1 hcz10_0 hcz10_1 hfz10_0 hfz10_1; obtain ⟨x1001_2, HA, HK2, HI0, HK, HB⟩ := hrel; cases gk with
        | zero => exact absurd HA.out (by simp [lex_cutter_skip.l1])
        | succ k2 =>
         have H := HA.out; clear HA; simp only [lex_cutter_skip.l1] at H; by_cases c11 : x1001_2 < (s0_0.size : Int)
         ·rw [if_pos c11] at H
          have c11b0 := xdt c11; clear c11; by_cases c12 : 0 ≤ x1001_2
          ·rw [if_pos c12] at H
           have c12b0 := xdt c12; clear c12; by_cases c14 : (bt s0_0 x1001_2) = 10
           ·rw [if_pos c14] at H
            obtain ⟨c14b0, c14b1⟩ := xbq c14; clear c14; have H' := A_0 H; clear H; obtain ⟨HGz15, hgz15⟩ := HI0.out; have hcz15_0 := cellS41_0 HGz15; have hcz15_1 := cellS41_1 HGz15; have hfz15_0 := xbz HGz15 0; have hfz15_1 := xbz HGz15 1; clear HGz15 hgz15; have p13 : 0 ≤ (x1001_2 : Int) := xod (z_25); have q13 : x1001_2 < (s0_0.size : Int) := xod (z_25); have hx13 := bt_at s0_0 x1001_2; replace p13 := eq_true p13; replace q13 := eq_true q13
            go_wp2
            repeat (go_quiet (fail); try go_wp2)
            go_roundg k2
            case measure => have := HK1.out; have := HK2.out; omega
            case rel => exact ⟨(x1001_2), H', ⟨by have := HK1.out; have := HK2.out; omega⟩, ⟨z_183⟩, ⟨z_18⟩, ⟨z_184⟩⟩
           ·rw [if_neg c14] at H
            obtain ⟨c14b0, c14b1⟩ := xnq c14; have H' := A_0 H; clear H; obtain ⟨HGz16, hgz16⟩ := HI0.out; have hcz16_0 := cellS41_0 HGz16; have hcz16_1 := cellS41_1 HGz16; have hfz16_0 := xbz HGz16 0; have hfz16_1 := xbz HGz16 1; clear HGz16 hgz16; have p13 : 0 ≤ (x1001_2 : Int) := xod (z_25); have q13 : x1001_2 < (s0_0.size : Int) := xod (z_25); have hx13 := bt_at s0_0 x1001_2; replace p13 := eq_true p13; replace q13 := eq_true q13
            go_wp2
            repeat (go_quiet (fail); try go_wp2)
            go_roundg k2
            case measure => have := HK1.out; have := HK2.out; omega
            case rel => exact ⟨(wrap64 (x1001_2 + 1)), H', ⟨by have := HK1.out; have := HK2.out; omega⟩, ⟨z_183⟩, ⟨z_18⟩, ⟨z_184⟩⟩
          ·rw [if_neg c12] at H
           exact z_27
         ·rw [if_neg c11] at H
          have c11b0 := xdf c11; clear c11; have H' := A_0 H; clear H; obtain ⟨HGz17, hgz17⟩ := HI0.out; have hcz17_0 := cellS41_0 HGz17; have hcz17_1 := cellS41_1 HGz17; have hfz17_0 := xbz HGz17 0; have hfz17_1 := xbz HGz17 1; clear HGz17 hgz17
          go_wp2
          repeat (go_quiet (fail); try go_wp2)
          go_roundg k2
          case measure => have := HK1.out; have := HK2.out; omega
          case rel => exact ⟨(x1001_2), H', ⟨by have := HK1.out; have := HK2.out; omega⟩, ⟨z_183⟩, ⟨z_18⟩, ⟨z_184⟩⟩
      ·rw [if_neg c9] at H
       obtain ⟨c9b0, c9b1⟩ := xnq c9; simp only [Option.some.injEq, Prod.mk.injEq] at H; obtain ⟨rfl, rfl⟩ := H; obtain ⟨HGz18, hgz18⟩ := HI0.out; have hcz18_0 := cellS41_0 HGz18; have hcz18_1 := cellS41_1 HGz18; have hfz18_0 := xbz HGz18 0; have hfz18_1 := xbz HGz18 1; clear HGz18 hgz18; have p4 : 0 ≤ (x1001_1 : Int) := xod (z_25); have q4 : x1001_1 < (s0_0.size : Int) := xod (z_25); have hx4 := bt_at s0_0 x1001_1; replace p4 := eq_true p4; replace q4 := eq_true q4
       go_wp2_with (fail)
       repeat (go_quiet (first | (go_at_call 95; (with_reducible refine (lex_blank.calls (bt s0_0 x1001_1) false _ A5.out).mono ?_); rintro e w' ⟨rfl, ⟨nd, rfl⟩⟩; (try first | exact ⟨rfl, _, World.drewN_drewN _ _ _⟩ | exact ⟨rfl, _, Eq.trans (World.drewN_drewN _ _ _) (congrArg (World.drewN _) (Nat.add_assoc _ _ _))⟩); have p8 : 0 ≤ (x1001_1 : Int) := xod (z_25); have q8 : x1001_1 < (s0_0.size : Int) := xod (z_25); have hx8 := bt_at s0_0 x1001_1; replace p8 := eq_true p8; replace q8 := eq_true q8)); try go_wp2_with (fail))
       first | go_end0 | ((try simp only [Exit.inBlock, Exit.then]); refine bodyPost_ret (results_none rfl _ _ _) rfl ?_)
       exact ⟨z_17, z_183, z_184, z_18⟩
    ·rw [if_neg c3] at H
     exact z_27
   ·rw [if_neg c2] at H
    have c2b0 := xdf c2; clear c2; simp only [Option.some.injEq, Prod.mk.injEq] at H; obtain ⟨rfl, rfl⟩ := H; obtain ⟨HGz19, hgz19⟩ := HI0.out; have hcz19_0 := cellS41_0 HGz19; have hcz19_1 := cellS41_1 HGz19; have hfz19_0 := xbz HGz19 0; have hfz19_1 := xbz HGz19 1; clear HGz19 hgz19
    go_wp2
    repeat (go_quiet (fail); try go_wp2)
    first | go_end0 | ((try simp only [Exit.inBlock, Exit.then]); refine bodyPost_ret (results_none rfl _ _ _) rfl ?_)
    exact ⟨z_17, z_183, z_184, z_18⟩
def lex_letter.f (a0 : Int) : Option (Bool) := if a0 ≥ 97 then (if a0 ≤ 122 then (some true) else (if a0 ≥ 65 then (if a0 ≤ 90 then (some true) else (some (a0 == 95))) else (some (a0 == 95)))) else (if a0 ≥ 65 then (if a0 ≤ 90 then (some true) else (some (a0 == 95))) else (some (a0 == 95)))
theorem lex_letter.calls (a0 : Int) (r : Bool) (w : World) (h : lex_letter.f a0 = some r) :
  Calls Try.prog 98 #[.int .u8 a0] w fun e w' => e = .returned (.bool r) ∧ Drawn0 w w' := by
 have H : (if a0 ≥ 97 then (if a0 ≤ 122 then (some true) else (if a0 ≥ 65 then (if a0 ≤ 90 then (some true) else (some (a0 == 95))) else (some (a0 == 95)))) else (if a0 ≥ 65 then (if a0 ≤ 90 then (some true) else (some (a0 == 95))) else (some (a0 == 95)))) = some r := h; clear h; by_cases c2 : a0 ≥ 97
 ·rw [if_pos c2] at H
  have c2b0 := xdt c2; clear c2; by_cases c3 : a0 ≤ 122
  ·rw [if_pos c3] at H
   have c3b0 := xdt c3; clear c3; obtain rfl := xsi H
   go_enter Try.func98, Try.ntmps98
   go_wp2
   go_ret
   exact z_19
  ·rw [if_neg c3] at H
   have c3b0 := xdf c3; clear c3; by_cases c4 : a0 ≥ 65
   ·rw [if_pos c4] at H
    have c4b0 := xdt c4; clear c4; by_cases c5 : a0 ≤ 90
    ·rw [if_pos c5] at H
     have c5b0 := xdt c5; clear c5; obtain rfl := xsi H
     go_enter Try.func98, Try.ntmps98
     go_wp2
     go_ret
     exact z_19
    ·rw [if_neg c5] at H
     have c5b0 := xdf c5; clear c5; obtain rfl := xsi H
     go_enter Try.func98, Try.ntmps98
     go_wp2
     go_ret
     exact z_19
   ·rw [if_neg c4] at H
    have c4b0 := xdf c4; clear c4; obtain rfl := xsi H
    go_enter Try.func98, Try.ntmps98
    go_wp2
    go_ret
    exact z_19
 ·rw [if_neg c2] at H
  have c2b0 := xdf c2; clear c2; by_cases c6 : a0 ≥ 65
  ·rw [if_pos c6] at H
   have c6b0 := xdt c6; clear c6; by_cases c7 : a0 ≤ 90
   ·rw [if_pos c7] at H
    have c7b0 := xdt c7; clear c7; obtain rfl := xsi H
    go_enter Try.func98, Try.ntmps98
    go_wp2
    go_ret
    exact z_19
   ·rw [if_neg c7] at H
    have c7b0 := xdf c7; clear c7; obtain rfl := xsi H
    go_enter Try.func98, Try.ntmps98
    go_wp2
    go_ret
    exact z_19
  ·rw [if_neg c6] at H
   have c6b0 := xdf c6; clear c6; obtain rfl := xsi H
   go_enter Try.func98, Try.ntmps98
   go_wp2
   go_ret
   exact z_19
def lex_digit.f (a0 : Int) : Option (Bool) := if a0 ≥ 48 then (some (decide (a0 ≤ 57))) else (some false)
theorem lex_digit.calls (a0 : Int) (r : Bool) (w : World) (h : lex_digit.f a0 = some r) :
  Calls Try.prog 96 #[.int .u8 a0] w fun e w' => e = .returned (.bool r) ∧ Drawn0 w w' := by
 have H : (if a0 ≥ 48 then (some (decide (a0 ≤ 57))) else (some false)) = some r := h; clear h; by_cases c2 : a0 ≥ 48
 ·rw [if_pos c2] at H
  have c2b0 := xdt c2; clear c2; obtain rfl := xsi H
  go_enter Try.func96, Try.ntmps96
  go_wp2
  go_ret
  exact z_19
 ·rw [if_neg c2] at H
  have c2b0 := xdf c2; clear c2; obtain rfl := xsi H
  go_enter Try.func96, Try.ntmps96
  go_wp2
  go_ret
  exact z_19
def num_sum.l0 : Nat → ByteArray → Int → Int → Int → Option (Int × Bool)
 | 0, _, _, _, _ => none
 | k + 1, x0, x4, x8, x9 => if x9 < x8 then (if 0 ≤ x9 then (if x9 < (x0.size : Int) then (if x4 > ((18446744073709551615 - (((bt x0 x9) - 48) % 256)) / 10) then (some (0, false)) else (num_sum.l0 k x0 (IntKind.u64.wrap ((IntKind.u64.wrap (x4 * 10)) + (((bt x0 x9) - 48) % 256))) x8 (wrap64 (x9 + 1)))) else (none)) else (none)) else (some (x4, true))
def num_sum.f (k : Nat) (a0 : ByteArray) : Option (Int × Bool) := num_sum.l0 k a0 0 (a0.size : Int) 0
theorem num_sum.mono_l : ∀ k, (∀ y0 y1 y2 y3, LeO (num_sum.l0 k y0 y1 y2 y3) (num_sum.l0 (k + 1) y0 y1 y2 y3))
 | 0 => fun _ _ _ _ r h => by simp [num_sum.l0] at h
 | k + 1 => by
  have ih0 := num_sum.mono_l k
  ·intro y0 y1 y2 y3
   unfold num_sum.l0
   repeat' first
   | (with_reducible exact ih0 _ _ _ _)
   | (with_reducible exact LeO.refl _)
   | (with_reducible exact LeO.none _)
   | (with_reducible refine LeO.ite ?_ ?_)
   | (with_reducible refine LeO.bind ?_ (fun _ => ?_))
   | exact ih0 _ _ _ _
   | exact LeO.none _
   | refine LeO.ite ?_ ?_
   | refine LeO.bind ?_ (fun _ => ?_)
theorem num_sum.calls (k : Nat) (a0 : ByteArray) (r1 : Int) (r2 : Bool) (w : World) (h : num_sum.f k a0 = some (r1, r2)) :
  Calls Try.prog 137 #[.string a0] w fun e w' => e = .returned (.tuple #[.int .u64 r1, .bool r2]) ∧ Drawn0 w w' := by
 have H : (num_sum.l0 k a0 0 (a0.size : Int) 0) = some (r1, r2) := h; clear h; have H' := A_0 H; clear H
 go_enter Try.func137, Try.ntmps137
 go_wp2
 go_loopg [4, 9] k (fun kq v4 v9 w' => ∃ (x4_1 : Int) (x9_1 : Int), v4 = .int .u64 x4_1 ∧ v9 = .int .i64 x9_1 ∧ Aside0 (num_sum.l0 kq a0 x4_1 (a0.size : Int) x9_1 = some (r1, r2)) ∧ Aside0 (kq ≤ k) ∧ Drawn0 w w')
 case atStart => exact ⟨(0), (0), (z_20), (z_20), H', ⟨xlr _⟩, z_22⟩
 case round =>
  clear H'; obtain ⟨x4_1, x9_1, rfl, rfl, HA, HK1, ⟨m1, rfl⟩⟩ := hrel; cases gk with
  | zero => exact absurd HA.out (by simp [num_sum.l0])
  | succ k1 =>
   have H := HA.out; clear HA; simp only [num_sum.l0] at H; by_cases c2 : x9_1 < (a0.size : Int)
   ·rw [if_pos c2] at H
    have c2b0 := xdt c2; clear c2; by_cases c3 : 0 ≤ x9_1
    ·rw [if_pos c3] at H
     have c3b0 := xdt c3; clear c3; by_cases c4 : x9_1 < (a0.size : Int)
     ·rw [if_pos c4] at H
      have c4b0 := xdt c4; clear c4; by_cases c6 : x4_1 > ((18446744073709551615 - (((bt a0 x9_1) - 48) % 256)) / 10)
      ·rw [if_pos c6] at H
       have c6b0 := xdt c6; clear c6; simp only [Option.some.injEq, Prod.mk.injEq] at H; obtain ⟨rfl, rfl⟩ := H; have p5 : 0 ≤ (x9_1 : Int) := xod (z_25); have q5 : x9_1 < (a0.size : Int) := xod (z_25); have hx5 := bt_at a0 x9_1; replace p5 := eq_true p5; replace q5 := eq_true q5
       go_wp2
       go_ret2
       exact z_19
      ·rw [if_neg c6] at H
       have c6b0 := xdf c6; clear c6; have H' := A_0 H; clear H; have p5 : 0 ≤ (x9_1 : Int) := xod (z_25); have q5 : x9_1 < (a0.size : Int) := xod (z_25); have hx5 := bt_at a0 x9_1; replace p5 := eq_true p5; replace q5 := eq_true q5
       go_wp2
       go_roundg k1
       case measure => have := HK1.out; omega
       case rel => exact ⟨(IntKind.u64.wrap ((IntKind.u64.wrap (x4_1 * 10)) + (((bt a0 x9_1) - 48) % 256))), (wrap64 (x9_1 + 1)), (z_20), (z_20), H', ⟨by have := HK1.out; omega⟩, z_22⟩
     ·rw [if_neg c4] at H
      exact z_27
    ·rw [if_neg c3] at H
     exact z_27
   ·rw [if_neg c2] at H
    have c2b0 := xdf c2; clear c2; simp only [Option.some.injEq, Prod.mk.injEq] at H; obtain ⟨rfl, rfl⟩ := H
    go_wp2
    go_ret2
    exact z_19
mutual
def num_Parse.j0 : Nat → ByteArray → Bool → Bool → Option (Int × Int)
 | 0, _, _, _ => none
 | k + 1, x4, x5, x16 => if x16 = true then (if 1 ≤ (x4.size : Int) then (num_Parse.j1 k (x4.extract 1 x4.size) true) else (none)) else (num_Parse.j1 k x4 x5)
def num_Parse.j1 : Nat → ByteArray → Bool → Option (Int × Int)
 | 0, _, _ => none
 | k + 1, x4, x5 => if x4.toList = ([] : List UInt8) then (num_Parse.j2 k x4 x5 true) else (if 0 < (x4.size : Int) then (if (bt x4 0) = 48 then (if (x4.size : Int) > 1 then (num_Parse.j2 k x4 x5 true) else (num_Parse.j2 k x4 x5 x5)) else (num_Parse.j2 k x4 x5 false)) else (none))
def num_Parse.j2 : Nat → ByteArray → Bool → Bool → Option (Int × Int)
 | 0, _, _, _ => none
 | k + 1, x4, x5, x33 => if x33 = true then (some (0, 10)) else (num_Parse.l0 k x4 x5 (x4.size : Int) 0)
def num_Parse.l0 : Nat → ByteArray → Bool → Int → Int → Option (Int × Int)
 | 0, _, _, _, _ => none
 | k + 1, x4, x5, x35, x36 => if x36 < x35 then (if 0 ≤ x36 then (if x36 < (x4.size : Int) then (if (bt x4 x36) < 48 then (some (0, 10)) else (if (bt x4 x36) > 57 then (some (0, 10)) else (num_Parse.l0 k x4 x5 x35 (wrap64 (x36 + 1))))) else (none)) else (none)) else ((num_sum.f k x4).bind fun bt102 => (if bt102.2 = true then (if x5 = true then (if bt102.1 > 9223372036854775808 then (num_Parse.j4 k x5 bt102.1 (decide (bt102.1 > 9223372036854775808))) else (num_Parse.j4 k x5 bt102.1 false)) else (num_Parse.j4 k x5 bt102.1 (decide (bt102.1 > 9223372036854775807)))) else (num_Parse.j4 k x5 bt102.1 (!bt102.2))))
def num_Parse.j4 : Nat → Bool → Int → Bool → Option (Int × Int)
 | 0, _, _, _ => none
 | k + 1, x5, x7, x55 => if x55 = true then (some (0, 11)) else (if x5 = true then (some (wrap64 (IntKind.u64.wrap (-x7)), 0)) else (some (wrap64 (x7), 0)))
end
def num_Parse.f (k : Nat) (a0 : ByteArray) : Option (Int × Int) := if a0.toList = ([] : List UInt8) then (num_Parse.j0 k a0 false false) else (if 0 < (a0.size : Int) then (num_Parse.j0 k a0 false ((bt a0 0) == 45)) else (none))
theorem num_Parse.calls (k : Nat) (a0 : ByteArray) (r1 : Int) (r2 : Int) (w : World) (h : num_Parse.f k a0 = some (r1, r2)) :
  Calls Try.prog 122 #[.string a0] w fun e w' => e = .returned (.tuple #[.int .i64 r1, .int .i64 r2]) ∧ Drawn0 w w' := by
 have H : (if a0.toList = ([] : List UInt8) then (num_Parse.j0 k a0 false false) else (if 0 < (a0.size : Int) then (num_Parse.j0 k a0 false ((bt a0 0) == 45)) else (none))) = some (r1, r2) := h; clear h; have HC2 := A_0 H; clear H
 go_enter Try.func122, Try.ntmps122
 go_upto_region 2 with (fail)
 go_cut [16] (fun v16 wc => ∃ (kq : Nat) (x16_1 : Bool), v16 = .bool x16_1 ∧ Aside0 (num_Parse.j0 kq a0 false x16_1 = some (r1, r2)) ∧ Aside0 (kq ≤ k) ∧ Drawn0 w wc)
 case first =>
  have H := HC2.out; clear HC2; by_cases c3 : a0.toList = ([] : List UInt8)
  ·rw [if_pos c3] at H
   obtain ⟨c3b0, c3b1⟩ := xbq c3; clear c3
   (first | rw [c3b0] | (simp only [i64_w, i32_w]; rw [c3b0]) | skip)
   have H' := A_0 H; clear H
   go_wp2
   go_meet
   case rel => exact ⟨_, (false), (z_20), H', ⟨z_21⟩, z_22⟩
  ·rw [if_neg c3] at H
   obtain ⟨c3b0, c3b1⟩ := xnq c3
   (first | rw [c3b0] | (simp only [i64_w, i32_w]; rw [c3b0]) | skip)
   by_cases c4 : 0 < (a0.size : Int)
   ·rw [if_pos c4] at H
    have c4b0 := xdt c4; have c4b1 : decide (0 < a0.size) = true := xdt (by omega); clear c4; have H' := A_0 H; clear H; have p5 : 0 ≤ (0 : Int) := (by omega); have q5 : 0 < a0.size := (z_24); have hx5 : ∀ h : 0 < a0.size, ((a0[0]'h).toNat : Int) = bt a0 0 := bt_at a0 0; clear p5; have qi5 : (0 < (a0.size : Int)) = True := eq_true (xod (z_25)); replace q5 := eq_true q5
    go_wp2
    go_meet
    case rel => exact ⟨_, (((bt a0 0) == 45)), (z_20), H', ⟨z_21⟩, z_22⟩
   ·rw [if_neg c4] at H
    exact z_27
 case rest =>
  clear HC2; obtain ⟨kq, x16_1, rfl, HA, HJ1, ⟨mc1, rfl⟩⟩ := hcut; cases kq with
  | zero => exact absurd HA.out (by simp [num_Parse.j0])
  | succ kj1 =>
   have H := HA.out; clear HA; simp only [num_Parse.j0] at H; have HC6 := A_0 H; clear H
   go_upto_if 16 with (fail)
   go_cut [4, 5] (fun v4 v5 wc => ∃ (kq : Nat) (x4_5 : ByteArray) (x5_5 : Bool), v4 = .string x4_5 ∧ v5 = .bool x5_5 ∧ Aside0 (num_Parse.j1 kq x4_5 x5_5 = some (r1, r2)) ∧ Aside0 (kq ≤ kj1) ∧ Drawn0 w wc)
   case first =>
    have H := HC6.out; clear HC6; by_cases c7 : x16_1 = true
    ·subst c7
     have H1 : (if 1 ≤ (a0.size : Int) then (num_Parse.j1 kj1 (a0.extract 1 a0.size) true) else (none)) = some (r1, r2) := z_23; clear H; have H := H1; clear H1; by_cases c8 : 1 ≤ (a0.size : Int)
     ·rw [if_pos c8] at H
      have c8b0 := eq_true c8; have c8b1 := xdt c8; clear c8; have H' := A_0 H; clear H
      go_wp2
      go_meet
      case rel => exact ⟨_, (a0.extract 1 a0.size), (true), (z_20), (z_20), H', ⟨z_32⟩, z_22⟩
     ·rw [if_neg c8] at H
      exact z_27
    ·replace c7 := Bool.eq_false_iff.mpr c7
     subst c7; have H1 : (num_Parse.j1 kj1 a0 false) = some (r1, r2) := z_26; clear H; have H := H1; clear H1; have H' := A_0 H; clear H
     go_wp2
     go_meet
     case rel => exact ⟨_, (a0), (false), (z_20), (z_20), H', ⟨z_32⟩, z_22⟩
   case rest =>
    clear HC6; obtain ⟨kq, x4_5, x5_5, rfl, rfl, HA, HJ5, ⟨mc5, rfl⟩⟩ := hcut; cases kq with
    | zero => exact absurd HA.out (by simp [num_Parse.j1])
    | succ kj5 =>
     have H := HA.out; clear HA; simp only [num_Parse.j1] at H; have HC9 := A_0 H; clear H; go_upto_region 4 with (fail)
     go_cut [33] (fun v33 wc => ∃ (kq : Nat) (x33_8 : Bool), v33 = .bool x33_8 ∧ Aside0 (num_Parse.j2 kq x4_5 x5_5 x33_8 = some (r1, r2)) ∧ Aside0 (kq ≤ kj5) ∧ Drawn0 w wc)
     case first =>
      have H := HC9.out; clear HC9; by_cases c10 : x4_5.toList = ([] : List UInt8)
      ·rw [if_pos c10] at H
       obtain ⟨c10b0, c10b1⟩ := xbq c10; clear c10
       (first | rw [c10b0] | (simp only [i64_w, i32_w]; rw [c10b0]) | skip)
       have H' := A_0 H; clear H
       go_wp2
       go_meet
       case rel => exact ⟨_, (true), (z_20), H', ⟨z_185⟩, z_22⟩
      ·rw [if_neg c10] at H
       obtain ⟨c10b0, c10b1⟩ := xnq c10
       (first | rw [c10b0] | (simp only [i64_w, i32_w]; rw [c10b0]) | skip)
       by_cases c11 : 0 < (x4_5.size : Int)
       ·rw [if_pos c11] at H
        have c11b0 := xdt c11; have c11b1 : decide (0 < x4_5.size) = true := xdt (by omega); clear c11; by_cases c13 : (bt x4_5 0) = 48
        ·rw [if_pos c13] at H
         obtain ⟨c13b0, c13b1⟩ := xbq c13; clear c13; by_cases c14 : (x4_5.size : Int) > 1
         ·rw [if_pos c14] at H
          have c14b0 := xdt c14; have c14b1 : decide (1 < x4_5.size) = true := xdt (by omega); clear c14; have H' := A_0 H; clear H; have p12 : 0 ≤ (0 : Int) := (by omega); have q12 : 0 < x4_5.size := (z_186); have hx12 : ∀ h : 0 < x4_5.size, ((x4_5[0]'h).toNat : Int) = bt x4_5 0 := bt_at x4_5 0; clear p12; have qi12 : (0 < (x4_5.size : Int)) = True := eq_true (xod (z_25)); replace q12 := eq_true q12
          go_wp2
          go_meet
          case rel => exact ⟨_, (true), (z_20), H', ⟨z_185⟩, z_22⟩
         ·rw [if_neg c14] at H
          have c14b0 := xdf c14; have c14b1 : decide (1 < x4_5.size) = false := xdf (by omega); clear c14; have H' := A_0 H; clear H; have p12 : 0 ≤ (0 : Int) := (by omega); have q12 : 0 < x4_5.size := (z_186); have hx12 : ∀ h : 0 < x4_5.size, ((x4_5[0]'h).toNat : Int) = bt x4_5 0 := bt_at x4_5 0; clear p12; have qi12 : (0 < (x4_5.size : Int)) = True := eq_true (xod (z_25)); replace q12 := eq_true q12
          go_wp2
          go_meet
          case rel => exact ⟨_, (x5_5), (z_20), H', ⟨z_185⟩, z_22⟩
        ·rw [if_neg c13] at H
         obtain ⟨c13b0, c13b1⟩ := xnq c13; have H' := A_0 H; clear H; have p12 : 0 ≤ (0 : Int) := (by omega); have q12 : 0 < x4_5.size := (z_186); have hx12 : ∀ h : 0 < x4_5.size, ((x4_5[0]'h).toNat : Int) = bt x4_5 0 := bt_at x4_5 0; clear p12; have qi12 : (0 < (x4_5.size : Int)) = True := eq_true (xod (z_25)); replace q12 := eq_true q12
         go_wp2
         go_meet
         case rel => exact ⟨_, (false), (z_20), H', ⟨z_185⟩, z_22⟩
       ·rw [if_neg c11] at H
        exact z_27
     case rest =>
      clear HC9; obtain ⟨kq, x33_8, rfl, HA, HJ8, ⟨mc8, rfl⟩⟩ := hcut; cases kq with
      | zero => exact absurd HA.out (by simp [num_Parse.j2])
      | succ kj8 =>
       have H := HA.out; clear HA; simp only [num_Parse.j2] at H; by_cases c15 : x33_8 = true
       ·subst c15
        have H1 : (some (0, 10)) = some (r1, r2) := z_23; clear H; have H := H1; clear H1; simp only [Option.some.injEq, Prod.mk.injEq] at H; obtain ⟨rfl, rfl⟩ := H
        go_wp2
        go_ret2
        exact z_19
       ·replace c15 := Bool.eq_false_iff.mpr c15
        subst c15; have H1 : (num_Parse.l0 kj8 x4_5 x5_5 (x4_5.size : Int) 0) = some (r1, r2) := z_26; clear H; have H := H1; clear H1; have H' := A_0 H; clear H
        go_wp2
        go_loopg [36] kj8 (fun kq v36 w' => ∃ (x36_4 : Int), v36 = .int .i64 x36_4 ∧ Aside0 (num_Parse.l0 kq x4_5 x5_5 (x4_5.size : Int) x36_4 = some (r1, r2)) ∧ Aside0 (kq ≤ kj8) ∧ Drawn0 w w')
        case atStart => exact ⟨(0), (z_20), H', ⟨xlr _⟩, z_22⟩
        case round =>
         clear H'; obtain ⟨x36_4, rfl, HA, HK4, ⟨m4, rfl⟩⟩ := hrel; cases gk with
         | zero => exact absurd HA.out (by simp [num_Parse.l0])
         | succ k4 =>
          have H := HA.out; clear HA; simp only [num_Parse.l0] at H; by_cases c16 : x36_4 < (x4_5.size : Int)
          ·rw [if_pos c16] at H
           have c16b0 := xdt c16; clear c16; by_cases c17 : 0 ≤ x36_4
           ·rw [if_pos c17] at H
            have c17b0 := xdt c17; clear c17; by_cases c18 : x36_4 < (x4_5.size : Int)
            ·rw [if_pos c18] at H
             have c18b0 := xdt c18; clear c18; by_cases c20 : (bt x4_5 x36_4) < 48
             ·rw [if_pos c20] at H
              have c20b0 := xdt c20; clear c20; simp only [Option.some.injEq, Prod.mk.injEq] at H; obtain ⟨rfl, rfl⟩ := H; have p19 : 0 ≤ (x36_4 : Int) := xod (z_25); have q19 : x36_4 < (x4_5.size : Int) := xod (z_25); have hx19 := bt_at x4_5 x36_4; replace p19 := eq_true p19; replace q19 := eq_true q19
              go_wp2
              go_ret2
              exact z_19
             ·rw [if_neg c20] at H
              have c20b0 := xdf c20; clear c20; by_cases c22 : (bt x4_5 x36_4) > 57
              ·rw [if_pos c22] at H
               have c22b0 := xdt c22; clear c22; simp only [Option.some.injEq, Prod.mk.injEq] at H; obtain ⟨rfl, rfl⟩ := H; have p19 : 0 ≤ (x36_4 : Int) := xod (z_25); have q19 : x36_4 < (x4_5.size : Int) := xod (z_25); have hx19 := bt_at x4_5 x36_4; replace p19 := eq_true p19; replace q19 := eq_true q19; have p21 : 0 ≤ (x36_4 : Int) := xod (z_25); have q21 : x36_4 < (x4_5.size : Int) := xod (z_25); have hx21 := bt_at x4_5 x36_4; replace p21 := eq_true p21; replace q21 := eq_true q21
               go_wp2
               go_ret2
               exact z_19
              ·rw [if_neg c22] at H
               have c22b0 := xdf c22; clear c22; have H' := A_0 H; clear H; have p19 : 0 ≤ (x36_4 : Int) := xod (z_25); have q19 : x36_4 < (x4_5.size : Int) := xod (z_25); have hx19 := bt_at x4_5 x36_4; replace p19 := eq_true p19; replace q19 := eq_true q19; have p21 : 0 ≤ (x36_4 : Int) := xod (z_25); have q21 : x36_4 < (x4_5.size : Int) := xod (z_25); have hx21 := bt_at x4_5 x36_4; replace p21 := eq_true p21; replace q21 := eq_true q21
               go_wp2
               go_roundg k4
               case measure => have := HJ1.out; have := HJ5.out; have := HJ8.out; have := HK4.out; omega
               case rel => exact ⟨(wrap64 (x36_4 + 1)), (z_20), H', ⟨by have := HJ1.out; have := HJ5.out; have := HJ8.out; have := HK4.out; omega⟩, z_22⟩
            ·rw [if_neg c18] at H
             exact z_27
           ·rw [if_neg c17] at H
            exact z_27
          ·rw [if_neg c16] at H
           have c16b0 := xdf c16; clear c16; replace H := Option.bind_eq_some_iff.mp H; obtain ⟨⟨t102, t103⟩, A230, H⟩ := H; replace H : (if t103 = true then (if x5_5 = true then (if t102 > 9223372036854775808 then (num_Parse.j4 k4 x5_5 t102 (decide (t102 > 9223372036854775808))) else (num_Parse.j4 k4 x5_5 t102 false)) else (num_Parse.j4 k4 x5_5 t102 (decide (t102 > 9223372036854775807)))) else (num_Parse.j4 k4 x5_5 t102 (!t103))) = some (r1, r2) := H; have A23 := A_0 A230; clear A230; have HC24 := A_0 H; clear H
           go_upto_if 55 with (first | ((with_reducible refine gate_callee (f := 137) rfl ?_); refine goesL_ (some 52) rfl rfl Try.func137 (by kernel_rfl) rfl #[.string x4_5] rfl (z_28) ?_; (with_reducible refine (num_sum.calls k4 x4_5 t102 t103 _ A23.out).mono ?_); rintro e w' ⟨rfl, ⟨nd, rfl⟩⟩; refine ⟨_, rfl, ?_⟩))
           (try simp only [Act.put, List.setIfInBounds_toArray, List.set_cons_zero, List.set_cons_succ])
           go_cut [55] (fun v55 wc => ∃ (kq : Nat) (x55_23 : Bool), v55 = .bool x55_23 ∧ Aside0 (num_Parse.j4 kq x5_5 t102 x55_23 = some (r1, r2)) ∧ Aside0 (kq ≤ k4) ∧ Drawn0 w wc)
           case first =>
            have H := HC24.out; clear HC24; by_cases c25 : t103 = true
            ·subst c25
             have H1 : (if x5_5 = true then (if t102 > 9223372036854775808 then (num_Parse.j4 k4 x5_5 t102 (decide (t102 > 9223372036854775808))) else (num_Parse.j4 k4 x5_5 t102 false)) else (num_Parse.j4 k4 x5_5 t102 (decide (t102 > 9223372036854775807)))) = some (r1, r2) := z_23; clear H; have H := H1; clear H1; by_cases c26 : x5_5 = true
             ·subst c26
              have H1 : (if t102 > 9223372036854775808 then (num_Parse.j4 k4 true t102 (decide (t102 > 9223372036854775808))) else (num_Parse.j4 k4 true t102 false)) = some (r1, r2) := z_23; clear H; have H := H1; clear H1; by_cases c27 : t102 > 9223372036854775808
              ·rw [if_pos c27] at H
               have c27b0 := xdt c27; clear c27
               (first | rw [c27b0] | (simp only [i64_w, i32_w]; rw [c27b0]) | skip)
               have H' := A_0 H; clear H
               go_wp2
               go_meet
               case rel => exact ⟨_, (decide (t102 > 9223372036854775808)), (z_20), H', ⟨z_187⟩, z_22⟩
              ·rw [if_neg c27] at H
               have c27b0 := xdf c27; clear c27
               (first | rw [c27b0] | (simp only [i64_w, i32_w]; rw [c27b0]) | skip)
               have H' := A_0 H; clear H
               go_wp2
               go_meet
               case rel => exact ⟨_, (false), (z_20), H', ⟨z_187⟩, z_22⟩
             ·replace c26 := Bool.eq_false_iff.mpr c26
              subst c26; have H1 : (num_Parse.j4 k4 false t102 (decide (t102 > 9223372036854775807))) = some (r1, r2) := z_26; clear H; have H := H1; clear H1; have H' := A_0 H; clear H
              go_wp2
              go_meet
              case rel => exact ⟨_, (decide (t102 > 9223372036854775807)), (z_20), H', ⟨z_187⟩, z_22⟩
            ·replace c25 := Bool.eq_false_iff.mpr c25
             subst c25; have H1 : (num_Parse.j4 k4 x5_5 t102 (!false)) = some (r1, r2) := z_26; clear H; have H := H1; clear H1; have H' := A_0 H; clear H
             go_wp2
             go_meet
             case rel => exact ⟨_, (!false), (z_20), H', ⟨z_187⟩, z_22⟩
           case rest =>
            clear HC24 c16b0; obtain ⟨kq, x55_23, rfl, HA, HJ23, ⟨mc23, rfl⟩⟩ := hcut; cases kq with
            | zero => exact absurd HA.out (by simp [num_Parse.j4])
            | succ kj23 =>
             have H := HA.out; clear HA; simp only [num_Parse.j4] at H; by_cases c28 : x55_23 = true
             ·subst c28
              have H1 : (some (0, 11)) = some (r1, r2) := z_23; clear H; have H := H1; clear H1; simp only [Option.some.injEq, Prod.mk.injEq] at H; obtain ⟨rfl, rfl⟩ := H
              go_wp2
              go_ret2
              exact z_19
             ·replace c28 := Bool.eq_false_iff.mpr c28
              subst c28; have H1 : (if x5_5 = true then (some (wrap64 (IntKind.u64.wrap (-t102)), 0)) else (some (wrap64 (t102), 0))) = some (r1, r2) := z_26; clear H; have H := H1; clear H1; by_cases c29 : x5_5 = true
              ·subst c29
               have H1 : (some (wrap64 (IntKind.u64.wrap (-t102)), 0)) = some (r1, r2) := z_23; clear H; have H := H1; clear H1; simp only [Option.some.injEq, Prod.mk.injEq] at H; obtain ⟨rfl, rfl⟩ := H
               go_wp2
               go_ret2
               exact z_19
              ·replace c29 := Bool.eq_false_iff.mpr c29
               subst c29; have H1 : (some (wrap64 (t102), 0)) = some (r1, r2) := z_26; clear H; have H := H1; clear H1; simp only [Option.some.injEq, Prod.mk.injEq] at H; obtain ⟨rfl, rfl⟩ := H
               go_wp2
               go_ret2
               exact z_19
def lex_Words.f (a0 : ByteArray) : Option (Bool) := if a0.toList = ([118, 97, 114] : List UInt8) then (some true) else (if a0.toList = ([105, 102] : List UInt8) then (some true) else (if a0.toList = ([101, 108, 115, 101] : List UInt8) then (some true) else (if a0.toList = ([119, 104, 105, 108, 101] : List UInt8) then (some true) else (if a0.toList = ([101, 109, 105, 116] : List UInt8) then (some true) else (if a0.toList = ([105, 110, 116, 111] : List UInt8) then (some true) else (if a0.toList = ([102, 97, 105, 108] : List UInt8) then (some true) else (if a0.toList = ([115, 116, 111, 112] : List UInt8) then (some true) else (if a0.toList = ([109] : List UInt8) then (some true) else (if a0.toList = ([109, 105, 110] : List UInt8) then (some true) else (if a0.toList = ([109, 97, 120] : List UInt8) then (some true) else (some false)))))))))))
theorem lex_Words.calls (a0 : ByteArray) (r : Bool) (w : World) (h : lex_Words.f a0 = some r) :
  Calls Try.prog 124 #[.string a0] w fun e w' => e = .returned (.bool r) ∧ Drawn0 w w' := by
 have H : (if a0.toList = ([118, 97, 114] : List UInt8) then (some true) else (if a0.toList = ([105, 102] : List UInt8) then (some true) else (if a0.toList = ([101, 108, 115, 101] : List UInt8) then (some true) else (if a0.toList = ([119, 104, 105, 108, 101] : List UInt8) then (some true) else (if a0.toList = ([101, 109, 105, 116] : List UInt8) then (some true) else (if a0.toList = ([105, 110, 116, 111] : List UInt8) then (some true) else (if a0.toList = ([102, 97, 105, 108] : List UInt8) then (some true) else (if a0.toList = ([115, 116, 111, 112] : List UInt8) then (some true) else (if a0.toList = ([109] : List UInt8) then (some true) else (if a0.toList = ([109, 105, 110] : List UInt8) then (some true) else (if a0.toList = ([109, 97, 120] : List UInt8) then (some true) else (some false)))))))))))) = some r := h; clear h; by_cases c2 : a0.toList = ([118, 97, 114] : List UInt8)
 ·rw [if_pos c2] at H
  obtain ⟨c2b0, c2b1⟩ := xbq c2; clear c2; obtain rfl := xsi H
  go_enter Try.func124, Try.ntmps124
  go_wp2
  go_ret
  exact z_19
 ·rw [if_neg c2] at H
  obtain ⟨c2b0, c2b1⟩ := xnq c2; by_cases c3 : a0.toList = ([105, 102] : List UInt8)
  ·rw [if_pos c3] at H
   obtain ⟨c3b0, c3b1⟩ := xbq c3; clear c3; obtain rfl := xsi H
   go_enter Try.func124, Try.ntmps124
   go_wp2
   go_ret
   exact z_19
  ·rw [if_neg c3] at H
   obtain ⟨c3b0, c3b1⟩ := xnq c3; by_cases c4 : a0.toList = ([101, 108, 115, 101] : List UInt8)
   ·rw [if_pos c4] at H
    obtain ⟨c4b0, c4b1⟩ := xbq c4; clear c4; obtain rfl := xsi H
    go_enter Try.func124, Try.ntmps124
    go_wp2
    go_ret
    exact z_19
   ·rw [if_neg c4] at H
    obtain ⟨c4b0, c4b1⟩ := xnq c4; by_cases c5 : a0.toList = ([119, 104, 105, 108, 101] : List UInt8)
    ·rw [if_pos c5] at H
     obtain ⟨c5b0, c5b1⟩ := xbq c5; clear c5; obtain rfl := xsi H
     go_enter Try.func124, Try.ntmps124
     go_wp2
     go_ret
     exact z_19
    ·rw [if_neg c5] at H
     obtain ⟨c5b0, c5b1⟩ := xnq c5; by_cases c6 : a0.toList = ([101, 109, 105, 116] : List UInt8)
     ·rw [if_pos c6] at H
      obtain ⟨c6b0, c6b1⟩ := xbq c6; clear c6; obtain rfl := xsi H
      go_enter Try.func124, Try.ntmps124
      go_wp2
      go_ret
      exact z_19
     ·rw [if_neg c6] at H
      obtain ⟨c6b0, c6b1⟩ := xnq c6; by_cases c7 : a0.toList = ([105, 110, 116, 111] : List UInt8)
      ·rw [if_pos c7] at H
       obtain ⟨c7b0, c7b1⟩ := xbq c7; clear c7; obtain rfl := xsi H
       go_enter Try.func124, Try.ntmps124
       go_wp2
       go_ret
       exact z_19
      ·rw [if_neg c7] at H
       obtain ⟨c7b0, c7b1⟩ := xnq c7; by_cases c8 : a0.toList = ([102, 97, 105, 108] : List UInt8)
       ·rw [if_pos c8] at H
        obtain ⟨c8b0, c8b1⟩ := xbq c8; clear c8; obtain rfl := xsi H
        go_enter Try.func124, Try.ntmps124
        go_wp2
        go_ret
        exact z_19
       ·rw [if_neg c8] at H
        obtain ⟨c8b0, c8b1⟩ := xnq c8; by_cases c9 : a0.toList = ([115, 116, 111, 112] : List UInt8)
        ·rw [if_pos c9] at H
         obtain ⟨c9b0, c9b1⟩ := xbq c9; clear c9; obtain rfl := xsi H
         go_enter Try.func124, Try.ntmps124
         go_wp2
         go_ret
         exact z_19
        ·rw [if_neg c9] at H
         obtain ⟨c9b0, c9b1⟩ := xnq c9; by_cases c10 : a0.toList = ([109] : List UInt8)
         ·rw [if_pos c10] at H
          obtain ⟨c10b0, c10b1⟩ := xbq c10; clear c10; obtain rfl := xsi H
          go_enter Try.func124, Try.ntmps124
          go_wp2
          go_ret
          exact z_19
         ·rw [if_neg c10] at H
          obtain ⟨c10b0, c10b1⟩ := xnq c10; by_cases c11 : a0.toList = ([109, 105, 110] : List UInt8)
          ·rw [if_pos c11] at H
           obtain ⟨c11b0, c11b1⟩ := xbq c11; clear c11; obtain rfl := xsi H
           go_enter Try.func124, Try.ntmps124
           go_wp2
           go_ret
           exact z_19
          ·rw [if_neg c11] at H
           obtain ⟨c11b0, c11b1⟩ := xnq c11; by_cases c12 : a0.toList = ([109, 97, 120] : List UInt8)
           ·rw [if_pos c12] at H
            obtain ⟨c12b0, c12b1⟩ := xbq c12; clear c12; obtain rfl := xsi H
            go_enter Try.func124, Try.ntmps124
            go_wp2
            go_ret
            exact z_19
           ·rw [if_neg c12] at H
            obtain ⟨c12b0, c12b1⟩ := xnq c12; obtain rfl := xsi H
            go_enter Try.func124, Try.ntmps124
            go_wp2
            go_ret
            exact z_19
def isDig (c : Int) : Bool := decide (48 ≤ c) && decide (c ≤ 57)
def isLet (c : Int) : Bool := (decide (97 ≤ c) && decide (c ≤ 122)) || (decide (65 ≤ c) && decide (c ≤ 90)) || c == 95
def isAn (c : Int) : Bool := isLet c || isDig c
theorem digit_f (c : Int) : lex_digit.f c = some (isDig c) := by
 unfold lex_digit.f isDig; by_cases h : c ≥ 48
 ·rw [if_pos h, xdt (show 48 ≤ c from h)]; rfl
 ·rw [if_neg h, xdf (show ¬ 48 ≤ c from h)]; rfl
theorem letter_f (c : Int) : lex_letter.f c = some (isLet c) := by
 unfold lex_letter.f isLet; by_cases h : c ≥ 97
 ·rw [if_pos h, xdt (show 97 ≤ c from h)]
  by_cases h2 : c ≤ 122
  ·rw [if_pos h2, xdt h2]; rfl
  ·rw [if_neg h2, xdf h2]
   by_cases h3 : c ≥ 65
   ·rw [if_pos h3, xdt (show 65 ≤ c from h3), if_neg (by omega), xdf (show ¬ c ≤ 90 by omega)]; rfl
   ·omega
 ·rw [if_neg h, xdf (show ¬ 97 ≤ c from h)]
  by_cases h3 : c ≥ 65
  ·rw [if_pos h3, xdt (show 65 ≤ c from h3)]
   by_cases h4 : c ≤ 90
   ·rw [if_pos h4, xdt h4]; rfl
   ·rw [if_neg h4, xdf h4]; rfl
  ·rw [if_neg h3, xdf (show ¬ 65 ≤ c from h3)]; rfl
theorem dig26 (c : Int) (w : World) : Calls Try.prog 96 #[.int .u8 c] w fun e w' => e = .returned (.bool (isDig c)) ∧ Drawn0 w w' := lex_digit.calls c (isDig c) w (digit_f c)
theorem an38 (c : Int) (w : World) : Calls Try.prog 123 #[.int .u8 c] w fun e w' => e = .returned (.bool (isAn c)) ∧ Drawn0 w w' := by
 cases hl : isLet c
 ·have hr : isAn c = isDig c := by unfold isAn; rw [hl]; rfl
  have hc := Lib.hid (fun W => lex_letter.calls c false W (by rw [letter_f, hl])); have hd := Lib.hid (fun W => dig26 c W); rw [hr]; generalize isDig c = r at *; clear hr hl
  go_enter Try.func123, Try.ntmps123
  go_wp2_with fail
  refine (hc.out _).mono ?_
  rintro e w1 ⟨rfl, ⟨nd, rfl⟩⟩
  go_wp2_with fail
  refine (hd.out _).mono ?_
  rintro e w1 ⟨rfl, ⟨nd2, rfl⟩⟩
  go_wp2
  go_ret
  exact ⟨rfl, z_22⟩
 ·have hr : isAn c = true := by unfold isAn; rw [hl]; rfl
  have hc := Lib.hid (fun W => lex_letter.calls c true W (by rw [letter_f, hl])); rw [hr]; clear hr hl
  go_enter Try.func123, Try.ntmps123
  go_wp2_with fail
  refine (hc.out _).mono ?_
  rintro e w1 ⟨rfl, ⟨nd, rfl⟩⟩
  go_wp2
  go_ret
  exact ⟨rfl, z_22⟩
def endOf (p : Int → Bool) (s : ByteArray) : Nat → Nat → Nat
 | 0, i => i
 | k + 1, i => if i < s.size then (if p (bt s i) = true then endOf p s k (i + 1) else i) else i
theorem endOf_le (p : Int → Bool) (s : ByteArray) : ∀ k i, i ≤ s.size → i ≤ endOf p s k i ∧ endOf p s k i ≤ s.size
 | 0, i, h => ⟨xlr _, h⟩
 | k + 1, i, h => by
  unfold endOf; by_cases c : i < s.size
  ·rw [if_pos c]
   split
   ·have := endOf_le p s k (i + 1) (by omega)
    omega
   ·exact ⟨xlr _, h⟩
  ·rw [if_neg c]; exact ⟨xlr _, h⟩
def upto (p : Int → Bool) (s : ByteArray) (i : Nat) : Nat := endOf p s (s.size - i) i
theorem upto_le (p : Int → Bool) (s : ByteArray) (i : Nat) (h : i ≤ s.size) : i ≤ upto p s i ∧ upto p s i ≤ s.size := endOf_le p s _ i h
theorem upto_in (p : Int → Bool) (s : ByteArray) (i : Nat) (h : i < s.size) (hp : p (bt s i) = true) : upto p s i = upto p s (i + 1) := by
 unfold upto; have e : s.size - i = (s.size - (i + 1)) + 1 := by omega
 rw [e, endOf, if_pos h, if_pos hp]
theorem upto_out (p : Int → Bool) (s : ByteArray) (i : Nat) (hp : i < s.size → p (bt s i) = false) : upto p s i = i := by
 unfold upto; by_cases h : i < s.size
 ·have e : s.size - i = (s.size - (i + 1)) + 1 := by omega
  rw [e, endOf, if_pos h, if_neg (by rw [hp h]; simp)]
 ·have e : s.size - i = 0 := by omega
  rw [e, endOf]
def WRel26 (p : Int → Bool) (s : ByteArray) (i g : Nat) (w0 w : World) (kq : Nat) (w' : World) : Prop :=
 ∃ j : Nat, j ≤ s.size ∧ s.size - j < kq ∧ Aside0 (upto p s j = upto p s i) ∧ Aside0 (i ≤ j) ∧ Aside0 (IsS41 w0 w' g s j) ∧ Aside0 (Below w0.heap.size w0 w') ∧ Aside0 (KeepBut w w' g none)
def WPost26 (p : Int → Bool) (s : ByteArray) (i g : Nat) (w0 w : World) (e : Ending) (w' : World) : Prop :=
 e = .returned (.string (s.extract i (upto p s i))) ∧ IsS41 w0 w' g s (upto p s i) ∧ Below w0.heap.size w0 w' ∧ KeepBut w w' g none
theorem while_end26 {s : ByteArray} {i j g : Nat} {x : Int} {w0 w w' : World} {e : Ending} (hf : upto isDig s i = j) (hx : x = (j : Int)) (hI : IsS41 w0 w' g s x) (hB : Below w0.heap.size w0 w') (hK : KeepBut w w' g none) (he : e = .returned (.string (s.extract i j))) : WPost26 isDig s i g w0 w e w' := by
 subst hx; unfold WPost26; rw [hf]; exact ⟨he, hI, hB, hK⟩
theorem while_26 (s : ByteArray) (i g : Nat) (w0 w : World) (hi : i ≤ s.size) (hs : s.size ≤ 140737488351232) (hI : IsS41 w0 w g s i) (hB : Below w0.heap.size w0 w) :
  Calls Try.prog 121 #[.pointer (some ⟨g, 0, none⟩), .func (Fn.func 96) #[] #[]] w (WPost26 isDig s i g w0 w) := by
 have c0 : w.cell? ⟨g, 0, none⟩ = some (.string s) := (xbc hI.1 0).trans rfl; have c1 : w.cell? ⟨g, 1, none⟩ = some (.int .i64 i) := (xbc hI.1 1).trans rfl; have HI := A_0 hI; have HB := A_0 hB; clear hI hB
 go_enter Try.func121, Try.ntmps121
 go_wp2
 go_loopg [13] (s.size - i + 1) (fun kq v13 w' => WRel26 isDig s i g w0 w kq w')
 case atStart => exact ⟨i, hi, by omega, ⟨rfl⟩, ⟨xlr _⟩, HI, HB, ⟨KeepBut.refl w g none⟩⟩
 case round =>
  clear HI HB c0 c1; unfold WRel26 at hrel; obtain ⟨j, hj, hk, HE, HJ, HI, HB, HK⟩ := hrel; have c0 : wr.cell? ⟨g, 0, none⟩ = some (.string s) := (xbc HI.out.1 0).trans rfl; obtain ⟨x, hx⟩ : ∃ x : Int, x = (j : Int) := ⟨_, rfl⟩; have HXJ := Lib.hid hx; have HI2 := A_0 (show IsS41 w0 wr g s x by rw [hx]; exact HI.out)
  clear HI hx; have HI := HI2; clear HI2; have hxb : 0 ≤ x ∧ x ≤ (s.size : Int) := by rw [HXJ.out]; omega
  obtain ⟨hx0, hx1⟩ := hxb; have c1 : wr.cell? ⟨g, 1, none⟩ = some (.int .i64 x) := (xbc HI.out.1 1).trans rfl; have q1 := xbz HI.out.1 1; cases gk with
  | zero => omega
  | succ k1 =>
  by_cases hlt : x < (s.size : Int)
  ·have hjs : j < s.size := by have := HXJ.out; omega
   have hc := Lib.hid (fun W => dig26 (bt s x) W); have hin := Lib.hid (show isDig (bt s x) = true → upto isDig s j = upto isDig s (j + 1) by rw [HXJ.out]; exact upto_in isDig s j hjs)
   have hout := Lib.hid (show isDig (bt s x) = false → upto isDig s j = j by rw [HXJ.out]; exact fun hq => upto_out isDig s j (fun _ => hq))
   have g1 := xdt hlt; have p4 : ((0 : Int) ≤ x) = True := eq_true hx0; have q4 : (x < (s.size : Int)) = True := eq_true hlt; have hx4 := bt_at s x; clear hlt hx0; cases hp : isDig (bt s x) with
   | true =>
    rw [hp] at hc; have HUP := Lib.hid ((hin.out hp).symm.trans HE.out); clear hin hout hp
    go_wp2
    go_quiet (first | (go_at_call 96; refine (hc.out _).mono ?_; rintro e w' ⟨rfl, ⟨nd, rfl⟩⟩; (try first | exact ⟨rfl, _, World.drewN_drewN _ _ _⟩ | exact ⟨rfl, _, Eq.trans (World.drewN_drewN _ _ _) (congrArg (World.drewN _) (Nat.add_assoc _ _ _))⟩)))
    go_wp2
    go_roundg k1
    case measure => omega
    case rel => exact ⟨j + 1, by omega, by omega, ⟨HUP.out⟩, ⟨by have := HJ.out; omega⟩, ⟨z_188⟩, ⟨below_set (pw_below_drewN HB.out _) HI.out.2⟩, ⟨KeepBut.set_ (keep_drewN HK.out _) _ _⟩⟩
   | false =>
    rw [hp] at hc; have HUP := Lib.hid ((hout.out hp).symm.trans HE.out); clear hin hout hp
    go_wp2
    go_quiet (first | (go_at_call 96; refine (hc.out _).mono ?_; rintro e w' ⟨rfl, ⟨nd, rfl⟩⟩; (try first | exact ⟨rfl, _, World.drewN_drewN _ _ _⟩ | exact ⟨rfl, _, Eq.trans (World.drewN_drewN _ _ _) (congrArg (World.drewN _) (Nat.add_assoc _ _ _))⟩)))
    go_wp2
    have z1 : ((i : Int) ≤ x) = True := eq_true (z_189); have z2 : (x ≤ (s.size : Int)) = True := eq_true hx1
    go_quiet (fail)
    go_wp2
    go_ret
    have hfin : upto isDig s i = j := HUP.out.symm; refine while_end26 hfin HXJ.out (z_190) (z_191) (z_192) ?_; have ej : x.toNat = j := by { have := HXJ.out; omega }
    rw [← ej]
    rfl
  ·have hjs : ¬ j < s.size := by have := HXJ.out; omega
   have hout := Lib.hid (upto_out isDig s j (fun hq => absurd hq hjs)); have g1 := xdf hlt; have HUP := Lib.hid (hout.out.symm.trans HE.out); clear hout
   go_wp2
   go_quiet (fail)
   go_wp2
   have z1 : ((i : Int) ≤ x) = True := eq_true (z_189); have z2 : (x ≤ (s.size : Int)) = True := eq_true hx1
   go_quiet (fail)
   go_wp2
   go_ret
   have hfin : upto isDig s i = j := HUP.out.symm; refine while_end26 hfin HXJ.out (z_190) (z_191) (z_192) ?_; have ej : x.toNat = j := by { have := HXJ.out; omega }
   rw [← ej]
   rfl
def WRel38 (p : Int → Bool) (s : ByteArray) (i g : Nat) (w0 w : World) (kq : Nat) (w' : World) : Prop :=
 ∃ j : Nat, j ≤ s.size ∧ s.size - j < kq ∧ Aside0 (upto p s j = upto p s i) ∧ Aside0 (i ≤ j) ∧ Aside0 (IsS41 w0 w' g s j) ∧ Aside0 (Below w0.heap.size w0 w') ∧ Aside0 (KeepBut w w' g none)
def WPost38 (p : Int → Bool) (s : ByteArray) (i g : Nat) (w0 w : World) (e : Ending) (w' : World) : Prop :=
 e = .returned (.string (s.extract i (upto p s i))) ∧ IsS41 w0 w' g s (upto p s i) ∧ Below w0.heap.size w0 w' ∧ KeepBut w w' g none
theorem while_end38 {s : ByteArray} {i j g : Nat} {x : Int} {w0 w w' : World} {e : Ending} (hf : upto isAn s i = j) (hx : x = (j : Int)) (hI : IsS41 w0 w' g s x) (hB : Below w0.heap.size w0 w') (hK : KeepBut w w' g none) (he : e = .returned (.string (s.extract i j))) : WPost38 isAn s i g w0 w e w' := by
 subst hx; unfold WPost38; rw [hf]; exact ⟨he, hI, hB, hK⟩
theorem while_38 (s : ByteArray) (i g : Nat) (w0 w : World) (hi : i ≤ s.size) (hs : s.size ≤ 140737488351232) (hI : IsS41 w0 w g s i) (hB : Below w0.heap.size w0 w) :
  Calls Try.prog 121 #[.pointer (some ⟨g, 0, none⟩), .func (Fn.func 123) #[] #[]] w (WPost38 isAn s i g w0 w) := by
 have c0 : w.cell? ⟨g, 0, none⟩ = some (.string s) := (xbc hI.1 0).trans rfl; have c1 : w.cell? ⟨g, 1, none⟩ = some (.int .i64 i) := (xbc hI.1 1).trans rfl; have HI := A_0 hI; have HB := A_0 hB; clear hI hB
 go_enter Try.func121, Try.ntmps121
 go_wp2
 go_loopg [13] (s.size - i + 1) (fun kq v13 w' => WRel38 isAn s i g w0 w kq w')
 case atStart => exact ⟨i, hi, by omega, ⟨rfl⟩, ⟨xlr _⟩, HI, HB, ⟨KeepBut.refl w g none⟩⟩
 case round =>
  clear HI HB c0 c1; unfold WRel38 at hrel; obtain ⟨j, hj, hk, HE, HJ, HI, HB, HK⟩ := hrel; have c0 : wr.cell? ⟨g, 0, none⟩ = some (.string s) := (xbc HI.out.1 0).trans rfl; obtain ⟨x, hx⟩ : ∃ x : Int, x = (j : Int) := ⟨_, rfl⟩; have HXJ := Lib.hid hx; have HI2 := A_0 (show IsS41 w0 wr g s x by rw [hx]; exact HI.out)
  clear HI hx; have HI := HI2; clear HI2; have hxb : 0 ≤ x ∧ x ≤ (s.size : Int) := by rw [HXJ.out]; omega
  obtain ⟨hx0, hx1⟩ := hxb; have c1 : wr.cell? ⟨g, 1, none⟩ = some (.int .i64 x) := (xbc HI.out.1 1).trans rfl; have q1 := xbz HI.out.1 1; cases gk with
  | zero => omega
  | succ k1 =>
  by_cases hlt : x < (s.size : Int)
  ·have hjs : j < s.size := by have := HXJ.out; omega
   have hc := Lib.hid (fun W => an38 (bt s x) W); have hin := Lib.hid (show isAn (bt s x) = true → upto isAn s j = upto isAn s (j + 1) by rw [HXJ.out]; exact upto_in isAn s j hjs)
   have hout := Lib.hid (show isAn (bt s x) = false → upto isAn s j = j by rw [HXJ.out]; exact fun hq => upto_out isAn s j (fun _ => hq))
   have g1 := xdt hlt; have p4 : ((0 : Int) ≤ x) = True := eq_true hx0; have q4 : (x < (s.size : Int)) = True := eq_true hlt; have hx4 := bt_at s x; clear hlt hx0; cases hp : isAn (bt s x) with
   | true =>
    rw [hp] at hc; have HUP := Lib.hid ((hin.out hp).symm.trans HE.out); clear hin hout hp
    go_wp2
    go_quiet (first | (go_at_call 123; refine (hc.out _).mono ?_; rintro e w' ⟨rfl, ⟨nd, rfl⟩⟩; (try first | exact ⟨rfl, _, World.drewN_drewN _ _ _⟩ | exact ⟨rfl, _, Eq.trans (World.drewN_drewN _ _ _) (congrArg (World.drewN _) (Nat.add_assoc _ _ _))⟩)))
    go_wp2
    go_roundg k1
    case measure => omega
    case rel => exact ⟨j + 1, by omega, by omega, ⟨HUP.out⟩, ⟨by have := HJ.out; omega⟩, ⟨z_188⟩, ⟨below_set (pw_below_drewN HB.out _) HI.out.2⟩, ⟨KeepBut.set_ (keep_drewN HK.out _) _ _⟩⟩
   | false =>
    rw [hp] at hc; have HUP := Lib.hid ((hout.out hp).symm.trans HE.out); clear hin hout hp
    go_wp2
    go_quiet (first | (go_at_call 123; refine (hc.out _).mono ?_; rintro e w' ⟨rfl, ⟨nd, rfl⟩⟩; (try first | exact ⟨rfl, _, World.drewN_drewN _ _ _⟩ | exact ⟨rfl, _, Eq.trans (World.drewN_drewN _ _ _) (congrArg (World.drewN _) (Nat.add_assoc _ _ _))⟩)))
    go_wp2
    have z1 : ((i : Int) ≤ x) = True := eq_true (z_189); have z2 : (x ≤ (s.size : Int)) = True := eq_true hx1
    go_quiet (fail)
    go_wp2
    go_ret
    have hfin : upto isAn s i = j := HUP.out.symm; refine while_end38 hfin HXJ.out (z_190) (z_191) (z_192) ?_; have ej : x.toNat = j := by { have := HXJ.out; omega }
    rw [← ej]
    rfl
  ·have hjs : ¬ j < s.size := by have := HXJ.out; omega
   have hout := Lib.hid (upto_out isAn s j (fun hq => absurd hq hjs)); have g1 := xdf hlt; have HUP := Lib.hid (hout.out.symm.trans HE.out); clear hout
   go_wp2
   go_quiet (fail)
   go_wp2
   have z1 : ((i : Int) ≤ x) = True := eq_true (z_189); have z2 : (x ≤ (s.size : Int)) = True := eq_true hx1
   go_quiet (fail)
   go_wp2
   go_ret
   have hfin : upto isAn s i = j := HUP.out.symm; refine while_end38 hfin HXJ.out (z_190) (z_191) (z_192) ?_; have ej : x.toNat = j := by { have := HXJ.out; omega }
   rw [← ej]
   rfl
end Go.Proofs.Ytobkdmmnbnpemaa.Lx
