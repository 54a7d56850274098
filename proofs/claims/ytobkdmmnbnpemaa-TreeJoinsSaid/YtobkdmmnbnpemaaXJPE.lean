/- The plain parser on two rows of tokens that are alike but for the place: expressions. -/
import Derived.Test.YtobkdmmnbnpemaaXJPA
import Derived.Test.YtobkdmmnbnpemaaXJX8
import Derived.Test.YtobkdmmnbnpemaaXJPD
namespace Go.Proofs.Ytobkdmmnbnpemaa.K
open Go.RowKit Go.Proofs.YtobkdmmnbnpemaaW.PrintWords Go.Proofs.YtobkdmmnbnpemaaW.PrintLast Go.Proofs.YtobkdmmnbnpemaaW.PrintMore
set_option linter.unusedVariables false
set_option linter.unusedSimpArgs false
structure Sim (T U : List S58) (d m : Int) : Prop where
  pos : 0 < T.length
  last : (rd_T58 T ((T.length : Int) - 1)).f0 = 0
  len : (T.length : Int) + d ≤ U.length
  d0 : 0 ≤ d
  m0 : 0 ≤ m
  tok : ∀ i : Int, 0 ≤ i → i < (T.length : Int) - 1 → ∃ q, rd_T58 U (i + d) = ⟨(rd_T58 T i).f0, (rd_T58 T i).f1, (rd_T58 T i).f2, q⟩
  e4 : (rd_T58 U ((T.length : Int) - 1 + d)).f0 ≠ 4
  ee : isB (rd_T58 U ((T.length : Int) - 1 + d)) ⟨#[101, 108, 115, 101]⟩ = false
def sh (d m : Int) (s : PSt) : PSt := ⟨s.at_ + d, s.nodes + m, s.op, s.bl⟩
def SO {α : Type} (T : List S58) (d m : Int) (n : Int) (o o' : Option (Except Er (α × PSt))) : Prop :=
  ∀ x s', o = some (.ok (x, s')) → (n ≤ s'.nodes ∧ s'.at_ < T.length) ∧ (n + m ≤ 600 → (s'.nodes + m ≤ 600 → o' = some (.ok (x, sh d m s'))) ∧ (600 < s'.nodes + m → ∃ a, o' = some (.error (42, a))))
section
variable {α β : Type} {T U : List S58} {d m : Int}
theorem Sim.lt (H : Sim T U d m) {i : Int} (h0 : 0 ≤ i) (h1 : i < T.length) (hk : (rd_T58 T i).f0 ≠ 0) : i < (T.length : Int) - 1 := by
  rcases Int.lt_or_le i ((T.length : Int) - 1) with h | h
  · exact h
  · have e : i = (T.length : Int) - 1 := by omega
    rw [e] at hk; exact absurd H.last hk
theorem so_err {n : Int} {e : Er} {o' : Option (Except Er (α × PSt))} : SO T d m n (some (.error e)) o' := fun x s' h => by injection h with h; cases h
theorem so_none {n : Int} {o' : Option (Except Er (α × PSt))} : SO T d m n none o' := fun x s' h => by cases h
theorem so_ok {x : α} {s : PSt} (h : s.at_ < T.length) : SO T d m s.nodes (some (.ok (x, s))) (some (.ok (x, sh d m s))) := fun x' s' h' => by
  injection h' with h'; injection h' with h'; injection h' with h1 h2; subst h1 h2; exact ⟨⟨Int.le_refl _, h⟩, fun h0 => ⟨fun _ => rfl, fun h1 => by omega⟩⟩
theorem so_want (H : Sim T U d m) {n : Int} {s : PSt} {tx : ByteArray} {k k' : S58 → PSt → Option (Except Er (α × PSt))}
    (hk : 0 ≤ s.at_ → s.at_ < (T.length : Int) - 1 → ∀ q, SO T d m n (k (rd_T58 T s.at_) ⟨s.at_ + 1, s.nodes, s.op, s.bl⟩) (k' ⟨(rd_T58 T s.at_).f0, (rd_T58 T s.at_).f1, (rd_T58 T s.at_).f2, q⟩ (sh d m ⟨s.at_ + 1, s.nodes, s.op, s.bl⟩))) :
    SO T d m n (wantK T s tx k) (wantK U (sh d m s) tx k') := by
  intro x s' h; obtain ⟨⟨h0, h1⟩, ⟨hb, h⟩ | ⟨_, h⟩⟩ := wantK_some h
  · have hl := H.lt h0 h1 (isB_kind hb)
    obtain ⟨q, hq⟩ := H.tok _ h0 hl; have e : wantK U (sh d m s) tx k' = k' ⟨(rd_T58 T s.at_).f0, (rd_T58 T s.at_).f1, (rd_T58 T s.at_).f2, q⟩ (sh d m ⟨s.at_ + 1, s.nodes, s.op, s.bl⟩) := by
      unfold wantK; have hd := H.d0; have hlen := H.len; rw [if_pos ⟨by show 0 ≤ s.at_ + d; omega, by show s.at_ + d < U.length; omega⟩]
      show (if isB (rd_T58 U (s.at_ + d)) tx = true then k' (rd_T58 U (s.at_ + d)) _ else _) = _; rw [hq, if_pos (show isB (⟨(rd_T58 T s.at_).f0, (rd_T58 T s.at_).f1, (rd_T58 T s.at_).f2, q⟩ : S58) tx = true from hb)]
      congr 1
      unfold sh; dsimp only
      congr 1
      omega
    rw [e]; exact hk h0 hl q x s' h
  · cases h
theorem so_enter {n : Int} {s : PSt} {t3 t3' : Int} {k k' : PSt → Option (Except Er (α × PSt))} (hk : SO T d m n (k ⟨s.at_, s.nodes, s.op + 1, s.bl⟩) (k' (sh d m ⟨s.at_, s.nodes, s.op + 1, s.bl⟩))) :
    SO T d m n (enterK s t3 k) (enterK (sh d m s) t3' k') := by
  intro x s' h; obtain ⟨h0, ⟨hb, h⟩ | ⟨_, h⟩⟩ := enterK_some h
  · have e : enterK (sh d m s) t3' k' = k' (sh d m ⟨s.at_, s.nodes, s.op + 1, s.bl⟩) := by
      unfold enterK sh; dsimp only; rw [if_pos h0, if_neg hb]
    rw [e]; exact hk x s' h
  · cases h
theorem so_deeper {n : Int} {s : PSt} {t3 t3' : Int} {k k' : PSt → Option (Except Er (α × PSt))} (hk : SO T d m n (k ⟨s.at_, s.nodes, s.op, s.bl + 1⟩) (k' (sh d m ⟨s.at_, s.nodes, s.op, s.bl + 1⟩))) :
    SO T d m n (deeperK s t3 k) (deeperK (sh d m s) t3' k') := by
  intro x s' h; obtain ⟨h0, ⟨hb, h⟩ | ⟨_, h⟩⟩ := deeperK_some h
  · have e : deeperK (sh d m s) t3' k' = k' (sh d m ⟨s.at_, s.nodes, s.op, s.bl + 1⟩) := by
      unfold deeperK sh; dsimp only; rw [if_pos h0, if_neg hb]
    rw [e]; exact hk x s' h
  · cases h
theorem so_open {n : Int} {s : PSt} {k k' : PSt → Option (Except Er (α × PSt))} (hk : SO T d m n (k ⟨s.at_, s.nodes, s.op - 1, s.bl⟩) (k' (sh d m ⟨s.at_, s.nodes, s.op - 1, s.bl⟩))) :
    SO T d m n (openK s k) (openK (sh d m s) k') := by
  intro x s' h; obtain ⟨h0, h⟩ := openK_some h; have e : openK (sh d m s) k' = k' (sh d m ⟨s.at_, s.nodes, s.op - 1, s.bl⟩) := by
    unfold openK sh; dsimp only; rw [if_pos h0]
  rw [e]; exact hk x s' h
theorem so_close {n : Int} {s : PSt} {k k' : PSt → Option (Except Er (α × PSt))} (hk : SO T d m n (k ⟨s.at_, s.nodes, s.op, s.bl - 1⟩) (k' (sh d m ⟨s.at_, s.nodes, s.op, s.bl - 1⟩))) :
    SO T d m n (closeK s k) (closeK (sh d m s) k') := by
  intro x s' h; obtain ⟨h0, h⟩ := closeK_some h; have e : closeK (sh d m s) k' = k' (sh d m ⟨s.at_, s.nodes, s.op, s.bl - 1⟩) := by
    unfold closeK sh; dsimp only; rw [if_pos h0]
  rw [e]; exact hk x s' h
theorem so_leave (H : Sim T U d m) {n : Int} {s : PSt} {tx : ByteArray} {k k' : PSt → Option (Except Er (α × PSt))}
    (hk : 0 ≤ s.at_ → s.at_ < (T.length : Int) - 1 → SO T d m n (k ⟨s.at_ + 1, s.nodes, s.op - 1, s.bl⟩) (k' (sh d m ⟨s.at_ + 1, s.nodes, s.op - 1, s.bl⟩))) :
    SO T d m n (leaveK T s tx k) (leaveK U (sh d m s) tx k') := by
  intro x s' h; obtain ⟨⟨⟨h0, h1⟩, h2⟩, ⟨hb, h⟩ | ⟨_, h⟩⟩ := leaveK_some h
  · have hl := H.lt h0 h1 (isB_kind hb)
    obtain ⟨q, hq⟩ := H.tok _ h0 hl; have e : leaveK U (sh d m s) tx k' = k' (sh d m ⟨s.at_ + 1, s.nodes, s.op - 1, s.bl⟩) := by
      unfold leaveK; have hd := H.d0; have hlen := H.len; rw [if_pos ⟨⟨by show 0 ≤ s.at_ + d; omega, by show s.at_ + d < U.length; omega⟩, h2⟩]
      show (if isB (rd_T58 U (s.at_ + d)) tx = true then k' _ else _) = _; rw [hq, if_pos (show isB (⟨(rd_T58 T s.at_).f0, (rd_T58 T s.at_).f1, (rd_T58 T s.at_).f2, q⟩ : S58) tx = true from hb)]
      congr 1
      unfold sh; dsimp only
      congr 1
      omega
    rw [e]; exact hk h0 hl x s' h
  · cases h
theorem so_kind (H : Sim T U d m) {n : Int} {s : PSt} {kd : Int} (hkd : kd ≠ 0) {k k' : S58 → PSt → Option (Except Er (α × PSt))}
    (hk : 0 ≤ s.at_ → s.at_ < (T.length : Int) - 1 → ∀ q, SO T d m n (k (rd_T58 T s.at_) ⟨s.at_ + 1, s.nodes, s.op, s.bl⟩) (k' ⟨(rd_T58 T s.at_).f0, (rd_T58 T s.at_).f1, (rd_T58 T s.at_).f2, q⟩ (sh d m ⟨s.at_ + 1, s.nodes, s.op, s.bl⟩))) :
    SO T d m n (kindK T s kd k) (kindK U (sh d m s) kd k') := by
  intro x s' h; obtain ⟨⟨h0, h1⟩, ⟨hb, h⟩ | ⟨_, h⟩⟩ := kindK_some h
  · have hl := H.lt h0 h1 (by rw [hb]; exact hkd)
    obtain ⟨q, hq⟩ := H.tok _ h0 hl; have e : kindK U (sh d m s) kd k' = k' ⟨(rd_T58 T s.at_).f0, (rd_T58 T s.at_).f1, (rd_T58 T s.at_).f2, q⟩ (sh d m ⟨s.at_ + 1, s.nodes, s.op, s.bl⟩) := by
      unfold kindK; have hd := H.d0; have hlen := H.len; rw [if_pos ⟨by show 0 ≤ s.at_ + d; omega, by show s.at_ + d < U.length; omega⟩]
      show (if (rd_T58 U (s.at_ + d)).f0 = kd then k' (rd_T58 U (s.at_ + d)) _ else _) = _; rw [hq, if_pos (show (⟨(rd_T58 T s.at_).f0, (rd_T58 T s.at_).f1, (rd_T58 T s.at_).f2, q⟩ : S58).f0 = kd from hb)]
      congr 1
      unfold sh; dsimp only
      congr 1
      omega
    rw [e]; exact hk h0 hl q x s' h
  · cases h
theorem so_ex {n : Int} {o o' : Option (Except Er (β × PSt))} {k k' : β → PSt → Option (Except Er (α × PSt))} (h : SO T d m n o o')
    (hk : ∀ p s1, o = some (.ok (p, s1)) → s1.at_ < T.length → SO T d m s1.nodes (k p s1) (k' p (sh d m s1))) : SO T d m n (exK o k) (exK o' k') := by
  intro x s' hx; rcases exK_some hx with ⟨er, a, _, hz⟩ | ⟨p, s1, ho, hz⟩
  · cases hz
  obtain ⟨⟨a1, a2⟩, a3⟩ := h p s1 ho; obtain ⟨⟨b1, b2⟩, b3⟩ := hk p s1 ho a2 x s' hz; refine ⟨⟨by omega, b2⟩, fun hn => ?_⟩; by_cases q : s1.nodes + m ≤ 600
  · rw [(a3 hn).1 q]
    exact b3 q
  · obtain ⟨a, e⟩ := (a3 hn).2 (by omega)
    rw [e]; exact ⟨fun z => by omega, fun z => ⟨a, rfl⟩⟩
theorem so_made (H : Sim T U d m) {s : PSt} {t3 t3' : Int} {k k' : PSt → Option (Except Er (α × PSt))} (hk : SO T d m (s.nodes + 1) (k ⟨s.at_, s.nodes + 1, s.op, s.bl⟩) (k' (sh d m ⟨s.at_, s.nodes + 1, s.op, s.bl⟩))) :
    SO T d m s.nodes (madeK s t3 k) (madeK (sh d m s) t3' k') := by
  intro x s' h; obtain ⟨h0, ⟨hb, h⟩ | ⟨_, h⟩⟩ := madeK_some h
  · obtain ⟨⟨b1, b2⟩, b3⟩ := hk x s' h
    refine ⟨⟨by omega, b2⟩, fun hn => ?_⟩
    have hm := H.m0; have e : sh d m ⟨s.at_, s.nodes + 1, s.op, s.bl⟩ = ⟨s.at_ + d, s.nodes + m + 1, s.op, s.bl⟩ := by
      unfold sh; dsimp only; congr 1; omega
    rw [e] at b3; unfold madeK; show ((s'.nodes + m ≤ 600 → (if 0 ≤ s.nodes + m ∧ s.nodes + m ≤ 600 then _ else _) = _) ∧ _); rw [if_pos ⟨by omega, hn⟩]; show ((s'.nodes + m ≤ 600 → (if 600 < s.nodes + m + 1 then _ else _) = _) ∧ (_ → ∃ a, (if 0 ≤ s.nodes + m ∧ s.nodes + m ≤ 600 then (if 600 < s.nodes + m + 1 then _ else _) else _) = _)); rw [if_pos (⟨by omega, hn⟩ : 0 ≤ s.nodes + m ∧ s.nodes + m ≤ 600)]; by_cases q : 600 < s.nodes + m + 1
    · rw [if_pos q]
      exact ⟨fun z => by omega, fun z => ⟨_, rfl⟩⟩
    · rw [if_neg q]
      exact b3 (by omega)
  · cases h
theorem so_node (H : Sim T U d m) {s : PSt} {t3 t3' k nm : Int} {st : ByteArray} {op : Int} {ps : List (S38 × Int)} (ha : s.at_ < T.length) : SO T d m s.nodes (nodeK s t3 k nm st op ps) (nodeK (sh d m s) t3' k nm st op ps) := by
  intro x s' h; obtain ⟨h0, h1, h⟩ := nodeK_some h; unfold nodeQ at h; have hm := H.m0; by_cases hd : 48 < deepQ ps 1
  · rw [if_pos hd] at h; cases h
  rw [if_neg hd] at h; by_cases hn : 600 < s.nodes + 1
  · rw [if_pos hn] at h; cases h
  rw [if_neg hn] at h; injection h with h; injection h with e1 e2; subst e1 e2; refine ⟨⟨by show s.nodes ≤ s.nodes + 1; omega, ha⟩, fun hz => ?_⟩; have e : nodeK (sh d m s) t3' k nm st op ps = some (if 600 < s.nodes + m + 1 then .error (42, t3') else .ok ((⟨k, nm, st, op, ps.map (·.1)⟩, deepQ ps 1), ⟨s.at_ + d, s.nodes + m + 1, s.op, s.bl⟩)) := by
    unfold nodeK; rw [if_pos ⟨⟨by show 0 ≤ s.nodes + m; omega, by show s.nodes + m ≤ 600; omega⟩, h1⟩]
    unfold nodeQ; rw [if_neg hd]
    rfl
  rw [e]; refine ⟨fun z => ?_, fun z => ⟨t3', ?_⟩⟩
  · have z' : s.nodes + 1 + m ≤ 600 := z
    rw [if_neg (by omega)]; unfold sh; dsimp only; rw [show s.nodes + 1 + m = s.nodes + m + 1 by omega]
  · have z' : 600 < s.nodes + 1 + m := z
    rw [if_pos (by omega)]
end
end Go.Proofs.Ytobkdmmnbnpemaa.K
namespace Go.Proofs.Ytobkdmmnbnpemaa.K
open Go.RowKit Go.Proofs.YtobkdmmnbnpemaaW.PrintWords Go.Proofs.YtobkdmmnbnpemaaW.PrintLast Go.Proofs.YtobkdmmnbnpemaaW.PrintMore
set_option linter.unusedVariables false
set_option linter.unusedSimpArgs false
section
variable {T U : List S58} {d m : Int}
theorem Sim.hd (H : Sim T U d m) {a : Int} (h0 : 0 ≤ a) (h1 : a < T.length) : 0 ≤ a + d ∧ a + d < U.length := by
  have := H.d0; have := H.len; omega
theorem sh_next (s : PSt) : (⟨(sh d m s).at_ + 1, (sh d m s).nodes, (sh d m s).op, (sh d m s).bl⟩ : PSt) = sh d m ⟨s.at_ + 1, s.nodes, s.op, s.bl⟩ := by
  unfold sh; dsimp only; congr 1; omega
theorem val_end (H : Sim T U d m) (on : PSt → Option Res) (ab : Int → PSt → Option Res) (s : PSt) {x : S38 × Int} {s' : PSt} (h : valS T on ab s = some (.ok (x, s'))) : 0 ≤ s.at_ ∧ s.at_ < (T.length : Int) - 1 := by
  unfold valS at h; by_cases hg : 0 ≤ s.at_ ∧ s.at_ < T.length
  rotate_left
  · rw [if_neg hg] at h; cases h
  rw [if_pos hg] at h; refine ⟨hg.1, H.lt hg.1 hg.2 fun h0 => ?_⟩; have nb : ∀ y, isB (rd_T58 T s.at_) y = true → False := fun y e => isB_kind e h0; rw [if_neg (by rw [h0]; decide), if_neg (by rw [h0]; decide), if_neg (fun e => nb _ e), if_neg (fun e => nb _ e), if_neg (fun e => nb _ e), if_neg (fun e => nb _ e)] at h; unfold signS at h; rw [if_pos hg] at h; have e : signOp (rd_T58 T s.at_) = none := by
    unfold signOp; rw [if_neg (fun e => nb _ e), if_neg (fun e => nb _ e), if_neg (fun e => nb _ e)]
  rw [e] at h; cases h
theorem so_call (H : Sim T U d m) (ab ab' : Int → PSt → Option Res) (hA : ∀ least s, SO T d m s.nodes (ab least s) (ab' least (sh d m s))) (t3 t3' op : Int) (s : PSt) : SO T d m s.nodes (callS T ab t3 op s) (callS U ab' t3' op (sh d m s)) := by
  intro x s' h; unfold callS at h; by_cases hg : 0 ≤ s.at_ ∧ s.at_ < T.length
  rotate_left
  · rw [if_neg hg] at h; cases h
  rw [if_pos hg] at h
  revert x s'
  have hh := H.hd hg.1 hg.2; show SO T d m s.nodes _ _; unfold callS; rw [if_pos (show 0 ≤ (sh d m s).at_ ∧ (sh d m s).at_ < U.length from hh), sh_next]; refine so_want H fun h0 h1 q => so_enter (so_ex (hA 1 _) fun p s3 _ _ => so_want H fun h0 h1 q => so_ex (hA 1 _) fun y s5 _ hl => so_leave H fun h0 h1 => so_node H ?_); show s5.at_ + 1 < T.length
  omega
theorem so_sign (H : Sim T U d m) (on on' : PSt → Option Res) (hO : ∀ s, SO T d m s.nodes (on s) (on' (sh d m s))) (s : PSt) (h0 : 0 ≤ s.at_) (h1 : s.at_ < (T.length : Int) - 1) : SO T d m s.nodes (signS T on s) (signS U on' (sh d m s)) := by
  have hh := H.hd h0 (by omega : s.at_ < T.length); obtain ⟨q, hq⟩ := H.tok _ h0 h1; unfold signS; rw [if_pos ⟨h0, by omega⟩, if_pos (show 0 ≤ (sh d m s).at_ ∧ (sh d m s).at_ < U.length from hh), sh_next]
  rw [show rd_T58 U (sh d m s).at_ = _ from hq]; have e : signOp (⟨(rd_T58 T s.at_).f0, (rd_T58 T s.at_).f1, (rd_T58 T s.at_).f2, q⟩ : S58) = signOp (rd_T58 T s.at_) := rfl; rw [e]; cases signOp (rd_T58 T s.at_) with
  | none => exact so_err
  | some op => exact so_enter (so_ex (hO _) fun p s3 _ hl => so_open (so_node H hl))
theorem so_val (H : Sim T U d m) (on on' : PSt → Option Res) (ab ab' : Int → PSt → Option Res) (hO : ∀ s, SO T d m s.nodes (on s) (on' (sh d m s))) (hA : ∀ least s, SO T d m s.nodes (ab least s) (ab' least (sh d m s))) (s : PSt) :
    SO T d m s.nodes (valS T on ab s) (valS U on' ab' (sh d m s)) := by
  intro x s' h; obtain ⟨h0, h1⟩ := val_end H on ab s h
  revert x s'
  show SO T d m s.nodes _ _; have hh := H.hd h0 (by omega : s.at_ < T.length); obtain ⟨q, hq⟩ := H.tok _ h0 h1; have hc := so_call H ab ab' hA; have hs := so_sign H on on' hO s h0 h1; unfold valS; rw [if_pos ⟨h0, by omega⟩, if_pos (show 0 ≤ (sh d m s).at_ ∧ (sh d m s).at_ < U.length from hh), sh_next]
  rw [show rd_T58 U (sh d m s).at_ = _ from hq]; generalize rd_T58 T s.at_ = t at *; obtain ⟨t0, t1, t2, t3⟩ := t; have eb : ∀ y, isB (⟨t0, t1, t2, q⟩ : S58) y = isB (⟨t0, t1, t2, t3⟩ : S58) y := fun _ => rfl; simp only [eb]; by_cases e1 : t0 = 1
  · rw [if_pos e1, if_pos e1]; exact so_node H (by show s.at_ + 1 < T.length; omega)
  rw [if_neg e1, if_neg e1]; by_cases e2 : t0 = 2
  · rw [if_pos e2, if_pos e2]; exact so_node H (by show s.at_ + 1 < T.length; omega)
  rw [if_neg e2, if_neg e2]; cases c0 : isB (⟨t0, t1, t2, t3⟩ : S58) ⟨#[40]⟩ with
  | true =>
    simp only [if_true]; exact so_enter (so_ex (hA 1 _) fun p s3 _ _ => so_leave H fun h0 h1 => so_ok (by show s3.at_ + 1 < T.length; omega))
  | false =>
  simp only [Bool.false_eq_true, if_false]; cases c1 : isB (⟨t0, t1, t2, t3⟩ : S58) ⟨#[109]⟩ with
  | true =>
    simp only [if_true]; exact so_want H fun h0 h1 q => so_enter (so_ex (hA 1 _) fun p s3 _ _ => so_leave H fun h0 h1 => so_node H (by show s3.at_ + 1 < T.length; omega))
  | false =>
  simp only [Bool.false_eq_true, if_false]; cases c2 : isB (⟨t0, t1, t2, t3⟩ : S58) ⟨#[109, 105, 110]⟩ with
  | true =>
    simp only [if_true]; exact hc _ _ _ _
  | false =>
  simp only [Bool.false_eq_true, if_false]; cases c3 : isB (⟨t0, t1, t2, t3⟩ : S58) ⟨#[109, 97, 120]⟩ with
  | true =>
    simp only [if_true]; exact hc _ _ _ _
  | false =>
  simp only [Bool.false_eq_true, if_false]; exact hs
theorem so_loop (H : Sim T U d m) (ab ab' : Int → PSt → Option Res) (hA : ∀ least s, SO T d m s.nodes (ab least s) (ab' least (sh d m s))) (least : Int) : ∀ (K K' : Nat) (p : S38 × Int) (s : PSt), K ≤ K' → SO T d m s.nodes (loopF T ab least K p s) (loopF U ab' least K' p (sh d m s))
  | 0, _, p, s, _ => so_none
  | K + 1, 0, p, s, h => absurd h (by omega)
  | K + 1, K' + 1, p, s, hK => by
    intro x s' h; unfold loopF at h ⊢; by_cases hg : goodS T s ∧ (0 ≤ p.2 ∧ p.2 ≤ 48) ∧ 0 ≤ (rankOf (rd_T58 T s.at_)).1 ∧ (rankOf (rd_T58 T s.at_)).1 ≤ 100
    rotate_left
    · rw [if_neg hg] at h; cases h
    rw [if_pos hg] at h; obtain ⟨⟨⟨g0, g1⟩, g2, g3⟩, g4, g5⟩ := hg; have hm := H.m0; have hh := H.hd g0 g1; have hrank : (rankOf (rd_T58 U (s.at_ + d))) = rankOf (rd_T58 T s.at_) := by
      rcases Int.lt_or_le s.at_ ((T.length : Int) - 1) with z | z
      · obtain ⟨q, hq⟩ := H.tok _ g0 z
        rw [hq]; rfl
      · have e : s.at_ = (T.length : Int) - 1 := by omega
        rw [e]; unfold rankOf; rw [if_neg H.e4, if_neg (by rw [H.last]; decide)]
    have hgU : s.nodes + m ≤ 600 → (goodS U (sh d m s) ∧ (0 ≤ p.2 ∧ p.2 ≤ 48) ∧ 0 ≤ (rankOf (rd_T58 U (sh d m s).at_)).1 ∧ (rankOf (rd_T58 U (sh d m s).at_)).1 ≤ 100) := fun z => ⟨⟨hh, by show 0 ≤ s.nodes + m; omega, z⟩, g4, by show 0 ≤ (rankOf (rd_T58 U (s.at_ + d))).1 ∧ (rankOf (rd_T58 U (s.at_ + d))).1 ≤ 100; rw [hrank]; exact g5⟩
    by_cases hr : (rankOf (rd_T58 T s.at_)).1 < least ∨ (rankOf (rd_T58 T s.at_)).1 = 0
    · rw [if_pos hr] at h
      refine ⟨(so_ok (m := m) (d := d) g1 x s' h).1, fun hz => ?_⟩
      rw [if_pos (hgU hz), show rankOf (rd_T58 U (sh d m s).at_) = rankOf (rd_T58 T s.at_) from hrank, if_pos hr]; exact (so_ok (T := T) (d := d) g1 x s' h).2 hz
    rw [if_neg hr] at h; have hlt := H.lt g0 g1 (fun z => by
      apply hr
      refine .inr ?_
      unfold rankOf; rw [if_neg (by rw [z]; decide)])
    have HA := hA ((rankOf (rd_T58 T s.at_)).1 + 1) ⟨s.at_ + 1, s.nodes, s.op, s.bl⟩; rcases ha : ab ((rankOf (rd_T58 T s.at_)).1 + 1) ⟨s.at_ + 1, s.nodes, s.op, s.bl⟩ with _ | e | ⟨p2, s2⟩
    · rw [ha] at h; cases h
    · rw [ha] at h; cases h
    rw [ha] at h; obtain ⟨⟨a1, a2⟩, a3⟩ := HA p2 s2 ha; dsimp only at h a1 a3; by_cases hg2 : (0 ≤ p2.2 ∧ p2.2 ≤ 48) ∧ 0 ≤ s2.nodes ∧ s2.nodes ≤ 600
    rotate_left
    · rw [if_neg hg2] at h; cases h
    rw [if_pos hg2] at h; unfold nodeQ at h; by_cases hd : 48 < deepQ [p, p2] 1
    · rw [if_pos hd] at h; cases h
    rw [if_neg hd] at h; by_cases hn : 600 < s2.nodes + 1
    · rw [if_pos hn] at h; cases h
    rw [if_neg hn] at h; dsimp only at h; have IH := so_loop H ab ab' hA least K K' (⟨5, 0, ⟨#[]⟩, (rankOf (rd_T58 T s.at_)).2, [p, p2].map (·.1)⟩, deepQ [p, p2] 1) ⟨s2.at_, s2.nodes + 1, s2.op, s2.bl⟩ (by omega) x s' h
    obtain ⟨⟨b1, b2⟩, b3⟩ := IH; dsimp only at b1 b3; refine ⟨⟨by omega, b2⟩, fun hz => ?_⟩; rw [if_pos (hgU hz), show rankOf (rd_T58 U (sh d m s).at_) = rankOf (rd_T58 T s.at_) from hrank, if_neg hr, sh_next]; by_cases q : s2.nodes + m ≤ 600
    · rw [(a3 hz).1 q]
      dsimp only; rw [if_pos (⟨hg2.1, by show 0 ≤ s2.nodes + m ∧ s2.nodes + m ≤ 600; omega⟩ : (0 ≤ p2.2 ∧ p2.2 ≤ 48) ∧ 0 ≤ (sh d m s2).nodes ∧ (sh d m s2).nodes ≤ 600)]
      unfold nodeQ; rw [if_neg hd]; by_cases q2 : 600 < s2.nodes + m + 1
      · rw [if_pos (show 600 < (sh d m s2).nodes + 1 from q2)]
        exact ⟨fun z => by omega, fun z => ⟨_, rfl⟩⟩
      · rw [if_neg (show ¬ 600 < (sh d m s2).nodes + 1 from q2)]
        have e : (⟨(sh d m s2).at_, (sh d m s2).nodes + 1, (sh d m s2).op, (sh d m s2).bl⟩ : PSt) = sh d m ⟨s2.at_, s2.nodes + 1, s2.op, s2.bl⟩ := by
          unfold sh; dsimp only; congr 1; omega
        dsimp only; rw [e]; exact b3 (by omega)
    · obtain ⟨a, e⟩ := (a3 hz).2 (by omega)
      rw [e]; exact ⟨fun z => by omega, fun z => ⟨a, rfl⟩⟩
theorem so_exG (H : Sim T U d m) : ∀ h h' : Nat, h ≤ h' → (∀ s, SO T d m s.nodes ((exG T h).1 s) ((exG U h').1 (sh d m s))) ∧ (∀ least s, SO T d m s.nodes ((exG T h).2 least s) ((exG U h').2 least (sh d m s)))
  | 0, _, _ => ⟨fun s => so_none, fun least s => so_none⟩
  | h + 1, 0, z => absurd z (by omega)
  | h + 1, h' + 1, z => by
    obtain ⟨i1, i2⟩ := so_exG H h h' (by omega); refine ⟨fun s => so_val H _ _ _ _ i1 i2 s, fun least s => ?_⟩; show SO T d m s.nodes (stepF T (exG T h).1 (exG T h).2 (T.length + 1) least s) (stepF U (exG U h').1 (exG U h').2 (U.length + 1) least (sh d m s)); have e : ∀ (V : List S58) (on : PSt → Option Res) (ab : Int → PSt → Option Res) K s, stepF V on ab K least s = exK (on s) (fun p s1 => loopF V ab least K p s1) := fun V on ab K s => by
      unfold stepF exK; rcases on s with _ | _ | _ <;> rfl
    rw [e, e]; have hl := H.len; have hd := H.d0; exact so_ex (i1 s) fun p s1 _ _ => so_loop H _ _ i2 least _ _ p s1 (by omega)
theorem so_ab0 (H : Sim T U d m) (least : Int) (s : PSt) : SO T d m s.nodes (ab0 T least s) (ab0 U least (sh d m s)) := by
  have hl := H.len; have hd := H.d0; exact (so_exG H (2 * T.length + 1) (2 * U.length + 1) (by omega)).2 least s
end
end Go.Proofs.Ytobkdmmnbnpemaa.K
namespace Go.Proofs.Ytobkdmmnbnpemaa.K
open Go.RowKit Go.Proofs.YtobkdmmnbnpemaaW.PrintWords Go.Proofs.YtobkdmmnbnpemaaW.PrintLast Go.Proofs.YtobkdmmnbnpemaaW.PrintMore
set_option linter.unusedVariables false
set_option linter.unusedSimpArgs false
section
variable {α β : Type} {T U : List S58} {d m : Int}
theorem so_is (H : Sim T U d m) {n : Int} {s : PSt} {tx : ByteArray} {k1 k2 k1' k2' : Option (Except Er (α × PSt))}
    (ha : s.at_ = (T.length : Int) - 1 → isB (rd_T58 U ((T.length : Int) - 1 + d)) tx = false ∨ ∀ x s', k2 ≠ some (.ok (x, s')))
    (h1 : 0 ≤ s.at_ → s.at_ < (T.length : Int) - 1 → SO T d m n k1 k1') (h2 : SO T d m n k2 k2') : SO T d m n (isK T s tx k1 k2) (isK U (sh d m s) tx k1' k2') := by
  intro x s' h; obtain ⟨⟨g0, g1⟩, hc⟩ := isK_some h; have hh := H.hd g0 g1; rcases hc with ⟨hb, h⟩ | ⟨hb, h⟩
  · have hl := H.lt g0 g1 (isB_kind hb)
    obtain ⟨q, hq⟩ := H.tok _ g0 hl; have e : isK U (sh d m s) tx k1' k2' = k1' := by
      unfold isK; rw [if_pos (show 0 ≤ (sh d m s).at_ ∧ (sh d m s).at_ < U.length from hh)]; show (if isB (rd_T58 U (s.at_ + d)) tx = true then _ else _) = _; rw [hq, if_pos (show isB (⟨(rd_T58 T s.at_).f0, (rd_T58 T s.at_).f1, (rd_T58 T s.at_).f2, q⟩ : S58) tx = true from hb)]
    rw [e]; exact h1 g0 hl x s' h
  · have hU : isB (rd_T58 U (s.at_ + d)) tx = false := by
      rcases Int.lt_or_le s.at_ ((T.length : Int) - 1) with z | z
      · obtain ⟨q, hq⟩ := H.tok _ g0 z
        rw [hq]; exact hb
      · have e : s.at_ = (T.length : Int) - 1 := by omega
        rcases ha e with w | w
        · rw [e]; exact w
        · exact absurd h (w x s')
    have e : isK U (sh d m s) tx k1' k2' = k2' := by
      unfold isK; rw [if_pos (show 0 ≤ (sh d m s).at_ ∧ (sh d m s).at_ < U.length from hh)]; show (if isB (rd_T58 U (s.at_ + d)) tx = true then _ else _) = _; rw [hU]; rfl
    rw [e]; exact h2 x s' h
structure StS (T U : List S58) (d m : Int) (st st' : PSt → Option SRes) : Prop where
  so : ∀ s, SO T d m s.nodes (st s) (st' (sh d m s))
  lt : ∀ s x s', st s = some (.ok (x, s')) → 0 ≤ s.at_ ∧ s.at_ < (T.length : Int) - 1
theorem so_bodyL (H : Sim T U d m) {st st' : PSt → Option SRes} (hS : StS T U d m st st') : ∀ (K K' : Nat) (xs : List S41) (s : PSt), K ≤ K' → SO T d m s.nodes (bodyL T st K xs s) (bodyL U st' K' xs (sh d m s))
  | 0, _, xs, s, _ => so_none
  | K + 1, 0, xs, s, h => absurd h (by omega)
  | K + 1, K' + 1, xs, s, hK => by
    intro x s' h; unfold bodyL at h ⊢; by_cases hg : (0 ≤ s.at_ ∧ s.at_ < T.length) ∧ xs.length < 1000 ∧ 1 ≤ s.bl ∧ s.bl ≤ 100
    rotate_left
    · rw [if_neg hg] at h; cases h
    rw [if_pos hg] at h; have hh := H.hd hg.1.1 hg.1.2; rw [if_pos (⟨hh, hg.2⟩ : (0 ≤ (sh d m s).at_ ∧ (sh d m s).at_ < U.length) ∧ xs.length < 1000 ∧ 1 ≤ (sh d m s).bl ∧ (sh d m s).bl ≤ 100)]; cases hb : isB (rd_T58 T s.at_) ⟨#[125]⟩ with
    | true =>
      rw [hb] at h; simp only [if_true] at h; have hl := H.lt hg.1.1 hg.1.2 (isB_kind hb); obtain ⟨q, hq⟩ := H.tok _ hg.1.1 hl; rw [show rd_T58 U (sh d m s).at_ = _ from hq, if_pos (show isB (⟨(rd_T58 T s.at_).f0, (rd_T58 T s.at_).f1, (rd_T58 T s.at_).f2, q⟩ : S58) ⟨#[125]⟩ = true from hb)]; have e : (⟨(sh d m s).at_ + 1, (sh d m s).nodes, (sh d m s).op, (sh d m s).bl - 1⟩ : PSt) = sh d m ⟨s.at_ + 1, s.nodes, s.op, s.bl - 1⟩ := by
        unfold sh; dsimp only; congr 1; omega
      rw [e]; exact so_ok (s := ⟨s.at_ + 1, s.nodes, s.op, s.bl - 1⟩) (by show s.at_ + 1 < T.length; omega) x s' h
    | false =>
      rw [hb] at h; simp only [Bool.false_eq_true, if_false] at h; rcases exK_some h with ⟨er, a, _, hz⟩ | ⟨p, s1, ho, hz⟩
      · cases hz
      have hl := hS.lt s p s1 ho; obtain ⟨q, hq⟩ := H.tok _ hl.1 hl.2; rw [show rd_T58 U (sh d m s).at_ = _ from hq, if_neg (by rw [show isB (⟨(rd_T58 T s.at_).f0, (rd_T58 T s.at_).f1, (rd_T58 T s.at_).f2, q⟩ : S58) ⟨#[125]⟩ = false from hb]; simp)]; exact so_ex (hS.so s) (fun p s1 _ _ => so_bodyL H hS K K' (xs ++ [p]) s1 (by omega)) x s' h
theorem so_body (H : Sim T U d m) {st st' : PSt → Option SRes} (hS : StS T U d m st st') (s : PSt) : SO T d m s.nodes (bodyS T st (T.length + 1) s) (bodyS U st' (U.length + 1) (sh d m s)) := by
  have hl := H.len; have hd := H.d0; unfold bodyS; exact so_want H fun h0 h1 q => so_deeper (so_bodyL H hS _ _ [] _ (by omega))
theorem body_end (H : Sim T U d m) {st : PSt → Option SRes} {K : Nat} {s : PSt} (h : s.at_ = (T.length : Int) - 1) : ∀ x s', bodyS T st K s ≠ some (.ok (x, s')) := by
  intro x s' hz; unfold bodyS at hz; obtain ⟨⟨g0, g1⟩, ⟨hb, hz⟩ | ⟨_, hz⟩⟩ := wantK_some hz
  · have := H.lt g0 g1 (isB_kind hb)
    omega
  · cases hz
theorem so_test (H : Sim T U d m) (s : PSt) : SO T d m s.nodes (testS T (ab0 T) s) (testS U (ab0 U) (sh d m s)) := by
  unfold testS; exact so_want H fun h0 h1 q => so_enter (so_ex (so_ab0 H 1 _) fun p s3 _ _ => so_leave H fun h0 h1 => so_ok (by show s3.at_ + 1 < T.length; omega))
theorem so_exS (H : Sim T U d m) (kd : Int) (nm : ByteArray) (cl : Int) (s : PSt) : SO T d m s.nodes (exS T (ab0 T) kd nm cl s) (exS U (ab0 U) kd nm cl (sh d m s)) := by
  unfold exS; exact so_ex (so_ab0 H 1 s) fun p s1 _ hl => so_ok hl
theorem so_branch (H : Sim T U d m) {st st' : PSt → Option SRes} (hS : StS T U d m st st') (s : PSt) : SO T d m s.nodes (branchS T (ab0 T) st (T.length + 1) s) (branchS U (ab0 U) st' (U.length + 1) (sh d m s)) := by
  unfold branchS; refine so_ex (so_test H s) fun p s1 _ _ => so_ex (so_body H hS s1) fun l s2 _ hl2 => ?_; refine so_is H (fun _ => .inl H.ee) (fun h0 h1 => ?_) (so_ok hl2); rw [sh_next]; refine so_is H (n := s2.nodes) (s := ⟨s2.at_ + 1, s2.nodes, s2.op, s2.bl⟩) (fun e => .inr fun x s' hz => ?_) (fun h0 h1 => ?_) ?_
  · rcases exK_some hz with ⟨er, a, _, hz⟩ | ⟨m', s3, ho, hz⟩
    · cases hz
    · exact body_end H e m' s3 ho
  · exact so_deeper (so_ex (hS.so _) fun x s4 _ hl4 => so_close (so_ok (s := ⟨s4.at_, s4.nodes, s4.op, s4.bl - 1⟩) hl4))
  · exact so_ex (so_body H hS _) fun x s4 _ hl4 => so_ok hl4
theorem so_word (H : Sim T U d m) {st st' : PSt → Option SRes} (hS : StS T U d m st st') (s : PSt) (h0 : 0 ≤ s.at_) (h1 : s.at_ < (T.length : Int) - 1) (t : S58) (q : Int) :
    SO T d m s.nodes (wordS T (ab0 T) st (T.length + 1) s t) (wordS U (ab0 U) st' (U.length + 1) (sh d m s) ⟨t.f0, t.f1, t.f2, q⟩) := by
  have hh := H.hd h0 (by omega : s.at_ < T.length); have hn : s.at_ + 1 < T.length := by omega
  unfold wordS; rw [if_pos ⟨h0, by omega⟩, if_pos (show 0 ≤ (sh d m s).at_ ∧ (sh d m s).at_ < U.length from hh), sh_next]
  dsimp only; generalize t.f1.toList = tx; by_cases c0 : tx = [118, 97, 114]
  · rw [if_pos c0, if_pos c0]
    exact so_kind H (by decide) fun h0 h1 q => so_want H fun h2 h3 q' => so_exS H _ _ _ _
  rw [if_neg c0, if_neg c0]; by_cases c1 : tx = [109]
  · rw [if_pos c1, if_pos c1]
    exact so_want H fun h0 h1 q => so_enter (so_ex (so_ab0 H 1 _) fun p s3 _ _ => so_leave H fun h2 h3 => so_want H fun h4 h5 q => so_ex (so_ab0 H 1 _) fun y s6 _ hl => so_ok hl)
  rw [if_neg c1, if_neg c1]; by_cases c2 : tx = [101, 109, 105, 116]
  · rw [if_pos c2, if_pos c2]
    exact so_exS H _ _ _ ⟨s.at_ + 1, s.nodes, s.op, s.bl⟩
  rw [if_neg c2, if_neg c2]; by_cases c3 : tx = [105, 110, 116, 111]
  · rw [if_pos c3, if_pos c3]
    refine so_kind H (by decide) fun h0 h1 q => ?_
    dsimp only; by_cases hq : 255 < (rd_T58 T (s.at_ + 1)).f2
    · rw [if_pos hq]; exact so_err
    · rw [if_neg hq, if_neg hq]
      exact so_exS H _ _ _ _
  rw [if_neg c3, if_neg c3]; by_cases c4 : tx = [102, 97, 105, 108]
  · rw [if_pos c4, if_pos c4]
    exact so_exS H _ _ _ ⟨s.at_ + 1, s.nodes, s.op, s.bl⟩
  rw [if_neg c4, if_neg c4]; by_cases c5 : tx = [115, 116, 111, 112]
  · rw [if_pos c5, if_pos c5]
    exact so_ok (s := ⟨s.at_ + 1, s.nodes, s.op, s.bl⟩) hn
  rw [if_neg c5, if_neg c5]; by_cases c6 : tx = [119, 104, 105, 108, 101]
  · rw [if_pos c6, if_pos c6]
    exact so_ex (so_test H ⟨s.at_ + 1, s.nodes, s.op, s.bl⟩) fun p s1 _ _ => so_ex (so_body H hS s1) fun l s2 _ hl => so_ok hl
  rw [if_neg c6, if_neg c6]; by_cases c7 : tx = [105, 102]
  · rw [if_pos c7, if_pos c7]
    exact so_branch H hS ⟨s.at_ + 1, s.nodes, s.op, s.bl⟩
  rw [if_neg c7]; exact so_err
theorem so_end (H : Sim T U d m) (t3 t3' : Int) (x : S41) (s : PSt) (hl : s.at_ < T.length) : SO T d m s.nodes (endS T t3 x s) (endS U t3' x (sh d m s)) := by
  unfold endS; by_cases hk : x.f0 = 6 ∨ x.f0 = 7
  · rw [if_pos hk, if_pos hk]
    exact so_made H (so_ok (s := ⟨s.at_, s.nodes + 1, s.op, s.bl⟩) hl)
  · rw [if_neg hk, if_neg hk]
    exact so_want H fun h0 h1 q => so_made H (s := ⟨s.at_ + 1, s.nodes, s.op, s.bl⟩) (so_ok (s := ⟨s.at_ + 1, s.nodes + 1, s.op, s.bl⟩) (by show s.at_ + 1 < T.length; omega))
theorem stm_end (H : Sim T U d m) (ab : Int → PSt → Option Res) (wd : PSt → S58 → Option SRes) (s : PSt) {x : S41} {s' : PSt} (h : stmtS T ab wd s = some (.ok (x, s'))) : 0 ≤ s.at_ ∧ s.at_ < (T.length : Int) - 1 := by
  unfold stmtS at h; by_cases hg : 0 ≤ s.at_ ∧ s.at_ < T.length
  rotate_left
  · rw [if_neg hg] at h; cases h
  rw [if_pos hg] at h; refine ⟨hg.1, H.lt hg.1 hg.2 fun h0 => ?_⟩; rw [if_neg (by rw [h0]; decide), if_neg (by rw [h0]; decide)] at h; cases h
theorem so_stmt (H : Sim T U d m) {st st' : PSt → Option SRes} (hS : StS T U d m st st') : StS T U d m (stmtS T (ab0 T) (wordS T (ab0 T) st (T.length + 1))) (stmtS U (ab0 U) (wordS U (ab0 U) st' (U.length + 1))) := by
  refine ⟨fun s => ?_, fun s x s' h => stm_end H _ _ s h⟩
  intro x s' h; obtain ⟨h0, h1⟩ := stm_end H _ _ s h
  revert x s'
  show SO T d m s.nodes _ _; have hh := H.hd h0 (by omega : s.at_ < T.length); obtain ⟨q, hq⟩ := H.tok _ h0 h1; unfold stmtS; rw [if_pos ⟨h0, by omega⟩, if_pos (show 0 ≤ (sh d m s).at_ ∧ (sh d m s).at_ < U.length from hh), sh_next]
  rw [show rd_T58 U (sh d m s).at_ = _ from hq]; dsimp only; by_cases e2 : (rd_T58 T s.at_).f0 = 2
  · rw [if_pos e2, if_pos e2]
    exact so_want H fun h0 h1 q => so_ex (so_ab0 H 1 _) fun p s2 _ hl => so_end H _ _ _ _ hl
  rw [if_neg e2, if_neg e2]; by_cases e3 : (rd_T58 T s.at_).f0 = 3
  · rw [if_pos e3, if_pos e3]
    exact so_ex (so_word H hS s h0 h1 _ q) fun x s1 _ hl => so_end H _ _ _ _ hl
  rw [if_neg e3]; exact so_err
theorem so_stG (H : Sim T U d m) : ∀ h h' : Nat, h ≤ h' → StS T U d m (stG T (ab0 T) h) (stG U (ab0 U) h')
  | 0, _, _ => ⟨fun s => so_none, fun s x s' h => by cases h⟩
  | h + 1, 0, z => absurd z (by omega)
  | h + 1, h' + 1, z => so_stmt H (so_stG H h h' (by omega))
theorem so_st0 (H : Sim T U d m) : StS T U d m (st0 T) (st0 U) := by
  have hl := H.len; have hd := H.d0; exact so_stG H T.length U.length (by omega)
theorem so_pars {N : Int} (H : Sim T U d m) (HT : TokT T N) (nz : ∀ i : Int, 0 ≤ i → i < (T.length : Int) - 1 → (rd_T58 T i).f0 ≠ 0) : ∀ (K : Nat) (xs : List S41) (s : PSt) (l : List S41), Inv T s → parsF T (st0 T) K xs s = some (.ok l) →
    ∃ zs : List S41, l = xs ++ zs ∧ (zs.length : Int) ≤ (T.length : Int) - 1 - s.at_ ∧ ∀ (ys : List S41) (J : Nat), zs.length ≤ J → s.nodes + m ≤ 600 → (ys.length : Int) ≤ s.nodes + m →
      (s.nodes + (cntB zs : Int) + m ≤ 600 → parsF U (st0 U) J ys (sh d m s) = parsF U (st0 U) (J - zs.length) (ys ++ zs) ⟨(T.length : Int) - 1 + d, s.nodes + (cntB zs : Int) + m, s.op, s.bl⟩) ∧ (600 < s.nodes + (cntB zs : Int) + m → ∃ a, parsF U (st0 U) J ys (sh d m s) = some (.error (42, a)))
  | 0, xs, s, l, I, h => by cases h
  | K + 1, xs, s, l, I, h => by
    have hm := H.m0; unfold parsF at h; by_cases hg : (0 ≤ s.at_ ∧ s.at_ < T.length) ∧ xs.length < 1000
    rotate_left
    · rw [if_neg hg] at h; cases h
    rw [if_pos hg] at h; have hh := H.hd hg.1.1 hg.1.2; by_cases h0 : (rd_T58 T s.at_).f0 = 0
    · rw [if_pos h0] at h
      injection h with h; injection h with h; have e : s.at_ = (T.length : Int) - 1 := by
        rcases Int.lt_or_le s.at_ ((T.length : Int) - 1) with z | z
        · exact absurd h0 (nz _ hg.1.1 z)
        · omega
      refine ⟨[], by rw [h, List.append_nil], by simp only [List.length_nil]; omega, fun ys J hJ hn hy => ⟨fun _ => ?_, fun z => by simp only [cntB] at z; omega⟩⟩
      rw [List.append_nil]; unfold sh; rw [e]; simp only [cntB, List.length_nil, Nat.sub_zero]; rw [show s.nodes + ((0 : Nat) : Int) + m = s.nodes + m by omega]
    rw [if_neg h0] at h; obtain ⟨r, ht, hq⟩ := st0_tot HT s I; rw [ht] at h; rcases r with e | ⟨x, s1⟩
    · cases h
    obtain ⟨⟨q1, q2⟩, q3, q4, q5, q6, q7⟩ := hq; dsimp only at h q1 q2 q3 q4 q5 q6; have i1 := I.n0; have i2 := I.n1; have i3 := I.o0; have i4 := I.o1; have i5 := I.b0; have i6 := I.b1; have i7 := I.a0; obtain ⟨zs, e1, e2, e3⟩ := so_pars H HT nz K (xs ++ [x]) s1 l ⟨by omega, q2, by omega, q4, by omega, by omega, by omega, by omega⟩ h
    refine ⟨x :: zs, by rw [e1, List.append_assoc]; rfl, by simp only [List.length_cons]; omega, fun ys J hJ hn hy => ?_⟩
    have hl := (so_st0 H).lt s x s1 ht; obtain ⟨q, hqq⟩ := H.tok _ hl.1 hl.2; have hso := ((so_st0 H).so s x s1 ht).2 hn; have ec : (cntB (x :: zs) : Int) = 1 + (cntS x : Int) + (cntB zs : Int) := by simp only [cntB]; omega
    rw [ec]; cases J with
    | zero => simp at hJ
    | succ J =>
    have hgU : (0 ≤ (sh d m s).at_ ∧ (sh d m s).at_ < U.length) ∧ ys.length < 1000 := ⟨hh, by omega⟩
    have hkU : ¬ (rd_T58 U (sh d m s).at_).f0 = 0 := by rw [show rd_T58 U (sh d m s).at_ = _ from hqq]; exact h0
    have estep : ∀ x' s2, st0 U (sh d m s) = some (.ok (x', s2)) → parsF U (st0 U) (J + 1) ys (sh d m s) = parsF U (st0 U) J (ys ++ [x']) s2 := by
      intro x' s2 hz
      conv => lhs; unfold parsF
      rw [if_pos hgU, if_neg hkU, hz]
    have eerr : ∀ e, st0 U (sh d m s) = some (.error e) → parsF U (st0 U) (J + 1) ys (sh d m s) = some (.error e) := by
      intro e hz
      conv => lhs; unfold parsF
      rw [if_pos hgU, if_neg hkU, hz]
    by_cases z : s1.nodes + m ≤ 600
    · rw [estep _ _ (hso.1 z)]
      obtain ⟨f1, f2⟩ := e3 (ys ++ [x]) J (by simp only [List.length_cons] at hJ; omega) z (by simp only [List.length_append, List.length_cons, List.length_nil]; omega); refine ⟨fun w => ?_, fun w => f2 (by omega)⟩; rw [f1 (by omega), List.append_assoc]; simp only [List.length_cons, Nat.add_sub_add_right]; rw [q5, q6, show s1.nodes + (cntB zs : Int) + m = s.nodes + (1 + (cntS x : Int) + (cntB zs : Int)) + m by omega]
      rfl
    · obtain ⟨a, e⟩ := hso.2 (by omega)
      exact ⟨fun w => by omega, fun w => ⟨a, eerr _ e⟩⟩
end
structure JoinT (T1 T2 U : List S58) : Prop where
  len : (U.length : Int) = ((T1.length : Int) - 1) + T2.length
  a : ∀ i : Int, 0 ≤ i → i < (T1.length : Int) - 1 → ∃ q, rd_T58 U i = ⟨(rd_T58 T1 i).f0, (rd_T58 T1 i).f1, (rd_T58 T1 i).f2, q⟩
  b : ∀ i : Int, 0 ≤ i → i < T2.length → ∃ q, rd_T58 U (i + ((T1.length : Int) - 1)) = ⟨(rd_T58 T2 i).f0, (rd_T58 T2 i).f1, (rd_T58 T2 i).f2, q⟩
theorem pars_first {T : List S58} {N : Int} (HT : TokT T N) {K : Nat} {l : List S41} (h : parsF T (st0 T) K [] ⟨0, 0, 0, 0⟩ = some (.ok l)) : (rd_T58 T 0).f0 ≠ 4 ∧ isB (rd_T58 T 0) ⟨#[101, 108, 115, 101]⟩ = false := by
  cases K with
  | zero => cases h
  | succ K =>
  unfold parsF at h; have hp := HT.pos; rw [if_pos ⟨⟨Int.le_refl _, by show (0 : Int) < T.length; omega⟩, by simp⟩] at h
  dsimp only at h; by_cases h0 : (rd_T58 T 0).f0 = 0
  · refine ⟨by rw [h0]; decide, ?_⟩
    unfold isB; rw [h0]; rfl
  rw [if_neg h0] at h; rcases ht : st0 T ⟨0, 0, 0, 0⟩ with _ | e | ⟨x, s1⟩
  · rw [ht] at h; cases h
  · rw [ht] at h; cases h
  unfold st0 at ht; cases hl : T.length with
  | zero => omega
  | succ k =>
  rw [hl] at ht; unfold stG stmtS at ht; rw [if_pos ⟨Int.le_refl _, by show (0 : Int) < T.length; omega⟩] at ht
  dsimp only at ht; by_cases e2 : (rd_T58 T 0).f0 = 2
  · refine ⟨by rw [e2]; decide, ?_⟩
    unfold isB; rw [e2]; rfl
  rw [if_neg e2] at ht; by_cases e3 : (rd_T58 T 0).f0 = 3
  · refine ⟨by rw [e3]; decide, ?_⟩
    rw [if_pos e3] at ht; rcases exK_some ht with ⟨er, a, _, hz⟩ | ⟨p, s2, ho, hz⟩
    · cases hz
    unfold wordS at ho; rw [if_pos ⟨Int.le_refl _, by show (0 : Int) < T.length; omega⟩] at ho
    unfold isB; rw [e3]; by_cases q : (rd_T58 T 0).f1.toList = [101, 108, 115, 101]
    · rw [q] at ho
      simp at ho
    · have e : (⟨#[101, 108, 115, 101]⟩ : ByteArray).toList = [101, 108, 115, 101] := by rw [toList_eq]
      rw [e]; simp [q]
  · rw [if_neg e3] at ht; cases ht
theorem pars_join {T1 T2 U : List S58} {N1 N2 : Int} (H1 : TokT T1 N1) (H2 : TokT T2 N2) (J : JoinT T1 T2 U) (z1 : ∀ i : Int, 0 ≤ i → i < (T1.length : Int) - 1 → (rd_T58 T1 i).f0 ≠ 0) (z2 : ∀ i : Int, 0 ≤ i → i < (T2.length : Int) - 1 → (rd_T58 T2 i).f0 ≠ 0)
    {a b : List S41} (ha : parT T1 = some (.ok a)) (hb : parT T2 = some (.ok b)) (hn : cntB a ≤ 600) : (cntB a + cntB b ≤ 600 → parT U = some (.ok (a ++ b))) ∧ (600 < cntB a + cntB b → ∃ p, parT U = some (.error (42, p))) := by
  obtain ⟨f4, fe⟩ := pars_first H2 hb
  have p1 := H1.pos; have p2 := H2.pos; have hl := J.len; obtain ⟨q0, hq0⟩ := J.b 0 (Int.le_refl _) (by omega); rw [Int.zero_add] at hq0; have S1 : Sim T1 U 0 0 := ⟨p1, H1.last, by omega, Int.le_refl _, Int.le_refl _, fun i h0 h1 => by rw [Int.add_zero]; exact J.a i h0 h1, by rw [Int.add_zero, hq0]; exact f4, by rw [Int.add_zero, hq0]; exact fe⟩
  have eU : ((T2.length : Int) - 1) + ((T1.length : Int) - 1) = (U.length : Int) - 1 := by omega
  obtain ⟨qe, hqe⟩ := J.b ((T2.length : Int) - 1) (by omega) (by omega); have k0 : (rd_T58 U (((T2.length : Int) - 1) + ((T1.length : Int) - 1))).f0 = 0 := by rw [hqe]; exact H2.last
  have S2 : Sim T2 U ((T1.length : Int) - 1) (cntB a) := ⟨p2, H2.last, by omega, by omega, by omega, fun i h0 h1 => J.b i h0 (by omega), by rw [k0]; decide, by unfold isB; rw [k0]; rfl⟩
  have I1 : ∀ T : List S58, 0 < T.length → Inv T ⟨0, 0, 0, 0⟩ := fun T h => ⟨Int.le_refl _, by show (0 : Int) < T.length; omega, Int.le_refl _, by show (0 : Int) ≤ 600; omega, Int.le_refl _, by show (0 : Int) ≤ 48; omega, Int.le_refl _, by show (0 : Int) ≤ 12; omega⟩
  obtain ⟨zs, e1, e2, e3⟩ := so_pars S1 H1 z1 _ [] ⟨0, 0, 0, 0⟩ a (I1 T1 p1) ha; rw [List.nil_append] at e1; subst e1; obtain ⟨ws, g1, g2, g3⟩ := so_pars S2 H2 z2 _ [] ⟨0, 0, 0, 0⟩ b (I1 T2 p2) hb; rw [List.nil_append] at g1; subst g1; dsimp only at e2 g2; have r1 := (e3 [] (U.length + 1) (by omega) (by show (0 : Int) + 0 ≤ 600; omega) (by show ((0 : Nat) : Int) ≤ 0 + 0; omega)).1 (by show (0 : Int) + (cntB a : Int) + 0 ≤ 600; omega); have r2 := g3 a (U.length + 1 - a.length) (by omega) (by show (0 : Int) + (cntB a : Int) ≤ 600; omega) (by have := len_cntB a; show (a.length : Int) ≤ 0 + (cntB a : Int); omega); rw [List.nil_append] at r1; have eS : (⟨(T1.length : Int) - 1 + 0, (0 : Int) + (cntB a : Int) + 0, 0, 0⟩ : PSt) = sh ((T1.length : Int) - 1) (cntB a) ⟨0, 0, 0, 0⟩ := by
    unfold sh; dsimp only; congr 1 <;> omega
  have r3 : parT U = parsF U (st0 U) (U.length + 1 - a.length) a (sh ((T1.length : Int) - 1) (cntB a) ⟨0, 0, 0, 0⟩) := by
    rw [← eS]; exact r1
  rw [r3]; refine ⟨fun w => ?_, fun w => r2.2 (by show 600 < (0 : Int) + (cntB b : Int) + (cntB a : Int); omega)⟩; rw [r2.1 (by show (0 : Int) + (cntB b : Int) + (cntB a : Int) ≤ 600; omega)]; have hJ : ∃ j, U.length + 1 - a.length - b.length = j + 1 := ⟨U.length - a.length - b.length, by omega⟩
  obtain ⟨j, hj⟩ := hJ; rw [hj]; have la := len_cntB a; have lb := len_cntB b; unfold parsF; rw [if_pos ⟨⟨by show (0 : Int) ≤ (T2.length : Int) - 1 + ((T1.length : Int) - 1); omega, by show (T2.length : Int) - 1 + ((T1.length : Int) - 1) < U.length; omega⟩, by rw [List.length_append]; omega⟩, if_pos k0]
end Go.Proofs.Ytobkdmmnbnpemaa.K
namespace Go.Proofs.Ytobkdmmnbnpemaa.K
open Go.RowKit Go.Proofs.YtobkdmmnbnpemaaW.PrintWords Go.Proofs.YtobkdmmnbnpemaaW.PrintLast Go.Proofs.YtobkdmmnbnpemaaW.PrintMore
set_option linter.unusedVariables false
set_option linter.unusedSimpArgs false
theorem cut_form {s : ByteArray} {T : List S58} (h : Lx.cutP s = (T, 0, 0)) : s.size ≤ 8192 ∧ ∃ ts, Lx.cutL (s.size + 1) (Lx.lst s) = (ts, none) ∧ T = ts.map (Lx.s33 s.size) ++ [Lx.endTok s.size] ∧ ∀ x ∈ ts, x.1.kd ≠ 0 := by
  unfold Lx.cutP at h; by_cases hb : 8192 < s.size
  · rw [if_pos hb] at h
    simp at h
  rw [if_neg hb] at h; refine ⟨by omega, ?_⟩; obtain ⟨h1, h2⟩ := cut_toks (s.size + 1) (Lx.lst s); generalize Lx.cutL (s.size + 1) (Lx.lst s) = r at h h1 h2; rcases r with ⟨ts, _ | ⟨e, p⟩⟩
  · refine ⟨ts, rfl, ?_, fun x hx => (h1 x hx).2.2⟩
    injection h with h _; exact h.symm
  · injection h with _ h
    injection h with _ h; exact absurd h (h2 e p rfl).1
theorem rd_lt (n : Nat) (ts : List (Lx.Tok × Nat)) (e : S58) (rest : List S58) (i : Nat) (hi : i < ts.length) : rd_T58 (ts.map (Lx.s33 n) ++ rest) (i : Int) = Lx.s33 n ts[i] := by
  unfold rd_T58; rw [Int.toNat_natCast, List.getD_eq_getElem?_getD, List.getElem?_append_left (by simpa using hi), List.getElem?_map, List.getElem?_eq_getElem hi]
  rfl
theorem rd_eq (n : Nat) (ts : List (Lx.Tok × Nat)) (e : S58) : rd_T58 (ts.map (Lx.s33 n) ++ [e]) (ts.length : Int) = e := by
  unfold rd_T58; rw [Int.toNat_natCast, List.getD_eq_getElem?_getD, List.getElem?_append_right (by simp)]; simp
theorem cut_nz {s : ByteArray} {T : List S58} (h : Lx.cutP s = (T, 0, 0)) : ∀ i : Int, 0 ≤ i → i < (T.length : Int) - 1 → (rd_T58 T i).f0 ≠ 0 := by
  obtain ⟨_, ts, _, rfl, hz⟩ := cut_form h; intro i h0 h1; have hl : i.toNat < ts.length := by simp at h1; omega
  have := rd_lt s.size ts (Lx.endTok s.size) [Lx.endTok s.size] i.toNat hl; rw [Int.toNat_of_nonneg h0] at this; rw [this]; exact hz _ (List.getElem_mem hl)
theorem cut_join {s t : ByteArray} {T1 T2 : List S58} (hsz : s.size + 1 + t.size ≤ 8192) (h1 : Lx.cutP s = (T1, 0, 0)) (h2 : Lx.cutP t = (T2, 0, 0)) : ∃ U, Lx.cutP (Lx.two s t) = (U, 0, 0) ∧ JoinT T1 T2 U := by
  obtain ⟨_, ts, c1, rfl, _⟩ := cut_form h1; obtain ⟨_, us, c2, rfl, _⟩ := cut_form h2; have hu := Lx.two_size s t; have cu : ¬ 8192 < (Lx.two s t).size := by omega
  have happ := Lx.cut_app (Lx.lst t) ((Lx.two s t).size + 1) (Lx.lst s) (by rw [Lx.lst_len, Lx.lst_len]; omega); rw [← Lx.two_lst, Lx.cutL_fuel ((Lx.two s t).size + 1) (s.size + 1) (Lx.lst s) (by rw [Lx.lst_len]; omega) (by rw [Lx.lst_len]; omega), Lx.cutL_fuel ((Lx.two s t).size + 1) (t.size + 1) (Lx.lst t) (by rw [Lx.lst_len]; omega) (by rw [Lx.lst_len]; omega), c1, c2] at happ; have eu := Lx.cutP_small (Lx.two s t) cu; rw [happ] at eu; dsimp only at eu; generalize (Lx.two s t).size = n at eu hu; have hs : (Lx.shiftT ((Lx.lst t).length + 1) ts).length = ts.length := by unfold Lx.shiftT; simp
  refine ⟨_, eu, ?_, ?_, ?_⟩
  · simp only [List.length_append, List.length_map, List.length_cons, List.length_nil, hs]; omega
  · intro i h0 hi
    simp only [List.length_append, List.length_map, List.length_cons, List.length_nil] at hi; have hl : i.toNat < ts.length := by omega
    have a := rd_lt n (Lx.shiftT ((Lx.lst t).length + 1) ts ++ us) (Lx.endTok n) [Lx.endTok n] i.toNat (by rw [List.length_append, hs]; omega); have b := rd_lt s.size ts (Lx.endTok s.size) [Lx.endTok s.size] i.toNat hl; rw [Int.toNat_of_nonneg h0] at a b; rw [a, b, List.getElem_append_left (by rw [hs]; exact hl)]; refine ⟨(Lx.s33 n ((Lx.shiftT ((Lx.lst t).length + 1) ts)[i.toNat]'(by rw [hs]; exact hl))).f3, ?_⟩; simp only [Lx.shiftT, List.getElem_map]
    rfl
  · intro i h0 hi
    simp only [List.length_append, List.length_map, List.length_cons, List.length_nil] at hi ⊢; have e0 : i + (((ts.length + (0 + 1) : Nat) : Int) - 1) = ((ts.length + i.toNat : Nat) : Int) := by omega
    rw [e0]; rcases Nat.lt_or_ge i.toNat us.length with hl | hl
    · have a := rd_lt n (Lx.shiftT ((Lx.lst t).length + 1) ts ++ us) (Lx.endTok n) [Lx.endTok n] (ts.length + i.toNat) (by rw [List.length_append, hs]; omega)
      have b := rd_lt t.size us (Lx.endTok t.size) [Lx.endTok t.size] i.toNat hl; rw [Int.toNat_of_nonneg h0] at b; rw [a, b, List.getElem_append_right (by rw [hs]; omega)]; refine ⟨(Lx.s33 n (us[ts.length + i.toNat - (Lx.shiftT ((Lx.lst t).length + 1) ts).length]'(by rw [hs]; omega))).f3, ?_⟩; simp only [hs, Nat.add_sub_cancel_left]
      rfl
    · have e1 : i.toNat = us.length := by omega
      have e2 : i = (us.length : Int) := by omega
      have a := rd_eq n (Lx.shiftT ((Lx.lst t).length + 1) ts ++ us) (Lx.endTok n); rw [List.length_append, hs] at a; have b := rd_eq t.size us (Lx.endTok t.size); rw [e1, a, e2, b]; exact ⟨_, rfl⟩
theorem par_join {s t : ByteArray} {a b : List S41} (hsz : s.size + 1 + t.size ≤ 8192) (ha : parV s = .ok a) (hb : parV t = .ok b) :
    (cntB a + cntB b ≤ 600 → parV (Lx.two s t) = .ok (a ++ b)) ∧ (600 < cntB a + cntB b → ∃ p, parV (Lx.two s t) = .error (42, p)) := by
  rcases parV_cases s with ⟨p, e, h, h1, h2, h3, h4⟩ | ⟨T1, r1, h1, H1, p1, q1, n1⟩
  · rw [ha] at h4; cases h4
  rcases parV_cases t with ⟨p, e, h, h1, h2, h3, h4⟩ | ⟨T2, r2, h2, H2, p2, q2, n2⟩
  · rw [hb] at h4; cases h4
  rw [ha] at q1; subst q1; rw [hb] at q2; subst q2; obtain ⟨U, hU, J⟩ := cut_join hsz h1 h2; obtain ⟨j1, j2⟩ := pars_join H1 H2 J (cut_nz h1) (cut_nz h2) p1 p2 n1.2; have e : ∀ r, parT U = some r → parV (Lx.two s t) = r := by
    intro r hr; unfold parV; rw [hU, if_neg (by simp), hr]; rfl
  exact ⟨fun w => e _ (j1 w), fun w => by obtain ⟨p, hp⟩ := j2 w; exact ⟨p, e _ hp⟩⟩
end Go.Proofs.Ytobkdmmnbnpemaa.K
