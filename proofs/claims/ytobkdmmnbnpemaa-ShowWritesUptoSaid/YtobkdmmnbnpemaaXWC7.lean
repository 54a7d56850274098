/- The writer's stmt and branch, told: by induction over how deep blocks stand. -/
import Derived.Test.YtobkdmmnbnpemaaXWC6
namespace Go.Proofs.Ytobkdmmnbnpemaa.K
open Go.RowKit Go.Proofs.YtobkdmmnbnpemaaW.PrintWords Go.Proofs.YtobkdmmnbnpemaaW.PrintLast Go.Proofs.YtobkdmmnbnpemaaW.PrintMore
set_option linter.unusedVariables false
def stG (K : Nat) (f : Int → S41 → Option (List UInt8)) (br : Int → ByteArray → S41 → ByteArray → Option (List UInt8)) (n : Int) (s : S41) : Option (List UInt8) := if s.f3.length ≤ 2 ∧ 1 ≤ s.f0 ∧ s.f0 ≤ 9 then stF K f br n s else none
def wG (K : Nat) : Nat → (Int → S41 → Option (List UInt8)) × (Int → ByteArray → S41 → ByteArray → Option (List UInt8))
  | 0 => (fun _ _ => none, fun _ _ _ _ => none)
  | d + 1 => (stG K (wG K d).1 (brF K (wG K d).1 (wG K d).2), brF K (wG K d).1 (wG K d).2)
theorem head1_get {xs : List ByteArray} {g : ByteArray → Option (List UInt8)} {r : List UInt8} (h : head1 xs g = some r) : ∃ x xr, xs = x :: xr ∧ g x = some r := by
  cases xs with
  | nil => simp [head1] at h
  | cons x xr => exact ⟨x, xr, rfl, h⟩
theorem head2_get {xs : List ByteArray} {g : ByteArray → ByteArray → Option (List UInt8)} {r : List UInt8} (h : head2 xs g = some r) : ∃ x y xr, xs = x :: y :: xr ∧ g x y = some r := by
  match xs, h with
  | [], h => simp [head2] at h
  | [_], h => simp [head2] at h
  | x :: y :: xr, h => exact ⟨x, y, xr, rfl, h⟩
theorem br_step (K d : Nat) (f : Int → S41 → Option (List UInt8)) (br : Int → ByteArray → S41 → ByteArray → Option (List UInt8)) (SC : StC d f) (BC : BrC d br) : BrC (d + 1) (brF K f br) := by
  intro ahead test k f1 f2 l3 l4 l5 L3 L4 L5 A3 A4 A5 c3 c4 c5 n r t g w0 w h h0 h1 hW hB hL3 hL4 hL5 hC3 hC4 hC5 hc3 hc4 hc5 hs
  unfold brF at h
  obtain ⟨b, hb, h⟩ := Option.bind_eq_some_iff.mp h
  simp only at hb h
  have hn1 : n + d + 1 ≤ 900 := by omega
  by_cases q : l5.length = 1 ∧ (rd_T41 l5 0).f0 = 6
  · rw [if_pos q] at h
    by_cases q2 : (rd_T41 l5 0).f3.length = 0
    · rw [if_pos q2] at h; simp at h
    · rw [if_neg q2] at h
      obtain ⟨x, hx, h⟩ := Option.bind_eq_some_iff.mp h
      obtain ⟨r2, hr2, h⟩ := Option.bind_eq_some_iff.mp h
      exact branch_elif K d f SC ahead test k f1 f2 l3 l4 l5 L3 L4 L5 A3 A4 A5 c3 c4 c5 n r t b g w0 w h0 hn1 hW hB hL3 hL4 hL5 hC3 hC4 hC5 hc3 hc4 hc5 hs hb br BC x r2 (by omega) q.2 q2 hx hr2 (Option.some.inj h).symm
  · rw [if_neg q] at h
    by_cases q2 : l5.length = 0
    · rw [if_pos q2] at h
      exact branch_none K d f SC ahead test k f1 f2 l3 l4 l5 L3 L4 L5 A3 A4 A5 c3 c4 c5 n r t b g w0 w h0 hn1 hW hB hL3 hL4 hL5 hC3 hC4 hC5 hc3 hc4 hc5 hs hb (by omega) (Option.some.inj h).symm
    · rw [if_neg q2] at h
      obtain ⟨e5, he5, h⟩ := Option.bind_eq_some_iff.mp h
      exact branch_else K d f SC ahead test k f1 f2 l3 l4 l5 L3 L4 L5 A3 A4 A5 c3 c4 c5 n r t b g w0 w h0 hn1 hW hB hL3 hL4 hL5 hC3 hC4 hC5 hc3 hc4 hc5 hs hb e5 he5 (by omega) (fun e6 e7 => q ⟨by omega, e7⟩) (Option.some.inj h).symm
theorem st_step (K d : Nat) (f : Int → S41 → Option (List UInt8)) (br : Int → ByteArray → S41 → ByteArray → Option (List UInt8)) (SC : StC d f) (BC : BrC (d + 1) br) : StC (d + 1) (stG K f br) := by
  intro k f1 f2 l3 l4 l5 A3 A4 A5 c3 c4 c5 n r t g w0 w h h0 h1 hW hB hC3 hC4 hC5 hc3 hc4 hc5 hs
  have hn1 : n + d + 1 ≤ 900 := by omega
  unfold stG at h
  simp only at h
  by_cases qq : l3.length ≤ 2 ∧ 1 ≤ k ∧ k ≤ 9
  · rw [if_pos qq] at h
    have ql := qq.1
    unfold stF at h
    obtain ⟨XS, hX, h⟩ := Option.bind_eq_some_iff.mp h
    simp only at hX h
    by_cases k1 : k = 1
    · subst k1
      rw [if_pos rfl] at h
      obtain ⟨x, xr, hx, h⟩ := head1_get h
      exact stmt_k1 K d f SC 1 f1 f2 l3 l4 l5 _ _ _ A3 A4 A5 c3 c4 c5 n r t g w0 w XS hX h0 hn1 hW hB rfl rfl rfl hC3 hC4 hC5 hc3 hc4 hc5 ql hs x xr hx (Option.some.inj h).symm
    rw [if_neg k1] at h
    by_cases k2 : k = 2
    · subst k2
      rw [if_pos rfl] at h
      obtain ⟨x, xr, hx, h⟩ := head1_get h
      exact stmt_k2 K d f SC 1 f1 f2 l3 l4 l5 _ _ _ A3 A4 A5 c3 c4 c5 n r t g w0 w XS hX h0 hn1 hW hB rfl rfl rfl hC3 hC4 hC5 hc3 hc4 hc5 ql hs x xr hx (Option.some.inj h).symm
    rw [if_neg k2] at h
    by_cases k3 : k = 3
    · subst k3
      rw [if_pos rfl] at h
      obtain ⟨x, y, xr, hx, h⟩ := head2_get h
      exact stmt_k3 K d f SC 1 f1 f2 l3 l4 l5 _ _ _ A3 A4 A5 c3 c4 c5 n r t g w0 w XS hX h0 hn1 hW hB rfl rfl rfl hC3 hC4 hC5 hc3 hc4 hc5 ql hs x y xr hx (Option.some.inj h).symm
    rw [if_neg k3] at h
    by_cases k4 : k = 4
    · subst k4
      rw [if_pos rfl] at h
      obtain ⟨x, xr, hx, h⟩ := head1_get h
      exact stmt_k4 K d f SC 1 f1 f2 l3 l4 l5 _ _ _ A3 A4 A5 c3 c4 c5 n r t g w0 w XS hX h0 hn1 hW hB rfl rfl rfl hC3 hC4 hC5 hc3 hc4 hc5 ql hs x xr hx (Option.some.inj h).symm
    rw [if_neg k4] at h
    by_cases k5 : k = 5
    · subst k5
      rw [if_pos rfl] at h
      obtain ⟨cT, hct, h⟩ := Option.bind_eq_some_iff.mp h
      obtain ⟨x, xr, hx, h⟩ := head1_get h
      exact stmt_k5 K d f SC 1 f1 f2 l3 l4 l5 _ _ _ A3 A4 A5 c3 c4 c5 n r t g w0 w XS hX h0 hn1 hW hB rfl rfl rfl hC3 hC4 hC5 hc3 hc4 hc5 ql hs cT hct x xr hx (Option.some.inj h).symm
    rw [if_neg k5] at h
    by_cases k8 : k = 8
    · subst k8
      rw [if_pos rfl] at h
      obtain ⟨x, xr, hx, h⟩ := head1_get h
      exact stmt_k8 K d f SC 1 f1 f2 l3 l4 l5 _ _ _ A3 A4 A5 c3 c4 c5 n r t g w0 w XS hX h0 hn1 hW hB rfl rfl rfl hC3 hC4 hC5 hc3 hc4 hc5 ql hs x xr hx (Option.some.inj h).symm
    rw [if_neg k8] at h
    by_cases k9 : k = 9
    · subst k9
      rw [if_pos rfl] at h
      exact stmt_k9 K d f SC 1 f1 f2 l3 l4 l5 _ _ _ A3 A4 A5 c3 c4 c5 n r t g w0 w XS hX h0 hn1 hW hB rfl rfl rfl hC3 hC4 hC5 hc3 hc4 hc5 ql hs (Option.some.inj h).symm
    rw [if_neg k9] at h
    by_cases k7 : k = 7
    · subst k7
      rw [if_pos rfl] at h
      obtain ⟨x, xr, hx, h⟩ := head1_get h
      obtain ⟨b, hb, h⟩ := Option.bind_eq_some_iff.mp h
      exact stmt_k7 K d f SC 1 f1 f2 l3 l4 l5 _ _ _ A3 A4 A5 c3 c4 c5 n r t g w0 w XS hX h0 hn1 hW hB rfl rfl rfl hC3 hC4 hC5 hc3 hc4 hc5 ql hs x xr b hx hb (Option.some.inj h).symm
    rw [if_neg k7] at h
    by_cases k6 : k = 6
    · subst k6
      rw [if_pos rfl] at h
      obtain ⟨x, xr, hx, h⟩ := head1_get h
      exact stmt_k6 K d f SC 1 f1 f2 l3 l4 l5 _ _ _ A3 A4 A5 c3 c4 c5 n r t g w0 w XS hX h0 hn1 hW hB rfl rfl rfl hC3 hC4 hC5 hc3 hc4 hc5 ql hs br BC x xr hx h
    rw [if_neg k6] at h
    exact absurd qq (by omega)
  · rw [if_neg qq] at h; simp at h
theorem wG_ok (K : Nat) : ∀ d, StC d (wG K d).1 ∧ BrC d (wG K d).2
  | 0 => ⟨by intro k f1 f2 l3 l4 l5 A3 A4 A5 c3 c4 c5 n r t g w0 w h; simp [wG] at h, by intro a b k f1 f2 l3 l4 l5 L3 L4 L5 A3 A4 A5 c3 c4 c5 n r t g w0 w h; simp [wG] at h⟩
  | d + 1 => by
    obtain ⟨h1, h2⟩ := wG_ok K d
    have hb := br_step K d _ _ h1 h2
    exact ⟨st_step K d _ _ h1 hb, hb⟩
end Go.Proofs.Ytobkdmmnbnpemaa.K
