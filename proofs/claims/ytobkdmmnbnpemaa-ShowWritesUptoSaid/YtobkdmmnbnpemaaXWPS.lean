/- What the program writes of statements that may be: sTx, lTx. Plain. -/
import Derived.Test.YtobkdmmnbnpemaaXWC7
import Derived.Test.YtobkdmmnbnpemaaXWS0
import Derived.Test.YtobkdmmnbnpemaaXWM2
namespace Go.Proofs.Ytobkdmmnbnpemaa.K
open Go.RowKit Go.Proofs.YtobkdmmnbnpemaaW.PrintWords Go.Proofs.YtobkdmmnbnpemaaW.PrintLast Go.Proofs.YtobkdmmnbnpemaaW.PrintMore
set_option linter.unusedVariables false
set_option linter.unusedSimpArgs false
theorem lst_app (a b : ByteArray) : lst (a ++ b) = lst a ++ lst b := by unfold lst; simp
theorem lst_blB (m : Nat) : lst (blB m) = List.replicate (2 * m) 32 := by unfold blB; rw [lst_bs]
theorem line_at (m : Nat) (parts : List ByteArray) : lineB (m : Int) parts = lst (blB m) ++ ((parts.map lst).flatten ++ [10]) := by
  unfold lineB
  rw [lst_blB, Int.toNat_natCast]
theorem argsT_ok (K : Nat) (hK : ∀ e, cntE e ≤ 1000 → fitE e = true → exT K e = some (txt e)) : ∀ l : List S38, l.all okA = true → cntL l ≤ 1000 → argsT K l = some (l.map txt)
  | [], _, _ => rfl
  | x :: xs, h, hc => by
    rw [List.all_cons, Bool.and_eq_true] at h
    simp only [cntL] at hc
    show ((exT K x).bind fun x => (argsT K xs).bind fun xs => some (x :: xs)) = _
    rw [hK x (by omega) (okA_open h.1).1, Option.bind_some, argsT_ok K hK xs h.2 (by omega)]
    rfl
theorem sB_ok (f : Int → S41 → Option (List UInt8)) (m : Nat) : ∀ l : List S41, (∀ s ∈ l, f (m : Int) s = some (lst (blB m) ++ lst (sTx s m))) → sB f (m : Int) l = some (lst (lTx l m))
  | [], _ => rfl
  | x :: xs, h => by
    show ((f (m : Int) x).bind fun a => (sB f (m : Int) xs).bind fun b => some (a ++ b)) = _
    rw [h x (List.mem_cons_self ..), Option.bind_some, sB_ok f m xs (fun s hs => h s (List.mem_cons_of_mem _ hs)), Option.bind_some]
    simp only [lTx, lst_app]
theorem sBx_ok (f : Int → S41 → Option (List UInt8)) (m : Nat) (l : List S41) (hl : cntB l ≤ 1000) (h : ∀ s ∈ l, f ((m + 1 : Nat) : Int) s = some (lst (blB (m + 1)) ++ lst (sTx s (m + 1)))) : sBx f ((m : Int) + 1) l = some (lst (lTx l (m + 1))) := by
  unfold sBx
  have := len_cntB l
  rw [if_pos (by omega), show ((m : Int) + 1) = ((m + 1 : Nat) : Int) by omega]
  exact sB_ok f (m + 1) l h
def WrC (w : (Int → S41 → Option (List UInt8)) × (Int → ByteArray → S41 → ByteArray → Option (List UInt8))) (d : Nat) : Prop :=
  (∀ (s : S41) (m : Nat), m + d ≤ 20 → fitSt (fitB d) s = true → cntS s ≤ 1000 → w.1 (m : Int) s = some (lst (blB m) ++ lst (sTx s m))) ∧
  (∀ (s : S41) (m : Nat) (ahead : ByteArray) (x : S38), s.f0 = 6 → s.f3 = [x] → m + d ≤ 20 → fitSt (fitB d) s = true → cntS s ≤ 1000 → w.2 (m : Int) ahead s (txt x) = some (lst (blB m) ++ (lst ahead ++ lst (sTx s m))))
theorem if_one {s : S41} {b : Nat} (h : fitSt (fitB b) s = true) (h6 : s.f0 = 6) : ∃ x, s.f3 = [x] ∧ okA x = true := by
  obtain ⟨hh, ha, _⟩ := fit_open h
  obtain ⟨W, nm, hw, hW, _⟩ := head_kind hh
  rw [h6] at hw
  have e := (Prod.mk.inj (Option.some.inj hw)).1
  obtain ⟨x, hx⟩ := List.length_eq_one_iff.1 (show s.f3.length = 1 from by rw [hW, ← e])
  rw [hx] at ha
  exact ⟨x, hx, by simpa using ha⟩
theorem br_txt (K : Nat) (hK : ∀ e, cntE e ≤ 1000 → fitE e = true → exT K e = some (txt e)) (d : Nat) (w : (Int → S41 → Option (List UInt8)) × (Int → ByteArray → S41 → ByteArray → Option (List UInt8))) (hw : WrC w d)
    (s : S41) (m : Nat) (ahead : ByteArray) (x : S38) (h6 : s.f0 = 6) (h3 : s.f3 = [x]) (hm : m + (d + 1) ≤ 20) (hf : fitSt (fitB (d + 1)) s = true) (hc : cntS s ≤ 1000) :
    brF K w.1 w.2 (m : Int) ahead s (txt x) = some (lst (blB m) ++ (lst ahead ++ lst (sTx s m))) := by
  obtain ⟨hh, ha, hb, h4, h5⟩ := fit_open hf
  rw [Nat.add_sub_cancel] at h4 h5
  rw [List.all_eq_true] at h4 h5
  obtain ⟨k, f1, f2, l3, l4, l5⟩ := s
  dsimp only at *
  subst h6 h3
  simp only [cntS] at hc
  have mem_cnt : ∀ (l : List S41) (s : S41), s ∈ l → cntS s ≤ cntB l := by
    intro l
    induction l with
    | nil => intro s hs; cases hs
    | cons y ys ih =>
      intro s hs
      simp only [cntB]
      rcases List.mem_cons.1 hs with z | z
      · subst z; omega
      · have := ih s z; omega
  have hbody := sBx_ok w.1 m l4 (by omega) (fun s hs => hw.1 s (m + 1) (by omega) (h4 s hs) (by have := mem_cnt l4 s hs; omega))
  have hT : sTx ⟨6, f1, f2, [x], l4, l5⟩ m = elsT l5 m (((((⟨#[105, 102, 32, 40]⟩ ++ txt x) ++ ⟨#[41, 32, 123, 10]⟩) ++ lTx l4 (m + 1)) ++ blB m) ++ ⟨#[125]⟩) (lTx l5 (m + 1)) (hTx l5 m) := rfl
  have hl : lst (⟨#[105, 102, 32, 40]⟩ : ByteArray) = [105, 102, 32, 40] := rfl
  have hl2 : lst (⟨#[41, 32, 123, 10]⟩ : ByteArray) = [41, 32, 123, 10] := rfl
  have hl3 : lst (⟨#[41, 32, 123]⟩ : ByteArray) = [41, 32, 123] := rfl
  have hl4 : lst (⟨#[125]⟩ : ByteArray) = [125] := rfl
  have hl5 : lst (⟨#[32, 101, 108, 115, 101, 32]⟩ : ByteArray) = [32, 101, 108, 115, 101, 32] := rfl
  have hl6 : lst (⟨#[125, 32, 101, 108, 115, 101, 32]⟩ : ByteArray) = [125, 32, 101, 108, 115, 101, 32] := rfl
  have hl7 : lst (⟨#[10]⟩ : ByteArray) = [10] := rfl
  have hl8 : lst (⟨#[125, 10]⟩ : ByteArray) = [125, 10] := rfl
  have hl9 : lst (⟨#[32, 101, 108, 115, 101, 32, 123, 10]⟩ : ByteArray) = [32, 101, 108, 115, 101, 32, 123, 10] := rfl
  have hl10 : lst (⟨#[125, 32, 101, 108, 115, 101, 32, 123]⟩ : ByteArray) = [125, 32, 101, 108, 115, 101, 32, 123] := rfl
  unfold brF
  dsimp only
  rw [hbody, Option.bind_some, hT]
  unfold elsT
  match l5, h5, hc with
  | [], h5, hc =>
    rw [if_neg (by simp), if_pos (by simp), if_pos (by simp)]
    simp only [line_at, lst_app, hl, hl2, hl3, hl4, hl7, List.map_cons, List.map_nil, List.flatten_cons, List.flatten_nil, List.append_assoc, List.cons_append, List.nil_append, List.append_nil]
  | [y], h5, hc =>
    have hy := h5 y (List.mem_cons_self ..)
    simp only [cntB] at hc
    by_cases hy6 : y.f0 = 6
    · obtain ⟨x', hx', hok⟩ := if_one hy hy6
      have hr := hw.2 y m ⟨#[125, 32, 101, 108, 115, 101, 32]⟩ x' hy6 hx' (by omega) hy (by omega)
      have hcx : cntE x' ≤ 1000 := by
        have := cntS_eq y
        rw [hx'] at this
        simp only [cntL] at this
        omega
      rw [if_pos ⟨rfl, hy6⟩, show rd_T41 [y] 0 = y from rfl, if_neg (by rw [hx']; simp), hx', show rd_T38 [x'] 0 = x' from rfl, hK x' hcx (okA_open hok).1, Option.bind_some, hr, Option.bind_some, if_neg (by simp), if_pos ⟨rfl, hy6⟩]
      simp only [line_at, lst_app, hTx, hl, hl2, hl3, hl4, hl5, hl6, List.map_cons, List.map_nil, List.flatten_cons, List.flatten_nil, List.append_assoc, List.cons_append, List.nil_append, List.append_nil]
    · have hels := sBx_ok w.1 m [y] (by simp only [cntB]; omega) (fun s hs => hw.1 s (m + 1) (by omega) (h5 s hs) (by have := mem_cnt [y] s hs; simp only [cntB] at this; omega))
      rw [if_neg (fun z => hy6 z.2), if_neg (by simp), hels, Option.bind_some, if_neg (by simp), if_neg (fun z => hy6 z.2)]
      simp only [line_at, lst_app, hl, hl2, hl3, hl4, hl8, hl9, hl10, List.map_cons, List.map_nil, List.flatten_cons, List.flatten_nil, List.append_assoc, List.cons_append, List.nil_append, List.append_nil]
  | y :: z :: q, h5, hc =>
    have hels := sBx_ok w.1 m (y :: z :: q) (by omega) (fun s hs => hw.1 s (m + 1) (by omega) (h5 s hs) (by have := mem_cnt (y :: z :: q) s hs; omega))
    rw [if_neg (fun u => by simp at u), if_neg (by simp), hels, Option.bind_some, if_neg (by simp), if_neg (fun u => by simp at u)]
    simp only [line_at, lst_app, hl, hl2, hl3, hl4, hl8, hl9, hl10, List.map_cons, List.map_nil, List.flatten_cons, List.flatten_nil, List.append_assoc, List.cons_append, List.nil_append, List.append_nil]
theorem st_txt (K : Nat) (hK : ∀ e, cntE e ≤ 1000 → fitE e = true → exT K e = some (txt e)) (d : Nat) (f : Int → S41 → Option (List UInt8)) (br : Int → ByteArray → S41 → ByteArray → Option (List UInt8))
    (h7 : ∀ (s : S41) (m : Nat), s.f0 = 7 → m + d ≤ 20 → fitSt (fitB d) s = true → cntS s ≤ 1000 → sBx f ((m : Int) + 1) s.f4 = some (lst (lTx s.f4 (m + 1))))
    (h6 : ∀ (s : S41) (m : Nat) (ahead : ByteArray) (x : S38), s.f0 = 6 → s.f3 = [x] → m + d ≤ 20 → fitSt (fitB d) s = true → cntS s ≤ 1000 → br (m : Int) ahead s (txt x) = some (lst (blB m) ++ (lst ahead ++ lst (sTx s m))))
    (s : S41) (m : Nat) (hm : m + d ≤ 20) (hf : fitSt (fitB d) s = true) (hc : cntS s ≤ 1000) : stG K f br (m : Int) s = some (lst (blB m) ++ lst (sTx s m)) := by
  have q7 := h7 s m
  have q6 := h6 s m ⟨#[]⟩
  obtain ⟨hh, ha, hb, h4, h5⟩ := fit_open hf
  obtain ⟨W, nm, hw, hW, hnm, h5k⟩ := head_kind hh
  have hcn : cntL s.f3 ≤ 1000 := by rw [cntS_eq] at hc; omega
  have hargs := argsT_ok K hK s.f3 ha hcn
  obtain ⟨k, f1, f2, l3, l4, l5⟩ := s
  dsimp only at *
  have g1 : lst (⟨#[118, 97, 114, 32]⟩ : ByteArray) = [118, 97, 114, 32] := rfl
  have g2 : lst (⟨#[32, 61, 32]⟩ : ByteArray) = [32, 61, 32] := rfl
  have g3 : lst (⟨#[59]⟩ : ByteArray) = [59] := rfl
  have g4 : lst (⟨#[59, 10]⟩ : ByteArray) = [59, 10] := rfl
  have g5 : lst (⟨#[109, 91]⟩ : ByteArray) = [109, 91] := rfl
  have g6 : lst (⟨#[93, 32, 61, 32]⟩ : ByteArray) = [93, 32, 61, 32] := rfl
  have g7 : lst (⟨#[101, 109, 105, 116, 32]⟩ : ByteArray) = [101, 109, 105, 116, 32] := rfl
  have g8 : lst (⟨#[102, 97, 105, 108, 32]⟩ : ByteArray) = [102, 97, 105, 108, 32] := rfl
  have g9 : lst (⟨#[105, 110, 116, 111, 32]⟩ : ByteArray) = [105, 110, 116, 111, 32] := rfl
  have g10 : lst (⟨#[32]⟩ : ByteArray) = [32] := rfl
  have g11 : lst (⟨#[115, 116, 111, 112, 59]⟩ : ByteArray) = [115, 116, 111, 112, 59] := rfl
  have g12 : lst (⟨#[115, 116, 111, 112, 59, 10]⟩ : ByteArray) = [115, 116, 111, 112, 59, 10] := rfl
  have g13 : lst (⟨#[119, 104, 105, 108, 101, 32, 40]⟩ : ByteArray) = [119, 104, 105, 108, 101, 32, 40] := rfl
  have g14 : lst (⟨#[41, 32, 123]⟩ : ByteArray) = [41, 32, 123] := rfl
  have g15 : lst (⟨#[41, 32, 123, 10]⟩ : ByteArray) = [41, 32, 123, 10] := rfl
  have g16 : lst (⟨#[125]⟩ : ByteArray) = [125] := rfl
  have g17 : lst (⟨#[125, 10]⟩ : ByteArray) = [125, 10] := rfl
  have g18 : lst (⟨#[]⟩ : ByteArray) = [] := rfl
  have one : l3.length = 1 → ∃ x, l3 = [x] := fun h => List.length_eq_one_iff.1 h
  rcases want_cases k with ⟨_, e⟩ | ⟨W', nm', e, _, hk⟩
  · rw [e] at hw; cases hw
  · rw [e] at hw
    obtain ⟨rfl, rfl⟩ := Prod.mk.inj (Option.some.inj hw)
    unfold stG stF
    dsimp only
    rw [if_pos ⟨by omega, by omega, by omega⟩, hargs, Option.bind_some]
    rcases hk with ⟨rfl, e1, _⟩ | ⟨rfl, e1, _⟩ | ⟨rfl, e1, _⟩ | ⟨rfl, e1, _⟩ | ⟨rfl, e1, _⟩ | ⟨rfl, e1, _⟩ | ⟨rfl, e1, _⟩ | ⟨rfl, e1, _⟩ | ⟨rfl, e1, _⟩
    · obtain ⟨x, rfl⟩ := one (by omega)
      rw [if_pos rfl, show sTx ⟨1, f1, f2, [x], l4, l5⟩ m = (((⟨#[118, 97, 114, 32]⟩ ++ f1) ++ ⟨#[32, 61, 32]⟩) ++ txt x) ++ ⟨#[59, 10]⟩ from rfl]
      show some (lineB (m : Int) _) = _
      simp only [line_at, lst_app, g1, g2, g3, g4, List.map_cons, List.map_nil, List.flatten_cons, List.flatten_nil, List.append_assoc, List.cons_append, List.nil_append, List.append_nil]
    · obtain ⟨x, rfl⟩ := one (by omega)
      rw [if_neg (by decide), if_pos rfl, show sTx ⟨2, f1, f2, [x], l4, l5⟩ m = ((f1 ++ ⟨#[32, 61, 32]⟩) ++ txt x) ++ ⟨#[59, 10]⟩ from rfl]
      show some (lineB (m : Int) _) = _
      simp only [line_at, lst_app, g1, g2, g3, g4, List.map_cons, List.map_nil, List.flatten_cons, List.flatten_nil, List.append_assoc, List.cons_append, List.nil_append, List.append_nil]
    · obtain ⟨x, y, rfl⟩ := two_of l3 (by omega)
      rw [if_neg (by decide), if_neg (by decide), if_pos rfl, show sTx ⟨3, f1, f2, [x, y], l4, l5⟩ m = (((⟨#[109, 91]⟩ ++ txt x) ++ ⟨#[93, 32, 61, 32]⟩) ++ txt y) ++ ⟨#[59, 10]⟩ from rfl]
      show some (lineB (m : Int) _) = _
      simp only [line_at, lst_app, g3, g4, g5, g6, List.map_cons, List.map_nil, List.flatten_cons, List.flatten_nil, List.append_assoc, List.cons_append, List.nil_append, List.append_nil]
    · obtain ⟨x, rfl⟩ := one (by omega)
      rw [if_neg (by decide), if_neg (by decide), if_neg (by decide), if_pos rfl, show sTx ⟨4, f1, f2, [x], l4, l5⟩ m = (⟨#[101, 109, 105, 116, 32]⟩ ++ txt x) ++ ⟨#[59, 10]⟩ from rfl]
      show some (lineB (m : Int) _) = _
      simp only [line_at, lst_app, g3, g4, g7, List.map_cons, List.map_nil, List.flatten_cons, List.flatten_nil, List.append_assoc, List.cons_append, List.nil_append, List.append_nil]
    · obtain ⟨x, rfl⟩ := one (by omega)
      have hnt : num_Text.f f2 = some (bs (textB f2)) := by unfold num_Text.f; rw [if_neg (by have := h5k rfl; omega)]
      rw [if_neg (by decide), if_neg (by decide), if_neg (by decide), if_neg (by decide), if_pos rfl, hnt, Option.bind_some, show sTx ⟨5, f1, f2, [x], l4, l5⟩ m = (((⟨#[105, 110, 116, 111, 32]⟩ ++ bs (textB f2)) ++ ⟨#[32]⟩) ++ txt x) ++ ⟨#[59, 10]⟩ from rfl]
      show some (lineB (m : Int) _) = _
      simp only [line_at, lst_app, g3, g4, g9, g10, List.map_cons, List.map_nil, List.flatten_cons, List.flatten_nil, List.append_assoc, List.cons_append, List.nil_append, List.append_nil]
    · obtain ⟨x, rfl⟩ := one (by omega)
      rw [if_neg (by decide), if_neg (by decide), if_neg (by decide), if_neg (by decide), if_neg (by decide), if_neg (by decide), if_neg (by decide), if_neg (by decide), if_pos rfl]
      show br (m : Int) ⟨#[]⟩ _ (txt x) = _
      rw [q6 x rfl rfl hm hf hc, g18, List.nil_append]
    · obtain ⟨x, rfl⟩ := one (by omega)
      rw [if_neg (by decide), if_neg (by decide), if_neg (by decide), if_neg (by decide), if_neg (by decide), if_neg (by decide), if_neg (by decide), if_pos rfl, show sTx ⟨7, f1, f2, [x], l4, l5⟩ m = ((((⟨#[119, 104, 105, 108, 101, 32, 40]⟩ ++ txt x) ++ ⟨#[41, 32, 123, 10]⟩) ++ lTx l4 (m + 1)) ++ blB m) ++ ⟨#[125, 10]⟩ from rfl]
      show ((sBx f ((m : Int) + 1) l4).bind fun b => some (lineB (m : Int) _ ++ (b ++ lineB (m : Int) _))) = _
      rw [q7 rfl hm hf hc, Option.bind_some]
      simp only [line_at, lst_app, g13, g14, g15, g16, g17, List.map_cons, List.map_nil, List.flatten_cons, List.flatten_nil, List.append_assoc, List.cons_append, List.nil_append, List.append_nil]
    · obtain ⟨x, rfl⟩ := one (by omega)
      rw [if_neg (by decide), if_neg (by decide), if_neg (by decide), if_neg (by decide), if_neg (by decide), if_pos rfl, show sTx ⟨8, f1, f2, [x], l4, l5⟩ m = (⟨#[102, 97, 105, 108, 32]⟩ ++ txt x) ++ ⟨#[59, 10]⟩ from rfl]
      show some (lineB (m : Int) _) = _
      simp only [line_at, lst_app, g3, g4, g8, List.map_cons, List.map_nil, List.flatten_cons, List.flatten_nil, List.append_assoc, List.cons_append, List.nil_append, List.append_nil]
    · rw [if_neg (by decide), if_neg (by decide), if_neg (by decide), if_neg (by decide), if_neg (by decide), if_neg (by decide), if_pos rfl, show sTx ⟨9, f1, f2, l3, l4, l5⟩ m = ⟨#[115, 116, 111, 112, 59, 10]⟩ from rfl]
      simp only [line_at, lst_app, g11, g12, List.map_cons, List.map_nil, List.flatten_cons, List.flatten_nil, List.append_assoc, List.cons_append, List.nil_append, List.append_nil]
theorem wr_ok (K : Nat) (hK : ∀ e, cntE e ≤ 1000 → fitE e = true → exT K e = some (txt e)) : ∀ d, WrC (wG K (d + 1)) d
  | 0 => by
    have no6 : ∀ (s : S41), (s.f0 = 6 ∨ s.f0 = 7) → fitSt (fitB 0) s = true → False := by
      intro s h6 hf
      obtain ⟨_, _, hb, _⟩ := fit_open hf
      have := hb (by unfold loopsB; rcases h6 with z | z <;> rw [z] <;> rfl)
      omega
    refine ⟨fun s m hm hf hc => st_txt K hK 0 (wG K 0).1 (brF K (wG K 0).1 (wG K 0).2) (fun s m h7 hm hf hc => (no6 s (.inr h7) hf).elim) (fun s m ahead x h6 h3 hm hf hc => (no6 s (.inl h6) hf).elim) s m hm hf hc, fun s m ahead x h6 h3 hm hf hc => (no6 s (.inl h6) hf).elim⟩
  | d + 1 => by
    have ih := wr_ok K hK d
    have hbr : ∀ (s : S41) (m : Nat) (ahead : ByteArray) (x : S38), s.f0 = 6 → s.f3 = [x] → m + (d + 1) ≤ 20 → fitSt (fitB (d + 1)) s = true → cntS s ≤ 1000 → brF K (wG K (d + 1)).1 (wG K (d + 1)).2 (m : Int) ahead s (txt x) = some (lst (blB m) ++ (lst ahead ++ lst (sTx s m))) :=
      fun s m ahead x h6 h3 hm hf hc => br_txt K hK d (wG K (d + 1)) ih s m ahead x h6 h3 hm hf hc
    refine ⟨fun s m hm hf hc => st_txt K hK (d + 1) (wG K (d + 1)).1 (brF K (wG K (d + 1)).1 (wG K (d + 1)).2) (fun s m h7 hm hf hc => ?_) hbr s m hm hf hc, hbr⟩
    obtain ⟨hh, ha, hb, h4, h5⟩ := fit_open hf
    rw [Nat.add_sub_cancel, List.all_eq_true] at h4
    rw [cntS_eq] at hc
    have mem_cnt : ∀ (l : List S41) (s : S41), s ∈ l → cntS s ≤ cntB l := by
      intro l
      induction l with
      | nil => intro s hs; cases hs
      | cons y ys ih =>
        intro s hs
        simp only [cntB]
        rcases List.mem_cons.1 hs with z | z
        · subst z; omega
        · have := ih s z; omega
    exact sBx_ok (wG K (d + 1)).1 m s.f4 (by omega) (fun x hx => ih.1 x (m + 1) (by omega) (h4 x hx) (by have := mem_cnt s.f4 x hx; omega))
theorem wr_text (K : Nat) (hK : ∀ e, cntE e ≤ 1000 → fitE e = true → exT K e = some (txt e)) (l : List S41) (h : rightB l = true) : sB (wG K 13).1 0 l = some (lst (lTx l 0)) := by
  rw [rightB_eq, Bool.and_eq_true, decide_eq_true_eq] at h
  have hall : ∀ s ∈ l, fitSt (fitB 12) s = true := List.all_eq_true.1 h.1
  refine sB_ok (wG K 13).1 0 l fun s hs => (wr_ok K hK 12).1 s 0 (by omega) (hall s hs) ?_
  have mem_cnt : ∀ (l : List S41) (s : S41), s ∈ l → cntS s ≤ cntB l := by
    intro l
    induction l with
    | nil => intro s hs; cases hs
    | cons y ys ih =>
      intro s hs
      simp only [cntB]
      rcases List.mem_cons.1 hs with z | z
      · subst z; omega
      · have := ih s z; omega
  have := mem_cnt l s hs
  omega
end Go.Proofs.Ytobkdmmnbnpemaa.K
