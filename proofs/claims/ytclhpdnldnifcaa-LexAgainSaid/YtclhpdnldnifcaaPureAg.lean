/- The plain law of LexAgain. -/
import Derived.Test.YtclhpdnldnifcaaPureG
import Derived.Test.YtclhpdnldnifcaaLAgain
namespace Go.Proofs.Ytclhpdnldnifcaa.K
open Go.RowKit Go.Proofs.YtclhpdnldnifcaaW.PrintWords Go.Proofs.YtclhpdnldnifcaaW.PrintLast Go.Proofs.YtclhpdnldnifcaaW.PrintMore
set_option linter.unusedVariables false
set_option linter.unusedSimpArgs false

theorem rd_drop (L : List S33) (i : Nat) (x : S33) (xs : List S33) (h : L.drop i = x :: xs) : rd_T33 L (i : Int) = x ∧ i < L.length ∧ L.drop (i + 1) = xs := by
  have hl : i < L.length := by
    by_cases q : i < L.length
    · exact q
    · rw [List.drop_eq_nil_of_le (by omega)] at h; simp at h
  rw [List.drop_eq_getElem_cons hl] at h
  injection h with h1 h2
  refine ⟨?_, hl, h2⟩
  unfold rd_T33
  rw [Int.toNat_natCast, List.getD_eq_getElem?_getD, List.getElem?_eq_getElem hl, h1]
  rfl
theorem ba_lst (a b : ByteArray) : lst (a ++ b) = lst a ++ lst b := by unfold lst; simp
theorem lst_inj {a b : ByteArray} (h : lst a = lst b) : a = b := by rw [← bs_lst a, ← bs_lst b, h]
theorem bs_app (a b : List UInt8) : bs (a ++ b) = bs a ++ bs b := lst_inj (by rw [lst_bs, ba_lst, lst_bs, lst_bs])
def gaps : List ByteArray := [(⟨#[32]⟩ : ByteArray), (⟨#[10]⟩ : ByteArray), (⟨#[35, 32, 97, 32, 39, 32, 36, 32, 55, 97, 10]⟩ : ByteArray), (⟨#[9, 13, 10]⟩ : ByteArray), (⟨#[32, 32]⟩ : ByteArray)]
structure GapL (g : List UInt8) : Prop where
  skip : ∀ X, skipL false (g ++ X) = skipL false X
  head : ∃ d m, g = d :: m ∧ StopB d
  len : g.length ≤ 11
theorem stop32 : StopB 32 := ⟨by decide, by decide, by decide, by decide⟩
theorem stop10 : StopB 10 := ⟨by decide, by decide, by decide, by decide⟩
theorem stop35 : StopB 35 := ⟨by decide, by decide, by decide, by decide⟩
theorem stop9 : StopB 9 := ⟨by decide, by decide, by decide, by decide⟩
theorem gap_ok (q : Int) (h0 : 0 ≤ q) (h1 : q < 5) : GapL (lst (rdOf ByteArray.empty gaps q)) := by
  have : q = 0 ∨ q = 1 ∨ q = 2 ∨ q = 3 ∨ q = 4 := by omega
  rcases this with rfl | rfl | rfl | rfl | rfl
  · exact ⟨fun X => rfl, ⟨_, _, rfl, stop32⟩, by decide⟩
  · exact ⟨fun X => rfl, ⟨_, _, rfl, stop10⟩, by decide⟩
  · exact ⟨fun X => rfl, ⟨_, _, rfl, stop35⟩, by decide⟩
  · exact ⟨fun X => rfl, ⟨_, _, rfl, stop9⟩, by decide⟩
  · exact ⟨fun X => rfl, ⟨_, _, rfl, stop32⟩, by decide⟩

/-! ### Join -/
theorem join_loop (L : List S33) (n : Nat) (hL : L.length ≤ 100000) : ∀ (ts : List (Tok × Nat)) (i : Nat) (x : ByteArray), L.drop i = ts.map (s33 n) ++ [endTok n] → (∀ t ∈ ts, Good t.1 ∧ t.1.tx.length ≤ 8192 ∧ t.1.kd ≠ 0) → x.size + ts.length * 8204 ≤ 1000000000 →
    ∃ r, Lay (ts.map (·.1)) r ∧ (lst x ≠ [] → StopL r) ∧ ∀ k, lex_Join.l0 (k + ts.length + 2) x L (L.length : Int) (i : Int) = some (x ++ bs r)
  | [], i, x, h, hg, hs => by
    obtain ⟨h1, h2, h3⟩ := rd_drop L i _ _ h
    have hlen : i + 1 = L.length := by
      have := congrArg List.length h
      simp at this
      omega
    refine ⟨[], Lay.nil _ rfl, fun _ => Or.inl rfl, fun k => ?_⟩
    show lex_Join.l0 (k + 1 + 1) x L (L.length : Int) (i : Int) = _
    rw [lex_Join.l0, if_pos (by omega), if_pos (by omega), if_pos (by omega), h1, if_pos (by rfl), wrap64_nat i (by omega), lex_Join.l0, if_neg (by omega)]
    have : bs [] = ByteArray.empty := rfl
    rw [this, ByteArray.append_empty]
  | t :: ts, i, x, h, hg, hs => by
    rw [List.map_cons, List.cons_append] at h
    obtain ⟨h1, h2, h3⟩ := rd_drop L i _ _ h
    obtain ⟨g1, g2, g3⟩ := hg t (by simp)
    have hg' : ∀ t ∈ ts, Good t.1 ∧ t.1.tx.length ≤ 8192 ∧ t.1.kd ≠ 0 := fun y hy => hg y (by simp [hy])
    have hw := wrap64_nat i (by omega)
    have hxl : x.toList = lst x := toList_eq x
    have hts : (bs t.1.tx).size = t.1.tx.length := bs_size _
    have hf1 : (s33 n t).f1 = bs t.1.tx := rfl
    have hf0 : (s33 n t).f0 = t.1.kd := rfl
    simp only [List.length_cons] at hs
    have htne : t.1.tx ≠ [] := by obtain ⟨c, y, hy, _⟩ := g1; rw [hy]; simp
    by_cases c : lst x = []
    · have hx0 : x = ByteArray.empty := lst_inj (by rw [c]; rfl)
      have hx0s : x.size = 0 := by rw [← lst_len, c]; rfl
      obtain ⟨r, r1, r2, r3⟩ := join_loop L n hL ts (i + 1) (x ++ bs t.1.tx) h3 hg' (by rw [ByteArray.size_append, hts]; omega)
      refine ⟨[] ++ (t.1.tx ++ r), Lay.cons _ _ _ _ g1 (fun X => rfl) (r2 (by rw [ba_lst, lst_bs]; simp [htne])) r1, fun q => absurd c q, fun k => ?_⟩
      show lex_Join.l0 (k + ts.length + 2 + 1) x L (L.length : Int) (i : Int) = _
      rw [lex_Join.l0, if_pos (by omega), if_pos (by omega), if_pos (by omega), h1, hf0, hf1, if_neg g3, hxl, if_pos c, if_pos (by omega), hw, r3 k]
      rw [List.nil_append, bs_app, ByteArray.append_assoc]
    · obtain ⟨r, r1, r2, r3⟩ := join_loop L n hL ts (i + 1) (x ++ (⟨#[32]⟩ : ByteArray) ++ bs t.1.tx) h3 hg' (by rw [ByteArray.size_append, ByteArray.size_append, hts]; have : (⟨#[32]⟩ : ByteArray).size = 1 := rfl; omega)
      refine ⟨[32] ++ (t.1.tx ++ r), Lay.cons _ _ _ _ g1 (fun X => rfl) (r2 (by rw [ba_lst, lst_bs]; simp [htne])) r1, fun q => Or.inr ⟨32, _, rfl, stop32⟩, fun k => ?_⟩
      show lex_Join.l0 (k + ts.length + 2 + 1) x L (L.length : Int) (i : Int) = _
      have h32 : (⟨#[32]⟩ : ByteArray).size = 1 := rfl
      rw [lex_Join.l0, if_pos (by omega), if_pos (by omega), if_pos (by omega), h1, hf0, hf1, if_neg g3, hxl, if_neg c, if_pos (by omega), if_pos (by rw [ByteArray.size_append, h32, hts]; omega), hw, r3 k]
      have : bs [32] = (⟨#[32]⟩ : ByteArray) := rfl
      rw [bs_app, bs_app, this, ByteArray.append_assoc, ByteArray.append_assoc]

/-! ### The law's own loop -/
theorem step_ag (l1 : List Int) (L : List S33) (x : ByteArray) (i : Nat) (hi : i < L.length) (hL : L.length ≤ 100000) (hl : l1.length ≤ 140737488351232) (hx : x.size ≤ 1000000000) (ht : ((rd_T33 L (i : Int)).f1).size ≤ 8192) :
    ∃ g : ByteArray, GapL (lst g) ∧ ∀ k, outriderlaw03_LexAgain.l0 (k + 1) l1 L gaps x (i : Int) = outriderlaw03_LexAgain.l0 k l1 L gaps (x ++ g ++ (rd_T33 L (i : Int)).f1) ((i + 1 : Nat) : Int) := by
  have hw := wrap64_nat i (by omega)
  have h5 : (gaps.length : Int) = 5 := rfl
  have fin : ∀ q : Int, 0 ≤ q → q < 5 → GapL (lst (rdOf ByteArray.empty gaps q)) ∧ (x.size + (rdOf ByteArray.empty gaps q).size ≤ 9223372036854775807) ∧ ((x ++ rdOf ByteArray.empty gaps q).size + ((rd_T33 L (i : Int)).f1).size ≤ 9223372036854775807) := by
    intro q q0 q1
    have hg := gap_ok q q0 q1
    have h11 := hg.len
    rw [lst_len] at h11
    exact ⟨hg, by omega, by rw [ByteArray.size_append]; omega⟩
  by_cases c : (l1.length : Int) > 0
  · have hm0 : 0 ≤ Int.tmod (i : Int) (l1.length : Int) := Int.tmod_nonneg _ (by omega)
    have hm1 : Int.tmod (i : Int) (l1.length : Int) < (l1.length : Int) := Int.tmod_lt_of_pos _ c
    generalize hv : rd l1 (Int.tmod (i : Int) (l1.length : Int)) = v
    have hv1 : -5 < Int.tmod v 5 := by
      have := Int.lt_tmod_of_pos v (b := 5) (by omega)
      omega
    have hv2 : Int.tmod v 5 < 5 := Int.tmod_lt_of_pos v (by omega)
    by_cases d : Int.tmod v 5 < 0
    · have hwq : wrap64 (Int.tmod v 5 + 5) = Int.tmod v 5 + 5 := by
        generalize Int.tmod v 5 = q at *
        unfold wrap64
        omega
      obtain ⟨f1, f2, f3⟩ := fin (Int.tmod v 5 + 5) (by omega) (by omega)
      refine ⟨_, f1, fun k => ?_⟩
      rw [outriderlaw03_LexAgain.l0, if_pos (by omega), if_pos c, if_neg (by omega), if_pos hm0, if_pos hm1, hv, h5, if_neg (by omega), if_pos d, hwq, if_pos (by omega), if_pos (by omega), if_pos f2, if_pos (by omega), if_pos f3, hw]
    · obtain ⟨f1, f2, f3⟩ := fin (Int.tmod v 5) (by omega) (by omega)
      refine ⟨_, f1, fun k => ?_⟩
      rw [outriderlaw03_LexAgain.l0, if_pos (by omega), if_pos c, if_neg (by omega), if_pos hm0, if_pos hm1, hv, h5, if_neg (by omega), if_neg d, if_pos (by omega), if_pos (by omega), if_pos f2, if_pos (by omega), if_pos f3, hw]
  · obtain ⟨f1, f2, f3⟩ := fin 0 (by omega) (by omega)
    refine ⟨_, f1, fun k => ?_⟩
    rw [outriderlaw03_LexAgain.l0, if_pos (by omega), if_neg c, if_neg (by omega), h5, if_pos (by omega), if_pos f2, if_pos (by omega), if_pos f3, hw]
theorem ag_loop (l1 : List Int) (L : List S33) (n : Nat) (hL : L.length ≤ 100000) (hl : l1.length ≤ 140737488351232) : ∀ (ts : List (Tok × Nat)) (i : Nat) (x : ByteArray), L.drop i = ts.map (s33 n) ++ [endTok n] → (∀ t ∈ ts, Good t.1 ∧ t.1.tx.length ≤ 8192 ∧ t.1.kd ≠ 0) → x.size + ts.length * 8204 ≤ 1000000000 →
    ∃ r, Lay (ts.map (·.1)) r ∧ StopL r ∧ ∀ k, outriderlaw03_LexAgain.l0 (k + ts.length + 1) l1 L gaps x (i : Int) = outriderlaw03_LexAgain.l0 k l1 L gaps (x ++ bs r) (L.length : Int)
  | [], i, x, h, hg, hs => by
    obtain ⟨h1, h2, h3⟩ := rd_drop L i _ _ h
    have hlen : i + 1 = L.length := by
      have := congrArg List.length h
      simp at this
      omega
    obtain ⟨g, g1, g2⟩ := step_ag l1 L x i h2 hL hl (by omega) (by rw [h1]; exact Nat.zero_le _)
    obtain ⟨d, m, hd, hdm⟩ := g1.head
    refine ⟨lst g, Lay.nil _ ?_, Or.inr ⟨d, m, hd, hdm⟩, fun k => ?_⟩
    · have := g1.skip []
      rw [List.append_nil] at this
      rw [this]; rfl
    · show outriderlaw03_LexAgain.l0 (k + 1) l1 L gaps x (i : Int) = _
      rw [g2, h1, hlen, bs_lst]
      have : (endTok n).f1 = ByteArray.empty := rfl
      rw [this, ByteArray.append_empty]
  | t :: ts, i, x, h, hg, hs => by
    rw [List.map_cons, List.cons_append] at h
    obtain ⟨h1, h2, h3⟩ := rd_drop L i _ _ h
    obtain ⟨a1, a2, a3⟩ := hg t (by simp)
    have hg' : ∀ t ∈ ts, Good t.1 ∧ t.1.tx.length ≤ 8192 ∧ t.1.kd ≠ 0 := fun y hy => hg y (by simp [hy])
    have hts : (bs t.1.tx).size = t.1.tx.length := bs_size _
    have hf1 : (s33 n t).f1 = bs t.1.tx := rfl
    simp only [List.length_cons] at hs
    obtain ⟨g, g1, g2⟩ := step_ag l1 L x i h2 hL hl (by omega) (by rw [h1, hf1, hts]; exact a2)
    have h11 := g1.len
    rw [lst_len] at h11
    obtain ⟨r, r1, r2, r3⟩ := ag_loop l1 L n hL hl ts (i + 1) (x ++ g ++ bs t.1.tx) h3 hg' (by rw [ByteArray.size_append, ByteArray.size_append, hts]; omega)
    obtain ⟨d, m, hd, hdm⟩ := g1.head
    refine ⟨lst g ++ (t.1.tx ++ r), Lay.cons _ _ _ _ a1 g1.skip r2 r1, Or.inr ⟨d, m ++ (t.1.tx ++ r), by rw [hd]; rfl, hdm⟩, fun k => ?_⟩
    show outriderlaw03_LexAgain.l0 (k + ts.length + 1 + 1) l1 L gaps x (i : Int) = _
    rw [g2, h1, hf1, r3 k, bs_app, bs_app, bs_lst, ByteArray.append_assoc, ByteArray.append_assoc]
theorem LexAgain : outriderlaw03_LexAgain.Pure := by
  intro s l1 hs h1 h2 h3
  obtain ⟨ka, ha⟩ := alive_ok
  have am : ∀ k, outriderlaw03_alive.f (ka + k) = some true := fun k => at_rounds (g := fun k => outriderlaw03_alive.f k) (fun k => outriderlaw03_alive.mono k) (by omega) ha
  by_cases c : 8192 < s.size
  · refine ⟨ka, ?_⟩
    have e : cutP s = ([], 0, 30) := by unfold cutP; rw [if_pos c]
    unfold outriderlaw03_LexAgain.f
    rw [cut_f, e]
    simp only [Option.bind_some]
    rw [if_neg (by omega), ha]
    rfl
  · have e := cutP_small s c
    have hgd := cut_good (s.size + 1) (lst s)
    have hlen := cutL_len (s.size + 1) (lst s)
    have herr := cut_err (s.size + 1) (lst s)
    cases hq : cutL (s.size + 1) (lst s) with
    | mk ts er =>
      rw [hq] at e hgd hlen herr
      rw [lst_len] at hgd hlen
      cases er with
      | some ep =>
        obtain ⟨er, p⟩ := ep
        refine ⟨ka, ?_⟩
        unfold outriderlaw03_LexAgain.f
        rw [cut_f, e]
        simp only [Option.bind_some]
        rw [if_neg (herr er p rfl), ha]
        rfl
      | none =>
        simp only at e hlen hgd
        have hg : ∀ t ∈ ts, Good t.1 ∧ t.1.tx.length ≤ 8192 ∧ t.1.kd ≠ 0 := fun t ht => ⟨(hgd t ht).1, by have := (hgd t ht).2.1; omega, (hgd t ht).2.2⟩
        have hLl : (ts.map (s33 s.size) ++ [endTok s.size]).length ≤ 100000 := by simp; omega
        obtain ⟨r, r1, _, r3⟩ := join_loop _ s.size hLl ts 0 (⟨#[]⟩ : ByteArray) rfl hg (by have : (⟨#[]⟩ : ByteArray).size = 0 := rfl; omega)
        obtain ⟨q, q1, _, q3⟩ := ag_loop l1 _ s.size hLl (by omega) ts 0 (⟨#[]⟩ : ByteArray) rfl hg (by have : (⟨#[]⟩ : ByteArray).size = 0 := rfl; omega)
        have emp : ∀ z : ByteArray, (⟨#[]⟩ : ByteArray) ++ z = z := fun z => lst_inj (by rw [ba_lst]; rfl)
        simp only [emp] at r3 q3
        -- the loop's end
        have hend : ∀ k, outriderlaw03_LexAgain.l0 (ka + k + 1) l1 (ts.map (s33 s.size) ++ [endTok s.size]) gaps (bs q) (((ts.map (s33 s.size) ++ [endTok s.size]).length : Nat) : Int) = some true := by
          intro k
          rw [outriderlaw03_LexAgain.l0, if_neg (by omega), cut_f]
          simp only [Option.bind_some]
          by_cases d : 8192 < (bs q).size
          · have e2 : cutP (bs q) = ([], 0, 30) := by unfold cutP; rw [if_pos d]
            rw [e2, if_pos (by omega), if_pos rfl, am]
            rfl
          · obtain ⟨M, m1, m2⟩ := lay_cut s.size ts (bs q) (by rw [lst_bs]; exact q1) d
            rw [m1, if_neg (by omega), if_pos rfl]
            unfold outriderref03_Same.f
            simp only [Option.bind_some]
            rw [m2, if_pos rfl, am]
            rfl
        have hj0 : ∀ k, outriderlaw03_LexAgain.j0 (ka + k + ts.length + 1 + 1 + 1) l1 (ts.map (s33 s.size) ++ [endTok s.size]) false = some true := by
          intro k
          rw [outriderlaw03_LexAgain.j0, if_neg (by simp)]
          have q4 := q3 (ka + k + 1)
          rw [hend k] at q4
          have e5 : ka + k + 1 + ts.length + 1 = ka + k + ts.length + 1 + 1 := by omega
          rw [e5] at q4
          exact q4
        refine ⟨ka + ts.length + 3, ?_⟩
        unfold outriderlaw03_LexAgain.f
        rw [cut_f, e]
        simp only [Option.bind_some]
        rw [if_pos trivial]
        have ej : lex_Join.f (ka + ts.length + 3) (ts.map (s33 s.size) ++ [endTok s.size]) = some (bs r) := by
          unfold lex_Join.f
          have := r3 (ka + 1)
          have e5 : ka + 1 + ts.length + 2 = ka + ts.length + 3 := by omega
          rw [e5] at this
          exact this
        rw [ej]
        simp only [Option.bind_some]
        rw [cut_f]
        simp only [Option.bind_some]
        have hjf := hj0 0
        have e6 : ka + 0 + ts.length + 1 + 1 + 1 = ka + ts.length + 3 := by omega
        rw [e6] at hjf
        by_cases d : 8192 < (bs r).size
        · rw [if_neg (by omega)]
          exact hjf
        · obtain ⟨M, m1, m2⟩ := lay_cut s.size ts (bs r) (by rw [lst_bs]; exact r1) d
          rw [if_pos (by omega), m1, if_pos rfl]
          unfold outriderref03_Same.f
          simp only [Option.bind_some]
          rw [m2]
          exact hjf
end Go.Proofs.Ytclhpdnldnifcaa.K
