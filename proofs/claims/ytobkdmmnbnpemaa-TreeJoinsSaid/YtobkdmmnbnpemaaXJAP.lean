/- append(v, ys...) of a row of one's own and a row that is read: the sum is read. -/
import Derived.Test.YtobkdmmnbnpemaaXJPD
namespace Go.Proofs.Ytobkdmmnbnpemaa.K
open Go.RowKit Go.Proofs.YtobkdmmnbnpemaaW.PrintWords Go.Proofs.YtobkdmmnbnpemaaW.PrintLast Go.Proofs.YtobkdmmnbnpemaaW.PrintMore
set_option linter.unusedVariables false
set_option linter.unusedSimpArgs false
section
variable {P : Program} {ops : Array Oper} {rest : List Oper} {o : Oper} {a : Act} {Q : Exit → Act → World → Prop} {α : Type}
theorem own_C (d : Kd α) {e : Nat} {w : World} {base : Nat} {v : Value} {xs : List α} (h : OwnRow (d.K w) e d.sz w base v xs) : ∃ A c, v = .slice A xs.length c ∧ xs.length ≤ c ∧ d.C w A xs.length xs := OwnRow.reads h
theorem C_append_rows (d : Kd α) {w0 w2 W : World} (base : Nat) (hw : Region.wanted o (yielded ops a.tmps) = true) (s x : Operand) (t e : TypeId) (z : Value) (bytes : Nat)
    (ho : o.op = .call { callee := .builtin .append, args := #[s, x], argTypes := #[t, t] })
    (ht : P.underlying t = some (.slice e)) (hinfo : (P.info? e).map (fun i => (i.zero, i.size, i.bytes)) = some (some z, d.sz, bytes)) (hz : z.cells.size = d.sz) (hs0 : 0 < d.sz) (hb0 : 0 < bytes)
    (v : Value) (xs ys : List α) (A : Option Addr) (m c : Nat) (ok : Nat → Prop) (hs : a.eval s = v) (hx : a.eval x = .slice A m c)
    (HO : d.R e W w2.heap.size ok v xs) (HR : d.C w2 A m ys) (H2 : Below w2.heap.size w2 W)
    (HB : Below base w0 W) (hbase : base ≤ w2.heap.size) (hl : (xs.length + m) * bytes ≤ 140737488355328)
    (h : ∀ A1 c1 w1, d.C w1 A1 (xs ++ ys).length (xs ++ ys) → (xs ++ ys).length ≤ c1 → Below base w0 w1 → Below w2.heap.size w2 w1 → wpList P ops Q rest (a.put o.dst (.slice A1 (xs ++ ys).length c1)) w1) :
    wpList P ops Q (o :: rest) a W := by
  obtain ⟨i0, hi, hzz⟩ := Option.map_eq_some_iff.1 hinfo; simp only [Prod.mk.injEq] at hzz; obtain ⟨hz0, hz1, hz2⟩ := hzz; have hm : ys.length = m := HR.1; have hlen : xs.length + m ≤ 140737488355328 := Nat.le_trans (Nat.le_mul_of_pos_right _ hb0) hl; have hbW : w2.heap.size ≤ W.heap.size := H2.size; have HRW := Kd.C_below HR H2; obtain ⟨hok, inner, hown, hr⟩ := HO; have hrun : ∃ A1 c1 w1, (Builtin.append_ #[t, t] o.type #[v, .slice A m c]).run P W = .ok (.slice A1 (xs ++ ys).length c1) w1 ∧ d.C w1 A1 (xs ++ ys).length (xs ++ ys) ∧ (xs ++ ys).length ≤ c1 ∧ Below base w0 w1 ∧ Below w2.heap.size w2 w1 := by
    have fin : ∀ v1 w1, OwnRow (d.K w1) e d.sz w1 w2.heap.size v1 (xs ++ ys) → (Builtin.append_ #[t, t] o.type #[v, .slice A m c]).run P W = .ok v1 w1 → W.grownBy w1 v.ownBlock → ∃ A1 c1 w1, (Builtin.append_ #[t, t] o.type #[v, .slice A m c]).run P W = .ok (.slice A1 (xs ++ ys).length c1) w1 ∧ d.C w1 A1 (xs ++ ys).length (xs ++ ys) ∧ (xs ++ ys).length ≤ c1 ∧ Below base w0 w1 ∧ Below w2.heap.size w2 w1 := by
      intro v1 w1 h1 h2 hg; obtain ⟨A1, c1, rfl, hc, hC⟩ := own_C d h1; exact ⟨A1, c1, w1, h2, hC, hc, HB.grown hg (Nat.le_trans hbase hbW) (fun k hk => Nat.le_trans hbase (own_base hown k hk)), H2.grown hg hbW (own_base hown)⟩
    rcases A with _ | ad
    · have h0 : m = 0 := by
        rcases Nat.eq_zero_or_pos m with h0 | h0
        · exact h0
        · obtain ⟨ad, h, _⟩ := HR.2.2 h0
          cases h
      subst h0; obtain rfl : ys = [] := List.eq_nil_of_length_eq_zero hm; refine fin v W ?_ ?_ (World.grownBy.refl W _)
      · rw [List.append_nil]
        exact ⟨inner, hown, hr.imp_ (fun _ _ hq => d.K_of_M hq)⟩
      rcases hown.2 with ⟨rfl, hn⟩ | ⟨g, cap, cur, rfl, _, _, hnc, _⟩
      · simp [Builtin.append_, run_underlying ht, sizeOf, typeInfo, hi, Builtin.lenOf, Builtin.firstCells]
      · simp [Builtin.append_, run_underlying ht, sizeOf, typeInfo, hi, Builtin.lenOf, Builtin.firstCells, hnc, storeCells]
    · obtain ⟨news, hnr, hnc⟩ := ReadsRow.inner_ HRW
      have hone : ∀ u ∈ news, u.oneCell' = true := by
        intro u hu; obtain ⟨q, hq, rfl⟩ := List.mem_iff_getElem.1 hu; have hql : q / d.sz < ys.length := by
          rw [Nat.div_lt_iff_lt_mul hs0]; rw [← hnr.1]; exact hq
        have hc := hnr.2 (q / d.sz) _ (List.getElem?_eq_getElem hql); refine d.K_one hc _ ?_; rw [List.mem_iff_getElem?]; refine ⟨q % d.sz, ?_⟩; rw [List.getElem?_take, if_pos (Nat.mod_lt _ hs0), List.getElem?_drop, Nat.mul_comm, Nat.div_add_mod, List.getElem?_eq_getElem hq]
      obtain ⟨v1, w1, hrun, h2, hg, _, hat⟩ := run_append_own_at (P := P) W w2.heap.size t o.type e i0 z d.sz bytes ht hi hz0 hz1 hz2 hz hs0 v xs.length inner hown ad m c news (by rw [hnr.1, hm]) hnc hone (by simp only [maxLen]; omega) hl hbW
      have hb1 : Below w2.heap.size w2 w1 := H2.grown hg hbW (own_base hown); obtain ⟨news0, hnr0, _⟩ := ReadsRow.inner_ HR; have hrow : Reps (d.K w1) d.sz ys news := by
        have hC1 := Kd.C_below HR hb1; refine ⟨hnr.1, fun j y hj => ?_⟩; obtain ⟨n1, hn1, hc1⟩ := ReadsRow.inner_ hC1; have e1 : n1 = news := by
          apply List.ext_getElem?
          intro q; have hll : n1.length = news.length := by rw [hn1.1, hnr.1]
          rcases Nat.lt_or_ge q news.length with hq | hq
          · have a1 := hc1 q _ (List.getElem?_eq_getElem (by omega : q < n1.length))
            have a2 := hnc q _ (List.getElem?_eq_getElem hq); obtain ⟨n2, hn2, hc2⟩ := ReadsRow.inner_ HR; have hll2 : n2.length = news.length := by rw [hn2.1, hnr.1]
            have a3 := hc2 q _ (List.getElem?_eq_getElem (by omega : q < n2.length)); have b1 := (hb1.cell (World.block_lt_of_cell? _ _ a3)).trans a3; have b2 := (H2.cell (World.block_lt_of_cell? _ _ a3)).trans a3; rw [a1] at b1; rw [a2] at b2; rw [List.getElem?_eq_getElem (by omega : q < n1.length), List.getElem?_eq_getElem hq]; exact b1.trans b2.symm
          · rw [List.getElem?_eq_none (by omega), List.getElem?_eq_none hq]
        rw [← e1]; exact hn1.2 j y hj
      refine fin v1 w1 ⟨inner ++ news, by rw [List.length_append, hm]; exact h2, Kd.reps_append (hr.imp_ (fun p q hq => ?_)) hrow⟩ hrun hg
      exact d.K_of_M (d.M_move (w1 := w1) (fun k hk => hg.block k hk.2.2.1 hk.1.2) (d.M_bound hq))
  obtain ⟨A1, c1, w1, hr1, h1, hc1, hb1, hb2⟩ := hrun; refine wpList_step fun K hK => ?_; rw [if_pos hw]; unfold Oper.wp execOp; simp only [ho, resolve, invoke, builtin, Sem.run_bind, Sem.run_pure, Result.andThen_ok, List.map_toArray, List.map_cons, List.map_nil, hs, hx, hr1]; exact hK _ _ (h A1 c1 w1 h1 hc1 hb1 hb2)
end
end Go.Proofs.Ytobkdmmnbnpemaa.K
