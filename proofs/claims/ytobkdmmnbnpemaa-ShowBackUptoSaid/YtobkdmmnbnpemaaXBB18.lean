/- Texts of the claim, one behind the other. -/
import Derived.Test.YtobkdmmnbnpemaaRows
import Derived.Test.YtobkdmmnbnpemaaXBB06
import Derived.Test.YtobkdmmnbnpemaaXBB16
import Derived.Test.YtobkdmmnbnpemaaXBB14
import Derived.DataShut
import Derived.Deep.Slices
import Derived.Deep.Fields
import Derived.ChangeSame
import Derived.WalkKit
import Derived.ProofKit
set_option maxHeartbeats 16000000
set_option maxRecDepth 100000
namespace Go.Proofs.Ytobkdmmnbnpemaa.K
open Go.ChangeShapes Go.WideShapes Go.Deep Go.RowKit Go.Proofs.YtobkdmmnbnpemaaW.PrintWords
section
variable {H : Type} {enc : TypeId × Value → H} {w : World} {base : Nat} {spare : Nat → Bool} {held : Bool}
theorem ot2_all {α : Type} (pb : α → Bool) (qb : List α → Bool) (q0 : qb [] = true) (q1 : ∀ x xs, qb (x :: xs) = (pb x && qb xs)) : ∀ zs : List α, (∀ (i : Nat) (z : α), zs[i]? = some z → pb z = true) → qb zs = true
 | [], _ => q0
 | z :: zs, h => by
  rw [q1, Bool.and_eq_true]; exact ⟨h 0 z rfl, ot2_all pb qb q0 q1 zs (fun i u hu => h (i + 1) u (by simpa using hu))⟩
theorem wf_big {n : Int} (h : (Lit.int .i64 n).wf = true) : n ≤ bigI := by
 obtain ⟨_, h2⟩ := (Lit.wf_int_iff _ _).1 h; exact h2
theorem ot2_row {α : Type} (d : Kd α) (sz : Nat) (hsz : d.sz = sz) {t e : TypeId} (ht : Try.prog.underlying t = some (.slice e)) (hc : Try.prog.cellsOf e = sz) (f : α → Nat) (g : List α → Nat) (g0 : g [] = 0) (g1 : ∀ x xs, g (x :: xs) = f x + g xs) (pb : α → Bool) (qb : List α → Bool) (q0 : qb [] = true) (q1 : ∀ x xs, qb (x :: xs) = (pb x && qb xs)) (N : Nat)
  (ih : ∀ (n : Nat) (cs : List Value) (x : DataW H × List MemPlace), DataW.trod enc Try.prog w base spare held n e cs = some x → Rows.uptoBulk x.1 ≤ N → ∃ z : α, d.K w z cs ∧ (f z ≤ Rows.uptoBulk x.1 ∧ pb z = true))
  {n : Nat} {v : Value} {x : DataW H × List MemPlace} (h : DataW.trod enc Try.prog w base spare held n t [v] = some x) (hN : Rows.uptoBulk x.1 ≤ N) :
  ∃ (A : Option Addr) (c : Nat) (zs : List α), v = .slice A zs.length c ∧ Kd.C d w A zs.length zs ∧ zs.length ≤ c ∧ g zs + 1 ≤ Rows.uptoBulk x.1 ∧ qb zs = true := by
 rcases open_slice ht h with ⟨hcs, hx⟩ | ⟨a, len, cap, m, n', D, Pl, hcs, hb, hl, hm, hmm, hx, hi⟩
 ·simp only [List.cons.injEq, and_true] at hcs
  subst hcs; exact ⟨none, 0, [], rfl, ⟨rfl, by simp, fun h => absurd h (by simp)⟩, by simp, by rw [g0]; exact ot_one _, q0⟩
 ·simp only [List.cons.injEq, and_true] at hcs
  subst hcs; have hlm : len ≤ m := by rw [hmm]; split <;> omega
  have hel : Rows.uptoBulkAll ((List.range len).map D) + 1 ≤ Rows.uptoBulk x.1 := by
   rw [hx]; simp only [Rows.uptoBulk]
   omega
  have hD : ∀ i, i < len → D i ∈ (List.range len).map D := fun i hil => List.mem_map.2 ⟨i, List.mem_range.2 hil, rfl⟩
  have hall : ∀ i, i < len → ∃ z : α, (∃ cs', w.cells? base (a.add (i * sz)) sz = some cs' ∧ d.K w z cs') ∧ (f z ≤ Rows.uptoBulk (D i) ∧ pb z = true) := by
   intro i hil; obtain ⟨cs', hc', ht'⟩ := hi i (by omega); rw [hc] at hc'; obtain ⟨z, hz, hf⟩ := ih n' cs' (D i, Pl i) ht' (by have := ot_part (hD i hil); show Rows.uptoBulk (D i) ≤ N; omega); exact ⟨z, ⟨cs', hc', hz⟩, hf⟩
  obtain ⟨zs, hz, hzs⟩ := ot_list len _ hall; subst hz; refine ⟨some a, cap, zs, rfl, ⟨rfl, by unfold maxLen at hm; omega, fun _ => ⟨a, rfl, fun j p hp => ?_⟩⟩, hl, ?_, ot2_all pb qb q0 q1 zs fun i z h => (hzs i z h).2.2⟩
  ·obtain ⟨⟨cs', hc', hz'⟩, _⟩ := hzs j p hp
   obtain ⟨_, hcl, hat⟩ := World.cells?_some hc'; refine ⟨cs', by rw [hsz]; exact hcl, hz', fun i u hu => ?_⟩
   have hi5 : i < sz := by
    rcases Nat.lt_or_ge i sz with q | q
    ·exact q
    ·rw [List.getElem?_eq_none (by omega)] at hu; cases hu
   have h2 := hat i hi5; rw [Go.Deep.add_add] at h2; rw [hsz, h2, hu]
  ·refine Nat.le_trans (Nat.succ_le_succ (ot_sum f g g0 g1 zs ((List.range zs.length).map D) (by simp) fun i z d' h1 h2 => ?_)) hel
   have hil : i < zs.length := (List.getElem?_eq_some_iff.1 h1).1; have e : ((List.range zs.length).map D)[i]? = some (D i) := by simp [hil]
   rw [e] at h2; have := xsi h2; subst this; exact (hzs i z h1).2.1
theorem ot2_E : ∀ (N n : Nat) (cs : List Value) (x : DataW H × List MemPlace), DataW.trod enc Try.prog w base spare held n 38 cs = some x → Rows.uptoBulk x.1 ≤ N → ∃ z : S38, k38.K w z cs ∧ (6 * cntE z ≤ Rows.uptoBulk x.1 ∧ rgE z = true) := by
 intro N
 induction N with
 | zero =>
  intro n cs x h hN; obtain ⟨ys, n', hn', hy, hlen, hyl, hf⟩ := DataW.trod_struct Try.underlying38 h; rw [hy] at hN; simp only [Rows.uptoBulk] at hN
  omega
 | succ N ih =>
  intro n cs x h hN; obtain ⟨ys, n', hn', hy, hlen, hyl, hf⟩ := DataW.trod_struct Try.underlying38 h; have hC : Try.prog.cellsOf 38 = 5 := cells38; rw [hC] at hlen
  match cs, hlen, ys, hyl with
  | [v0, v1, v2, v3, v4], _, [y0, y1, y2, y3, y4], _ =>
   have t0 : DataW.trod enc Try.prog w base spare held n' 35 [v0] = some y0 := hf 0 _ rfl; have t1 : DataW.trod enc Try.prog w base spare held n' 2 [v1] = some y1 := hf 1 _ rfl; have t2 : DataW.trod enc Try.prog w base spare held n' 9 [v2] = some y2 := hf 2 _ rfl; have t3 : DataW.trod enc Try.prog w base spare held n' 30 [v3] = some y3 := hf 3 _ rfl; have t4 : DataW.trod enc Try.prog w base spare held n' 36 [v4] = some y4 := hf 4 _ rfl; obtain ⟨n0, e0, x0, _⟩ := DataW.trod_int Try.underlying35 t0; obtain ⟨n1, e1, x1, wf1⟩ := DataW.trod_int Try.underlying2 t1; obtain ⟨s2, e2, x2, _⟩ := DataW.trod_string Try.underlying9 t2; obtain ⟨n3, e3, x3, _⟩ := DataW.trod_int Try.underlying30 t3; simp only [List.cons.injEq, and_true] at e0 e1 e2 e3; subst e0 e1 e2 e3
   have hb4 : Rows.uptoBulk y4.1 + 5 ≤ Rows.uptoBulk x.1 := by
    rw [hy]; have h0 := ot_one y0.1; have h1 := ot_one y1.1; have h2 := ot_one y2.1; have h3 := ot_one y3.1; simp only [List.map_cons, List.map_nil, Rows.uptoBulk, Rows.uptoBulkAll]
    omega
   obtain ⟨A, c, zs, rfl, hr, hc, hg, hq⟩ := ot2_row k38 5 rfl Try.underlying36 hC (fun z => 6 * cntE z) (fun l => 6 * cntL l) rfl (fun x xs => by show 6 * (cntE x + cntL xs) = _; omega) rgE rgL rfl (fun x xs => rfl) N ih t4 (by omega)
   refine ⟨⟨n0, n1, s2, n3, zs⟩, k38_mk w ⟨n0, n1, s2, n3, zs⟩ hc hr, ?_, ?_⟩
   ·simp only [cntE]
    omega
   ·simp only [rgE, Bool.and_eq_true, decide_eq_true_eq]
    exact ⟨wf_big wf1, hq⟩
theorem ot2_S : ∀ (N n : Nat) (cs : List Value) (x : DataW H × List MemPlace), DataW.trod enc Try.prog w base spare held n 41 cs = some x → Rows.uptoBulk x.1 ≤ N → ∃ z : S41, k41.K w z cs ∧ (6 * (1 + cntS z) ≤ Rows.uptoBulk x.1 ∧ rgS z = true) := by
 intro N
 induction N with
 | zero =>
  intro n cs x h hN; obtain ⟨ys, n', hn', hy, hlen, hyl, hf⟩ := DataW.trod_struct Try.underlying41 h; rw [hy] at hN; simp only [Rows.uptoBulk] at hN
  omega
 | succ N ih =>
  intro n cs x h hN; obtain ⟨ys, n', hn', hy, hlen, hyl, hf⟩ := DataW.trod_struct Try.underlying41 h; have hC : Try.prog.cellsOf 41 = 6 := cells41; have hC8 : Try.prog.cellsOf 38 = 5 := cells38; rw [hC] at hlen
  match cs, hlen, ys, hyl with
  | [v0, v1, v2, v3, v4, v5], _, [y0, y1, y2, y3, y4, y5], _ =>
   have t0 : DataW.trod enc Try.prog w base spare held n' 39 [v0] = some y0 := hf 0 _ rfl; have t1 : DataW.trod enc Try.prog w base spare held n' 9 [v1] = some y1 := hf 1 _ rfl; have t2 : DataW.trod enc Try.prog w base spare held n' 3 [v2] = some y2 := hf 2 _ rfl; have t3 : DataW.trod enc Try.prog w base spare held n' 36 [v3] = some y3 := hf 3 _ rfl; have t4 : DataW.trod enc Try.prog w base spare held n' 22 [v4] = some y4 := hf 4 _ rfl; have t5 : DataW.trod enc Try.prog w base spare held n' 22 [v5] = some y5 := hf 5 _ rfl; obtain ⟨n0, e0, x0, _⟩ := DataW.trod_int Try.underlying39 t0; obtain ⟨s1, e1, x1, _⟩ := DataW.trod_string Try.underlying9 t1; obtain ⟨n2, e2, x2, _⟩ := DataW.trod_int Try.underlying3 t2; simp only [List.cons.injEq, and_true] at e0 e1 e2; subst e0 e1 e2
   have hb4 : Rows.uptoBulk y3.1 + (Rows.uptoBulk y4.1 + Rows.uptoBulk y5.1) + 4 ≤ Rows.uptoBulk x.1 := by
    rw [hy]; have h0 := ot_one y0.1; have h1 := ot_one y1.1; have h2 := ot_one y2.1; simp only [List.map_cons, List.map_nil, Rows.uptoBulk, Rows.uptoBulkAll]
    omega
   obtain ⟨A3, c3, z3, rfl, hr3, hc3, hg3, hq3⟩ := ot2_row k38 5 rfl Try.underlying36 hC8 (fun z => 6 * cntE z) (fun l => 6 * cntL l) rfl (fun x xs => by show 6 * (cntE x + cntL xs) = _; omega) rgE rgL rfl (fun x xs => rfl) _ (ot2_E (enc := enc) (w := w) (base := base) (spare := spare) (held := held) N) t3 (by omega)
   obtain ⟨A4, c4, z4, rfl, hr4, hc4, hg4, hq4⟩ := ot2_row k41 6 rfl Try.underlying22 hC (fun z => 6 * (1 + cntS z)) (fun l => 6 * cntB l) rfl (fun x xs => by show 6 * (1 + cntS x + cntB xs) = _; omega) rgS rgB rfl (fun x xs => rfl) N ih t4 (by omega)
   obtain ⟨A5, c5, z5, rfl, hr5, hc5, hg5, hq5⟩ := ot2_row k41 6 rfl Try.underlying22 hC (fun z => 6 * (1 + cntS z)) (fun l => 6 * cntB l) rfl (fun x xs => by show 6 * (1 + cntS x + cntB xs) = _; omega) rgS rgB rfl (fun x xs => rfl) N ih t5 (by omega)
   refine ⟨⟨n0, s1, n2, z3, z4, z5⟩, k41_mk w ⟨n0, s1, n2, z3, z4, z5⟩ hc3 hr3 hc4 hr4 hc5 hr5, ?_, ?_⟩
   ·simp only [cntS]
    omega
   ·simp only [rgS, Bool.and_eq_true]
    exact ⟨hq3, hq4, hq5⟩
end
theorem open_stmts2 {H : Type} {enc : TypeId × Value → H} {w : World} {base : Nat} {held : Bool} {v : Value} {d : DataW H} {p : List MemPlace} (h : DataW.Trod enc Try.prog w base (fun _ => true) held 22 v d p) (hv : v.cells = #[v]) :
  ∃ (A : Option Addr) (c : Nat) (l : List S41), v = .slice A l.length c ∧ Kd.C k41 w A l.length l ∧ l.length ≤ c ∧ 6 * cntB l ≤ Rows.uptoBulk d ∧ rgB l = true := by
 obtain ⟨n, hn⟩ := h; rw [hv] at hn; have hC : Try.prog.cellsOf 41 = 6 := cells41; obtain ⟨A, c, zs, e, hr, hc, hg, hq⟩ := ot2_row k41 6 rfl Try.underlying22 hC (fun z => 6 * (1 + cntS z)) (fun l => 6 * cntB l) rfl (fun x xs => by show 6 * (1 + cntS x + cntB xs) = _; omega) rgS rgB rfl (fun x xs => rfl) _ (ot2_S (enc := enc) (w := w) (base := base) (spare := fun _ => true) (held := held) _) hn (xlr _)
 exact ⟨A, c, zs, e, hr, hc, by have := (show 6 * cntB zs + 1 ≤ Rows.uptoBulk d from hg); omega, hq⟩
end Go.Proofs.Ytobkdmmnbnpemaa.K
