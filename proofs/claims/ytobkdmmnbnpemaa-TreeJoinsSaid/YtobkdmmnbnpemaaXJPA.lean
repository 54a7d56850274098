/- The plain parser whole; it answers on every row of tokens that ends as rows of tokens end. -/
import Derived.Test.YtobkdmmnbnpemaaXJP14
import Derived.Test.YtobkdmmnbnpemaaXJP19
import Derived.Test.YtobkdmmnbnpemaaXJPR4
import Derived.Test.YtobkdmmnbnpemaaXJP9
namespace Go.Proofs.Ytobkdmmnbnpemaa.K
open Go.RowKit Go.Proofs.YtobkdmmnbnpemaaW.PrintWords Go.Proofs.YtobkdmmnbnpemaaW.PrintLast Go.Proofs.YtobkdmmnbnpemaaW.PrintMore
set_option linter.unusedVariables false
def exG (T : List S58) : Nat → (PSt → Option Res) × (Int → PSt → Option Res)
  | 0 => (fun _ => none, fun _ _ => none)
  | h + 1 => (valS T (exG T h).1 (exG T h).2, stepF T (exG T h).1 (exG T h).2 (T.length + 1))
theorem exG_ok (T : List S58) : ∀ h, OneC T (exG T h).1 ∧ AboC T (exG T h).2
  | 0 => ⟨fun s r g A c w h => absurd h (by simp [exG]), fun least s r g A c w h => absurd h (by simp [exG])⟩
  | h + 1 => ⟨one_L T _ (exG_ok T h).1 _ (exG_ok T h).2, above_step T _ (exG_ok T h).1 _ (exG_ok T h).2 _⟩
def stG (T : List S58) (ab : Int → PSt → Option Res) : Nat → PSt → Option SRes
  | 0 => fun _ => none
  | h + 1 => stmtS T ab (wordS T ab (stG T ab h) (T.length + 1))
theorem stG_ok (T : List S58) (ab : Int → PSt → Option Res) (AC : AboC T ab) : ∀ h, StmC T (stG T ab h)
  | 0 => fun s r g A c w h => absurd h (by simp [stG])
  | h + 1 => stmt_whole T ab AC _ (worded_L T ab AC _ (stG_ok T ab AC h) _)
def Tot {α : Type} (N : Int) (o : Option (Except Er α)) (Q : α → Prop) : Prop := ∃ r, o = some r ∧ match r with
  | .ok x => Q x
  | .error e => (0 ≤ e.2 ∧ e.2 ≤ N) ∧ (e.1 = 40 ∨ e.1 = 41 ∨ e.1 = 42)
theorem Tot.mono {α : Type} {N : Int} {o : Option (Except Er α)} {Q Q' : α → Prop} (h : Tot N o Q) (hq : ∀ x, Q x → Q' x) : Tot N o Q' := by
  obtain ⟨r, h1, h2⟩ := h; refine ⟨r, h1, ?_⟩; cases r with
  | ok x => exact hq x h2
  | error e => exact h2
theorem tot_ok {α : Type} {N : Int} {x : α} {Q : α → Prop} (h : Q x) : Tot N (some (.ok x)) Q := ⟨_, rfl, h⟩
theorem tot_err {α : Type} {N : Int} {er at_ : Int} {Q : α → Prop} (h : 0 ≤ at_ ∧ at_ ≤ N) (he : er = 40 ∨ er = 41 ∨ er = 42 := by decide) : Tot N (some (.error (er, at_)) : Option (Except Er α)) Q := ⟨_, rfl, h, he⟩
structure TokT (T : List S58) (N : Int) : Prop where
  pos : 0 < T.length
  last : (rd_T58 T ((T.length : Int) - 1)).f0 = 0
  place : ∀ i : Int, 0 ≤ i → i < T.length → 0 ≤ (rd_T58 T i).f3 ∧ (rd_T58 T i).f3 ≤ N
  num : ∀ i : Int, 0 ≤ i → i < T.length → (rd_T58 T i).f0 = 1 → 0 ≤ (rd_T58 T i).f2
  nam : ∀ i : Int, 0 ≤ i → i < T.length → (rd_T58 T i).f0 = 2 → nameB (lst (rd_T58 T i).f1) = true
theorem isB_kind {t : S58} {s : ByteArray} (h : isB t s = true) : t.f0 ≠ 0 := by
  intro e; unfold isB at h; rw [e] at h; simp at h
theorem TokT.next {T : List S58} {N : Int} (H : TokT T N) {i : Int} (h0 : 0 ≤ i) (h1 : i < T.length) (hk : (rd_T58 T i).f0 ≠ 0) : i + 1 < T.length := by
  rcases Int.lt_or_le (i + 1) T.length with h | h
  · exact h
  · have e : i = (T.length : Int) - 1 := by omega
    rw [e] at hk; exact absurd H.last hk
structure Inv (T : List S58) (s : PSt) : Prop where
  a0 : 0 ≤ s.at_
  a1 : s.at_ < T.length
  n0 : 0 ≤ s.nodes
  n1 : s.nodes ≤ 600
  o0 : 0 ≤ s.op
  o1 : s.op ≤ 48
  b0 : 0 ≤ s.bl
  b1 : s.bl ≤ 12
section
variable {α β : Type} {T : List S58} {N : Int} {s : PSt} {Q : α → Prop}
theorem tot_want {tx : ByteArray} {k : S58 → PSt → Option (Except Er α)} (H : TokT T N) (h0 : 0 ≤ s.at_) (h1 : s.at_ < T.length) (hk : (rd_T58 T s.at_).f0 ≠ 0 → s.at_ + 1 < T.length → Tot N (k (rd_T58 T s.at_) ⟨s.at_ + 1, s.nodes, s.op, s.bl⟩) Q) : Tot N (wantK T s tx k) Q := by
  unfold wantK; rw [if_pos ⟨h0, h1⟩]; cases hq : isB (rd_T58 T s.at_) tx with
  | true => rw [if_pos rfl]; exact hk (isB_kind hq) (H.next h0 h1 (isB_kind hq))
  | false => rw [if_neg (by simp)]; exact tot_err (H.place _ h0 h1)
theorem tot_enter {t3 : Int} {k : PSt → Option (Except Er α)} (h0 : 0 ≤ s.op) (h1 : s.op ≤ 48) (ht : 0 ≤ t3 ∧ t3 ≤ N) (hk : s.op + 1 ≤ 48 → Tot N (k ⟨s.at_, s.nodes, s.op + 1, s.bl⟩) Q) : Tot N (enterK s t3 k) Q := by
  unfold enterK; rw [if_pos ⟨h0, h1⟩]; by_cases hq : 48 < s.op + 1
  · rw [if_pos hq]; exact tot_err ht
  · rw [if_neg hq]; exact hk (by omega)
theorem tot_leave {tx : ByteArray} {k : PSt → Option (Except Er α)} (H : TokT T N) (h0 : 0 ≤ s.at_) (h1 : s.at_ < T.length) (h2 : 1 ≤ s.op) (h3 : s.op ≤ 48) (hk : s.at_ + 1 < T.length → Tot N (k ⟨s.at_ + 1, s.nodes, s.op - 1, s.bl⟩) Q) : Tot N (leaveK T s tx k) Q := by
  unfold leaveK; rw [if_pos ⟨⟨h0, h1⟩, h2, by omega⟩]
  cases hq : isB (rd_T58 T s.at_) tx with
  | true => rw [if_pos rfl]; exact hk (H.next h0 h1 (isB_kind hq))
  | false => rw [if_neg (by simp)]; exact tot_err (H.place _ h0 h1)
theorem tot_ex {o : Option (Except Er (β × PSt))} {k : β → PSt → Option (Except Er α)} (h : Tot N o (fun x => Tot N (k x.1 x.2) Q)) : Tot N (exK o k) Q := by
  obtain ⟨r, h1, h2⟩ := h; rw [h1]; cases r with
  | ok x => exact h2
  | error e => exact ⟨_, rfl, h2⟩
theorem tot_open {k : PSt → Option (Except Er α)} (h0 : 1 ≤ s.op) (h1 : s.op ≤ 100) (hk : Tot N (k ⟨s.at_, s.nodes, s.op - 1, s.bl⟩) Q) : Tot N (openK s k) Q := by
  unfold openK; rw [if_pos ⟨h0, h1⟩]; exact hk
theorem tot_close {k : PSt → Option (Except Er α)} (h0 : 1 ≤ s.bl) (h1 : s.bl ≤ 100) (hk : Tot N (k ⟨s.at_, s.nodes, s.op, s.bl - 1⟩) Q) : Tot N (closeK s k) Q := by
  unfold closeK; rw [if_pos ⟨h0, h1⟩]; exact hk
theorem tot_deeper {t3 : Int} {k : PSt → Option (Except Er α)} (h0 : 0 ≤ s.bl) (h1 : s.bl ≤ 12) (ht : 0 ≤ t3 ∧ t3 ≤ N) (hk : s.bl + 1 ≤ 12 → Tot N (k ⟨s.at_, s.nodes, s.op, s.bl + 1⟩) Q) : Tot N (deeperK s t3 k) Q := by
  unfold deeperK; rw [if_pos ⟨h0, h1⟩]; by_cases hq : 12 < s.bl + 1
  · rw [if_pos hq]; exact tot_err ht
  · rw [if_neg hq]; exact hk (by omega)
theorem tot_made {t3 : Int} {k : PSt → Option (Except Er α)} (h0 : 0 ≤ s.nodes) (h1 : s.nodes ≤ 600) (ht : 0 ≤ t3 ∧ t3 ≤ N) (hk : s.nodes + 1 ≤ 600 → Tot N (k ⟨s.at_, s.nodes + 1, s.op, s.bl⟩) Q) : Tot N (madeK s t3 k) Q := by
  unfold madeK; rw [if_pos ⟨h0, h1⟩]; by_cases hq : 600 < s.nodes + 1
  · rw [if_pos hq]; exact tot_err ht
  · rw [if_neg hq]; exact hk (by omega)
theorem tot_kind {kd : Int} {k : S58 → PSt → Option (Except Er α)} (H : TokT T N) (h0 : 0 ≤ s.at_) (h1 : s.at_ < T.length) (hkd : kd ≠ 0) (hk : (rd_T58 T s.at_).f0 = kd → s.at_ + 1 < T.length → Tot N (k (rd_T58 T s.at_) ⟨s.at_ + 1, s.nodes, s.op, s.bl⟩) Q) : Tot N (kindK T s kd k) Q := by
  unfold kindK; rw [if_pos ⟨h0, h1⟩]; by_cases hq : (rd_T58 T s.at_).f0 = kd
  · rw [if_pos hq]; exact hk hq (H.next h0 h1 (by rw [hq]; exact hkd))
  · rw [if_neg hq]; exact tot_err (H.place _ h0 h1)
theorem tot_is {tx : ByteArray} {k1 k2 : Option (Except Er α)} (H : TokT T N) (h0 : 0 ≤ s.at_) (h1 : s.at_ < T.length) (hk1 : s.at_ + 1 < T.length → Tot N k1 Q) (hk2 : Tot N k2 Q) : Tot N (isK T s tx k1 k2) Q := by
  unfold isK; rw [if_pos ⟨h0, h1⟩]; cases hq : isB (rd_T58 T s.at_) tx with
  | true => rw [if_pos rfl]; exact hk1 (H.next h0 h1 (isB_kind hq))
  | false => rw [if_neg (by simp)]; exact hk2
end
theorem tot_node {N : Int} {s : PSt} {t3 k nm : Int} {st : ByteArray} {op : Int} {ps : List (S38 × Int)} {Q : (S38 × Int) × PSt → Prop} (h0 : 0 ≤ s.nodes) (h1 : s.nodes ≤ 600) (hp : ∀ p ∈ ps, 1 ≤ p.2 ∧ p.2 ≤ 48) (ht : 0 ≤ t3 ∧ t3 ≤ N)
    (hk : deepQ ps 1 ≤ 48 → s.nodes + 1 ≤ 600 → Q ((⟨k, nm, st, op, ps.map (·.1)⟩, deepQ ps 1), ⟨s.at_, s.nodes + 1, s.op, s.bl⟩)) : Tot N (nodeK s t3 k nm st op ps) Q := by
  unfold nodeK; rw [if_pos ⟨⟨h0, h1⟩, fun p hpp => ⟨by have := hp p hpp; omega, (hp p hpp).2⟩⟩]; unfold nodeQ; by_cases hd : 48 < deepQ ps 1
  · rw [if_pos hd]; exact tot_err ht
  · rw [if_neg hd]
    by_cases hn : 600 < s.nodes + 1
    · rw [if_pos hn]; exact tot_err ht
    · rw [if_neg hn]; exact tot_ok (hk (by omega) (by omega))
def ExQ (T : List S58) (s : PSt) (x : (S38 × Int) × PSt) : Prop :=
  (s.at_ < x.2.at_ ∧ x.2.at_ < T.length) ∧ x.2.nodes = s.nodes + (cntE x.1.1 : Int) ∧ x.2.nodes ≤ 600 ∧ x.2.op = s.op ∧ x.2.bl = s.bl ∧ fitE x.1.1 = true ∧ ((deepE x.1.1 : Nat) : Int) = x.1.2 ∧ 1 ≤ x.1.2 ∧ x.1.2 ≤ 48
end Go.Proofs.Ytobkdmmnbnpemaa.K
namespace Go.Proofs.Ytobkdmmnbnpemaa.K
open Go.RowKit Go.Proofs.YtobkdmmnbnpemaaW.PrintWords Go.Proofs.YtobkdmmnbnpemaaW.PrintLast Go.Proofs.YtobkdmmnbnpemaaW.PrintMore
set_option linter.unusedVariables false
set_option linter.unusedSimpArgs false
theorem rank_bd (x : ByteArray) : ((tree_Rank.f x).getD (0, 0)).1 = 0 ∨ ((1 ≤ ((tree_Rank.f x).getD (0, 0)).1 ∧ ((tree_Rank.f x).getD (0, 0)).1 ≤ 8) ∧ 1 ≤ ((tree_Rank.f x).getD (0, 0)).2 ∧ ((tree_Rank.f x).getD (0, 0)).2 ≤ 16) := by
  unfold tree_Rank.f; by_cases c0 : x.toList = ([124] : List UInt8)
  · rw [if_pos c0]; exact .inr (by decide)
  rw [if_neg c0]; by_cases c1 : x.toList = ([94] : List UInt8)
  · rw [if_pos c1]; exact .inr (by decide)
  rw [if_neg c1]; by_cases c2 : x.toList = ([38] : List UInt8)
  · rw [if_pos c2]; exact .inr (by decide)
  rw [if_neg c2]; by_cases c3 : x.toList = ([61, 61] : List UInt8)
  · rw [if_pos c3]; exact .inr (by decide)
  rw [if_neg c3]; by_cases c4 : x.toList = ([33, 61] : List UInt8)
  · rw [if_pos c4]; exact .inr (by decide)
  rw [if_neg c4]; by_cases c5 : x.toList = ([60] : List UInt8)
  · rw [if_pos c5]; exact .inr (by decide)
  rw [if_neg c5]; by_cases c6 : x.toList = ([60, 61] : List UInt8)
  · rw [if_pos c6]; exact .inr (by decide)
  rw [if_neg c6]; by_cases c7 : x.toList = ([62] : List UInt8)
  · rw [if_pos c7]; exact .inr (by decide)
  rw [if_neg c7]; by_cases c8 : x.toList = ([62, 61] : List UInt8)
  · rw [if_pos c8]; exact .inr (by decide)
  rw [if_neg c8]; by_cases c9 : x.toList = ([60, 60] : List UInt8)
  · rw [if_pos c9]; exact .inr (by decide)
  rw [if_neg c9]; by_cases c10 : x.toList = ([62, 62] : List UInt8)
  · rw [if_pos c10]; exact .inr (by decide)
  rw [if_neg c10]; by_cases c11 : x.toList = ([43] : List UInt8)
  · rw [if_pos c11]; exact .inr (by decide)
  rw [if_neg c11]; by_cases c12 : x.toList = ([45] : List UInt8)
  · rw [if_pos c12]; exact .inr (by decide)
  rw [if_neg c12]; by_cases c13 : x.toList = ([42] : List UInt8)
  · rw [if_pos c13]; exact .inr (by decide)
  rw [if_neg c13]; by_cases c14 : x.toList = ([47] : List UInt8)
  · rw [if_pos c14]; exact .inr (by decide)
  rw [if_neg c14]; by_cases c15 : x.toList = ([37] : List UInt8)
  · rw [if_pos c15]; exact .inr (by decide)
  rw [if_neg c15]; exact .inl (by decide)
theorem rankOf_bd (t : S58) : (rankOf t).1 = 0 ∨ (t.f0 = 4 ∧ (1 ≤ (rankOf t).1 ∧ (rankOf t).1 ≤ 8) ∧ 1 ≤ (rankOf t).2 ∧ (rankOf t).2 ≤ 16) := by
  unfold rankOf; by_cases h : t.f0 = 4
  · rw [if_pos h]
    rcases rank_bd t.f1 with z | z
    · exact .inl z
    · exact .inr ⟨h, z⟩
  · rw [if_neg h]; exact .inl rfl
theorem empB : ((⟨#[]⟩ : ByteArray).toList == ([] : List UInt8)) = true := by
  have : (⟨#[]⟩ : ByteArray).toList = [] := by rw [toList_eq]
  rw [this]; rfl
theorem fit_num (n : Int) (h : 0 ≤ n) : fitE ⟨1, n, ⟨#[]⟩, 0, []⟩ = true := by
  simp only [fitE, fitL, wantE, fieldsB, numB, nmB, opB, List.length_nil, empB]; simp [h]
theorem fit_name (s : ByteArray) (h : nameB (lst s) = true) : fitE ⟨2, 0, s, 0, []⟩ = true := by
  simp only [fitE, fitL, wantE, fieldsB, numB, nmB, opB, List.length_nil]; simp [h]
theorem fit_mem (p : S38) (h : fitE p = true) : fitE ⟨3, 0, ⟨#[]⟩, 0, [p]⟩ = true := by
  simp only [fitE, fitL, wantE, fieldsB, numB, nmB, opB, List.length_cons, List.length_nil, empB, h]
  decide
theorem fit_one (p : S38) (op : Int) (h : fitE p = true) (h0 : 19 ≤ op) (h1 : op ≤ 21) : fitE ⟨4, 0, ⟨#[]⟩, op, [p]⟩ = true := by
  simp only [fitE, fitL, wantE, fieldsB, numB, nmB, opB, List.length_cons, List.length_nil, empB, h]; simp [h0, h1]
theorem fit_two (p y : S38) (op : Int) (h : fitE p = true) (hy : fitE y = true) (h0 : 1 ≤ op) (h1 : op ≤ 18) : fitE ⟨5, 0, ⟨#[]⟩, op, [p, y]⟩ = true := by
  simp only [fitE, fitL, wantE, fieldsB, numB, nmB, opB, List.length_cons, List.length_nil, empB, h, hy]; simp [h0, h1]
theorem exq_node0 {T : List S58} {s : PSt} {e : S38} {d : Int} {a : Int} (ha : s.at_ < a) (ha1 : a < T.length) (hn : s.nodes + 1 ≤ 600) (he : e.f4 = []) (hf : fitE e = true) (hd : d = 1) : ExQ T s ((e, d), ⟨a, s.nodes + 1, s.op, s.bl⟩) := by
  obtain ⟨e0, e1, e2, e3, e4⟩ := e; dsimp only at he; subst he; refine ⟨⟨ha, ha1⟩, ?_, hn, rfl, rfl, hf, ?_, by show 1 ≤ d; omega, by show d ≤ 48; omega⟩
  · simp [cntE, cntL]
  · simp [deepE, deepL, hd]
theorem tot_val {T : List S58} {N : Int} (H : TokT T N) (on : PSt → Option Res) (ab : Int → PSt → Option Res) (s : PSt) (I : Inv T s)
    (hO : ∀ s', Inv T s' → s.at_ < s'.at_ → Tot N (on s') (ExQ T s')) (hA : ∀ least s', 1 ≤ least → least ≤ 9 → Inv T s' → s.at_ < s'.at_ → Tot N (ab least s') (ExQ T s')) : Tot N (valS T on ab s) (ExQ T s) := by
  have hpl := H.place _ I.a0 I.a1; have i1 := I.n0; have i2 := I.n1; have i3 := I.o0; have i4 := I.o1; have i5 := I.b0; have i6 := I.b1; have i7 := I.a0; have i8 := I.a1; unfold valS; rw [if_pos ⟨I.a0, I.a1⟩]; by_cases e1 : (rd_T58 T s.at_).f0 = 1
  · rw [if_pos e1]
    have hx := H.next I.a0 I.a1 (by rw [e1]; decide); exact tot_node I.n0 I.n1 (fun p hp => by cases hp) hpl (fun _ hn => exq_node0 (by show s.at_ < s.at_ + 1; omega) hx hn rfl (fit_num _ (H.num _ I.a0 I.a1 e1)) rfl)
  rw [if_neg e1]; by_cases e2 : (rd_T58 T s.at_).f0 = 2
  · rw [if_pos e2]
    have hx := H.next I.a0 I.a1 (by rw [e2]; decide); exact tot_node I.n0 I.n1 (fun p hp => by cases hp) hpl (fun _ hn => exq_node0 (by show s.at_ < s.at_ + 1; omega) hx hn rfl (fit_name _ (H.nam _ I.a0 I.a1 e2)) rfl)
  rw [if_neg e2]; by_cases c0 : isB (rd_T58 T s.at_) ⟨#[40]⟩ = true
  · rw [if_pos c0]
    have hx := H.next I.a0 I.a1 (isB_kind c0); refine tot_enter I.o0 I.o1 hpl fun ho => tot_ex ((hA 1 ⟨s.at_ + 1, s.nodes, s.op + 1, s.bl⟩ (by omega) (by omega) ⟨z_158, hx, i1, i2, z_159, ho, i5, i6⟩ (by show s.at_ < s.at_ + 1; omega)).mono ?_); rintro ⟨p, s3⟩ ⟨⟨q1, q2⟩, q3, q4, q5, q6, q7⟩; dsimp only at q1 q2 q3 q4 q5 q6 q7 ⊢; have ho_ : s.op + 1 ≤ 48 := ho; refine tot_leave H (by omega) q2 (by omega) (by omega) fun hl => tot_ok ⟨⟨by show s.at_ < s3.at_ + 1; omega, hl⟩, q3, q4, by show s3.op - 1 = s.op; omega, q6, q7⟩
  rw [if_neg c0]; by_cases c1 : isB (rd_T58 T s.at_) ⟨#[109]⟩ = true
  · rw [if_pos c1]
    have hx := H.next I.a0 I.a1 (isB_kind c1); refine tot_want H (z_158) hx fun hk hx2 => ?_; dsimp only at hk hx2 ⊢; refine tot_enter i3 i4 (H.place _ (by omega) hx) fun ho => tot_ex ((hA 1 ⟨s.at_ + 1 + 1, s.nodes, s.op + 1, s.bl⟩ (by omega) (by omega) ⟨z_160, hx2, i1, i2, z_159, ho, i5, i6⟩ (by show s.at_ < s.at_ + 1 + 1; omega)).mono ?_); rintro ⟨p, s3⟩ ⟨⟨q1, q2⟩, q3, q4, q5, q6, q7, q8, q9, q10⟩; dsimp only at q1 q2 q3 q4 q5 q6 q7 q8 q9 q10 ⊢; have ho_ : s.op + 1 ≤ 48 := ho; refine tot_leave H (by omega) q2 (by omega) (by omega) fun hl => tot_node (by show 0 ≤ s3.nodes; omega) q4 (fun p' hp' => by obtain rfl := List.mem_singleton.1 hp'; exact ⟨q9, q10⟩) hpl fun hd hn => ?_
    have hd' : max 1 (p.2 + 1) ≤ 48 := hd; refine ⟨⟨by show s.at_ < s3.at_ + 1; omega, hl⟩, ?_, hn, by show s3.op - 1 = s.op; omega, q6, fit_mem _ q7, ?_, ?_, ?_⟩
    · show s3.nodes + 1 = s.nodes + ((cntE ⟨3, 0, ⟨#[]⟩, 0, [p.1]⟩ : Nat) : Int)
      simp only [cntE, cntL]; omega
    · show ((deepE ⟨3, 0, ⟨#[]⟩, 0, [p.1]⟩ : Nat) : Int) = max 1 (p.2 + 1)
      simp only [deepE, deepL]; omega
    · show 1 ≤ max 1 (p.2 + 1); omega
    · exact hd'
  rw [if_neg c1]; have hcall : ∀ op : Int, 1 ≤ op → op ≤ 18 → (rd_T58 T s.at_).f0 ≠ 0 → Tot N (callS T ab (rd_T58 T s.at_).f3 op s) (ExQ T s) := by
    intro op ho0 ho1 hk0; have hx := H.next I.a0 I.a1 hk0; unfold callS; rw [if_pos ⟨I.a0, I.a1⟩]; refine tot_want H (z_158) hx fun hk hx2 => ?_; dsimp only at hk hx2 ⊢; refine tot_enter i3 i4 (H.place _ (by omega) hx) fun ho => tot_ex ((hA 1 ⟨s.at_ + 1 + 1, s.nodes, s.op + 1, s.bl⟩ (by omega) (by omega) ⟨z_160, hx2, i1, i2, z_159, ho, i5, i6⟩ (by show s.at_ < s.at_ + 1 + 1; omega)).mono ?_); rintro ⟨p, s3⟩ ⟨⟨q1, q2⟩, q3, q4, q5, q6, q7, q8, q9, q10⟩; dsimp only at q1 q2 q3 q4 q5 q6 q7 q8 q9 q10 ⊢; have ho_ : s.op + 1 ≤ 48 := ho; refine tot_want H (by omega) q2 fun hk3 hx3 => tot_ex ((hA 1 ⟨s3.at_ + 1, s3.nodes, s3.op, s3.bl⟩ (by omega) (by omega) ⟨by show 0 ≤ s3.at_ + 1; omega, hx3, by show 0 ≤ s3.nodes; omega, q4, by show 0 ≤ s3.op; omega, by show s3.op ≤ 48; omega, by show 0 ≤ s3.bl; omega, by show s3.bl ≤ 12; omega⟩ (by show s.at_ < s3.at_ + 1; omega)).mono ?_)
    rintro ⟨y, s5⟩ ⟨⟨r1, r2⟩, r3, r4, r5, r6, r7, r8, r9, r10⟩; dsimp only at r1 r2 r3 r4 r5 r6 r7 r8 r9 r10 ⊢; refine tot_leave H (by omega) r2 (by omega) (by omega) fun hl => tot_node (by show 0 ≤ s5.nodes; omega) r4 (fun p' hp' => by
      rcases List.mem_cons.1 hp' with z | z
      · rw [z]; exact ⟨q9, q10⟩
      · obtain rfl := List.mem_singleton.1 z; exact ⟨r9, r10⟩) hpl fun hd hn => ?_
    have hd' : max (max 1 (p.2 + 1)) (y.2 + 1) ≤ 48 := hd; refine ⟨⟨by show s.at_ < s5.at_ + 1; omega, hl⟩, ?_, hn, by show s5.op - 1 = s.op; omega, by show s5.bl = s.bl; omega, fit_two _ _ _ q7 r7 ho0 ho1, ?_, ?_, hd'⟩
    · show s5.nodes + 1 = s.nodes + ((cntE ⟨5, 0, ⟨#[]⟩, op, [p.1, y.1]⟩ : Nat) : Int)
      simp only [cntE, cntL]; omega
    · show ((deepE ⟨5, 0, ⟨#[]⟩, op, [p.1, y.1]⟩ : Nat) : Int) = max (max 1 (p.2 + 1)) (y.2 + 1)
      simp only [deepE, deepL]; omega
    · show 1 ≤ max (max 1 (p.2 + 1)) (y.2 + 1); omega
  by_cases c2 : isB (rd_T58 T s.at_) ⟨#[109, 105, 110]⟩ = true
  · rw [if_pos c2]; exact hcall 17 (by omega) (by omega) (isB_kind c2)
  rw [if_neg c2]; by_cases c3 : isB (rd_T58 T s.at_) ⟨#[109, 97, 120]⟩ = true
  · rw [if_pos c3]; exact hcall 18 (by omega) (by omega) (isB_kind c3)
  rw [if_neg c3]; unfold signS; rw [if_pos ⟨I.a0, I.a1⟩]; have hsg : signOp (rd_T58 T s.at_) = none ∨ ∃ op, signOp (rd_T58 T s.at_) = some op ∧ (19 ≤ op ∧ op ≤ 21) ∧ (rd_T58 T s.at_).f0 ≠ 0 := by
    unfold signOp; by_cases d0 : isB (rd_T58 T s.at_) ⟨#[45]⟩ = true
    · rw [if_pos d0]; exact .inr ⟨_, rfl, by decide, isB_kind d0⟩
    rw [if_neg d0]; by_cases d1 : isB (rd_T58 T s.at_) ⟨#[126]⟩ = true
    · rw [if_pos d1]; exact .inr ⟨_, rfl, by decide, isB_kind d1⟩
    rw [if_neg d1]; by_cases d2 : isB (rd_T58 T s.at_) ⟨#[33]⟩ = true
    · rw [if_pos d2]; exact .inr ⟨_, rfl, by decide, isB_kind d2⟩
    rw [if_neg d2]; exact .inl rfl
  rcases hsg with z | ⟨op, z, ⟨hop0, hop1⟩, hk0⟩
  · rw [z]; exact tot_err hpl
  rw [z]; have hx := H.next I.a0 I.a1 hk0; refine tot_enter i3 i4 hpl fun ho => tot_ex ((hO ⟨s.at_ + 1, s.nodes, s.op + 1, s.bl⟩ ⟨z_158, hx, i1, i2, z_159, ho, i5, i6⟩ (by show s.at_ < s.at_ + 1; omega)).mono ?_); rintro ⟨p, s3⟩ ⟨⟨q1, q2⟩, q3, q4, q5, q6, q7, q8, q9, q10⟩; dsimp only at q1 q2 q3 q4 q5 q6 q7 q8 q9 q10 ⊢; have ho_ : s.op + 1 ≤ 48 := ho; refine tot_open (by omega) (by omega) (tot_node (by show 0 ≤ s3.nodes; omega) q4 (fun p' hp' => by obtain rfl := List.mem_singleton.1 hp'; exact ⟨q9, q10⟩) hpl fun hd hn => ?_)
  have hd' : max 1 (p.2 + 1) ≤ 48 := hd; refine ⟨⟨by show s.at_ < s3.at_; omega, q2⟩, ?_, hn, by show s3.op - 1 = s.op; omega, q6, fit_one _ _ q7 hop0 hop1, ?_, ?_, hd'⟩
  · show s3.nodes + 1 = s.nodes + ((cntE ⟨4, 0, ⟨#[]⟩, op, [p.1]⟩ : Nat) : Int)
    simp only [cntE, cntL]; omega
  · show ((deepE ⟨4, 0, ⟨#[]⟩, op, [p.1]⟩ : Nat) : Int) = max 1 (p.2 + 1)
    simp only [deepE, deepL]; omega
  · show 1 ≤ max 1 (p.2 + 1); omega
end Go.Proofs.Ytobkdmmnbnpemaa.K
namespace Go.Proofs.Ytobkdmmnbnpemaa.K
open Go.RowKit Go.Proofs.YtobkdmmnbnpemaaW.PrintWords Go.Proofs.YtobkdmmnbnpemaaW.PrintLast Go.Proofs.YtobkdmmnbnpemaaW.PrintMore
set_option linter.unusedVariables false
set_option linter.unusedSimpArgs false
theorem tot_loop {T : List S58} {N : Int} (H : TokT T N) (ab : Int → PSt → Option Res) (least : Int) (s : PSt) (I : Inv T s)
    (hA : ∀ least s', 1 ≤ least → least ≤ 9 → Inv T s' → s.at_ < s'.at_ → Tot N (ab least s') (ExQ T s')) :
    ∀ (K : Nat) (p : S38 × Int) (s1 : PSt), ExQ T s (p, s1) → (T.length : Int) - s1.at_ < K → Tot N (loopF T ab least K p s1) (ExQ T s)
  | 0, p, s1, h, hk => by
    have := h.1.2; dsimp only at this
    omega
  | K + 1, p, s1, h, hk => by
    have h' := h; obtain ⟨⟨q1, q2⟩, q3, q4, q5, q6, q7, q8, q9, q10⟩ := h; dsimp only at q1 q2 q3 q4 q5 q6 q7 q8 q9 q10; have i1 := I.n0; have i2 := I.n1; have i3 := I.o0; have i4 := I.o1; have i5 := I.b0; have i6 := I.b1; have i7 := I.a0; have i8 := I.a1; unfold loopF; have hb := rankOf_bd (rd_T58 T s1.at_); have hpl := H.place s1.at_ (by omega) q2; rw [if_pos ⟨⟨⟨by omega, q2⟩, by omega, q4⟩, ⟨by omega, q10⟩, by omega, by omega⟩]
    by_cases hr : (rankOf (rd_T58 T s1.at_)).1 < least ∨ (rankOf (rd_T58 T s1.at_)).1 = 0
    · rw [if_pos hr]; exact tot_ok h'
    rw [if_neg hr]; rcases hb with z | ⟨z0, ⟨z1, z2⟩, z3, z4⟩
    · exact absurd (.inr z) hr
    have hx := H.next (i := s1.at_) (by omega) q2 (by rw [z0]; decide); obtain ⟨r, e1, e2⟩ := hA ((rankOf (rd_T58 T s1.at_)).1 + 1) ⟨s1.at_ + 1, s1.nodes, s1.op, s1.bl⟩ (by omega) (by omega) ⟨by show 0 ≤ s1.at_ + 1; omega, hx, by show 0 ≤ s1.nodes; omega, q4, by show 0 ≤ s1.op; omega, by show s1.op ≤ 48; omega, by show 0 ≤ s1.bl; omega, by show s1.bl ≤ 12; omega⟩ (by show s.at_ < s1.at_ + 1; omega)
    rw [e1]; rcases r with e | ⟨y, s5⟩
    · exact ⟨_, rfl, e2⟩
    obtain ⟨⟨r1, r2⟩, r3, r4, r5, r6, r7, r8, r9, r10⟩ := e2; dsimp only at r1 r2 r3 r4 r5 r6 r7 r8 r9 r10; dsimp only; rw [if_pos ⟨⟨by omega, r10⟩, by omega, r4⟩]
    have hdq : deepQ [p, y] 1 = max (max 1 (p.2 + 1)) (y.2 + 1) := rfl; unfold nodeQ; rw [hdq]; by_cases hd : 48 < max (max 1 (p.2 + 1)) (y.2 + 1)
    · rw [if_pos hd]; exact tot_err hpl
    rw [if_neg hd]; by_cases hn : 600 < s5.nodes + 1
    · rw [if_pos hn]; exact tot_err hpl
    rw [if_neg hn]; dsimp only; refine tot_loop H ab least s I hA K _ _ ⟨⟨by show s.at_ < s5.at_; omega, r2⟩, ?_, by show s5.nodes + 1 ≤ 600; omega, by show s5.op = s.op; omega, by show s5.bl = s.bl; omega, fit_two _ _ _ q7 r7 (by omega) (by omega), ?_, ?_, ?_⟩ (by show (T.length : Int) - s5.at_ < K; omega)
    · show s5.nodes + 1 = s.nodes + ((cntE ⟨5, 0, ⟨#[]⟩, (rankOf (rd_T58 T s1.at_)).2, [p.1, y.1]⟩ : Nat) : Int)
      simp only [cntE, cntL]; omega
    · show ((deepE ⟨5, 0, ⟨#[]⟩, (rankOf (rd_T58 T s1.at_)).2, [p.1, y.1]⟩ : Nat) : Int) = max (max 1 (p.2 + 1)) (y.2 + 1)
      simp only [deepE, deepL]; omega
    · show 1 ≤ max (max 1 (p.2 + 1)) (y.2 + 1); omega
    · show max (max 1 (p.2 + 1)) (y.2 + 1) ≤ 48; omega
theorem ex_tot {T : List S58} {N : Int} (H : TokT T N) : ∀ h : Nat, (∀ s, Inv T s → ((T.length : Int) - s.at_) * 2 ≤ h → Tot N ((exG T h).1 s) (ExQ T s)) ∧ (∀ least s, 1 ≤ least → least ≤ 9 → Inv T s → ((T.length : Int) - s.at_) * 2 + 1 ≤ h → Tot N ((exG T h).2 least s) (ExQ T s))
  | 0 => ⟨fun s I h => by have := I.a1; omega, fun least s _ _ I h => by have := I.a1; omega⟩
  | h + 1 => by
    obtain ⟨ih1, ih2⟩ := ex_tot H h; refine ⟨fun s I hh => tot_val H _ _ s I (fun s' I' hs => ih1 s' I' (by omega)) (fun least s' l0 l1 I' hs => ih2 least s' l0 l1 I' (by omega)), fun least s l0 l1 I hh => ?_⟩; show Tot N (stepF T (exG T h).1 (exG T h).2 (T.length + 1) least s) (ExQ T s); obtain ⟨r, e1, e2⟩ := ih1 s I (by omega); unfold stepF; rw [e1]; rcases r with e | ⟨p, s1⟩
    · exact ⟨_, rfl, e2⟩
    refine tot_loop H (exG T h).2 least s I (fun least s' l0 l1 I' hs => ih2 least s' l0 l1 I' (by omega)) _ p s1 e2 ?_
    have := I.a0; have := e2.1.1; dsimp only at this
    omega
def ab0 (T : List S58) : Int → PSt → Option Res := (exG T (2 * T.length + 1)).2
theorem ab0_tot {T : List S58} {N : Int} (H : TokT T N) (s : PSt) (I : Inv T s) : Tot N (ab0 T 1 s) (ExQ T s) := (ex_tot H _).2 1 s (by omega) (by omega) I (by have := I.a0; omega)
theorem ab0_ok (T : List S58) : AboC T (ab0 T) := (exG_ok T _).2
end Go.Proofs.Ytobkdmmnbnpemaa.K
namespace Go.Proofs.Ytobkdmmnbnpemaa.K
open Go.RowKit Go.Proofs.YtobkdmmnbnpemaaW.PrintWords Go.Proofs.YtobkdmmnbnpemaaW.PrintLast Go.Proofs.YtobkdmmnbnpemaaW.PrintMore
set_option linter.unusedVariables false
set_option linter.unusedSimpArgs false
def StQ (d : Int) (T : List S58) (s : PSt) (x : S41 × PSt) : Prop :=
  (s.at_ < x.2.at_ ∧ x.2.at_ < T.length) ∧ x.2.nodes = s.nodes + (cntS x.1 : Int) + d ∧ x.2.nodes ≤ 600 ∧ x.2.op = s.op ∧ x.2.bl = s.bl ∧ fitSt (fitB (12 - s.bl).toNat) x.1 = true
def BoQ (T : List S58) (s : PSt) (x : List S41 × PSt) : Prop :=
  (s.at_ < x.2.at_ ∧ x.2.at_ < T.length) ∧ x.2.nodes = s.nodes + (cntB x.1 : Int) ∧ x.2.nodes ≤ 600 ∧ x.2.op = s.op ∧ x.2.bl = s.bl - 1 ∧ x.1.all (fitSt (fitB (12 - s.bl).toNat)) = true
theorem cntB_add : ∀ (l m : List S41), cntB (l ++ m) = cntB l + cntB m
  | [], m => by simp [cntB]
  | x :: xs, m => by
    have := cntB_add xs m; simp only [List.cons_append, cntB]; omega
theorem tot_bodyL {T : List S58} {N : Int} (H : TokT T N) (st : PSt → Option SRes) (lo : Int) (hS : ∀ s', Inv T s' → lo < s'.at_ → Tot N (st s') (StQ 1 T s')) (s : PSt) (I : Inv T s) (hlo : lo < s.at_) (hbl : 1 ≤ s.bl) :
    ∀ (K : Nat) (xs : List S41) (s1 : PSt), s.at_ ≤ s1.at_ → s1.at_ < T.length → s1.nodes = s.nodes + (cntB xs : Int) → s1.nodes ≤ 600 → s1.op = s.op → s1.bl = s.bl → xs.all (fitSt (fitB (12 - s.bl).toNat)) = true → (T.length : Int) - s1.at_ < K →
      Tot N (bodyL T st K xs s1) (BoQ T s)
  | 0, xs, s1, q1, q2, q3, q4, q5, q6, q7, hk => by omega
  | K + 1, xs, s1, q1, q2, q3, q4, q5, q6, q7, hk => by
    have i1 := I.n0; have i2 := I.n1; have i3 := I.o0; have i4 := I.o1; have i5 := I.b0; have i6 := I.b1; have i7 := I.a0; have i8 := I.a1; have hl := len_cntB xs; unfold bodyL; rw [if_pos ⟨⟨by omega, q2⟩, by omega, by omega, by omega⟩]
    by_cases hb : isB (rd_T58 T s1.at_) ⟨#[125]⟩ = true
    · rw [if_pos hb]
      have hx := H.next (i := s1.at_) (by omega) q2 (isB_kind hb); exact tot_ok ⟨⟨by show s.at_ < s1.at_ + 1; omega, hx⟩, q3, q4, q5, by show s1.bl - 1 = s.bl - 1; omega, q7⟩
    rw [if_neg hb]; refine tot_ex ((hS s1 ⟨by omega, q2, by omega, q4, by omega, by omega, by omega, by omega⟩ (by omega)).mono ?_)
    rintro ⟨x, s2⟩ ⟨⟨r1, r2⟩, r3, r4, r5, r6, r7⟩; dsimp only at r1 r2 r3 r4 r5 r6 r7 ⊢; refine tot_bodyL H st lo hS s I hlo hbl K (xs ++ [x]) s2 (by omega) r2 ?_ r4 (by omega) (by omega) ?_ (by omega)
    · rw [cntB_add]; simp only [cntB]; omega
    · rw [List.all_append, q7, List.all_cons, List.all_nil]
      rw [q6] at r7; rw [r7]; rfl
def BkQ (T : List S58) (s : PSt) (x : List S41 × PSt) : Prop :=
  (s.at_ < x.2.at_ ∧ x.2.at_ < T.length) ∧ x.2.nodes = s.nodes + (cntB x.1 : Int) ∧ x.2.nodes ≤ 600 ∧ x.2.op = s.op ∧ x.2.bl = s.bl ∧ fitB (12 - s.bl).toNat x.1 = true
theorem tot_body {T : List S58} {N : Int} (H : TokT T N) (st : PSt → Option SRes) (lo : Int) (hS : ∀ s', Inv T s' → lo < s'.at_ → Tot N (st s') (StQ 1 T s')) (s : PSt) (I : Inv T s) (hlo : lo < s.at_) : Tot N (bodyS T st (T.length + 1) s) (BkQ T s) := by
  have i1 := I.n0; have i2 := I.n1; have i3 := I.o0; have i4 := I.o1; have i5 := I.b0; have i6 := I.b1; have i7 := I.a0; have i8 := I.a1; unfold bodyS; refine tot_want H i7 i8 fun hk hx => ?_; refine tot_deeper i5 i6 (H.place _ i7 i8) fun hb => ?_; have hb' : s.bl + 1 ≤ 12 := hb; refine (tot_bodyL H st lo hS ⟨s.at_ + 1, s.nodes, s.op, s.bl + 1⟩ ⟨z_158, hx, i1, i2, i3, i4, by show 0 ≤ s.bl + 1; omega, hb⟩ (by show lo < s.at_ + 1; omega) (by show 1 ≤ s.bl + 1; omega) _ [] _ (Int.le_refl _) hx (by simp [cntB]) i2 rfl rfl rfl (by show (T.length : Int) - (s.at_ + 1) < _; omega)).mono ?_
  rintro ⟨l, s2⟩ ⟨⟨r1, r2⟩, r3, r4, r5, r6, r7⟩; dsimp only at r1 r2 r3 r4 r5 r6 r7; refine ⟨⟨by show s.at_ < s2.at_; omega, r2⟩, r3, r4, r5, by show s2.bl = s.bl; omega, ?_⟩
  have e : (12 - s.bl).toNat = (12 - (s.bl + 1)).toNat + 1 := by omega
  rw [e]; exact r7
theorem tot_test {T : List S58} {N : Int} (H : TokT T N) (ab : Int → PSt → Option Res) (hA : ∀ s', Inv T s' → Tot N (ab 1 s') (ExQ T s')) (s : PSt) (I : Inv T s) : Tot N (testS T ab s) (ExQ T s) := by
  have i1 := I.n0; have i2 := I.n1; have i3 := I.o0; have i4 := I.o1; have i5 := I.b0; have i6 := I.b1; have i7 := I.a0; have i8 := I.a1; unfold testS; refine tot_want H i7 i8 fun hk hx => ?_; refine tot_enter i3 i4 (H.place _ i7 i8) fun ho => tot_ex ((hA ⟨s.at_ + 1, s.nodes, s.op + 1, s.bl⟩ ⟨z_158, hx, i1, i2, z_159, ho, i5, i6⟩).mono ?_); rintro ⟨p, s3⟩ ⟨⟨q1, q2⟩, q3, q4, q5, q6, q7⟩; dsimp only at q1 q2 q3 q4 q5 q6 q7 ⊢; have ho_ : s.op + 1 ≤ 48 := ho; exact tot_leave H (by omega) q2 (by omega) (by omega) fun hl => tot_ok ⟨⟨by show s.at_ < s3.at_ + 1; omega, hl⟩, q3, q4, by show s3.op - 1 = s.op; omega, q6, q7⟩
theorem deepL_one (p : S38) : deepL [p] = deepE p := by simp [deepL]
theorem fit_stm (r : List S41 → Bool) (kd : Int) (nm : ByteArray) (cl : Int) (l : List S38) (hh : headB ⟨kd, nm, cl, l, [], []⟩ = true) (hl : loopsB kd = false) (hf : fitL l = true) (hd : deepL l ≤ 48) : fitSt r ⟨kd, nm, cl, l, [], []⟩ = true := by
  unfold fitSt; rw [hh, hf, decide_eq_true hd, hl]; rfl
theorem fitL_one {p : S38} (h : fitE p = true) : fitL [p] = true := by simp [fitL, h]
theorem fitL_two {p y : S38} (h : fitE p = true) (h' : fitE y = true) : fitL [p, y] = true := by simp [fitL, h, h']
theorem deepL_two {p y : S38} (h : deepE p ≤ 48) (h' : deepE y ≤ 48) : deepL [p, y] ≤ 48 := by simp only [deepL]; omega
theorem cntS_ex (kd : Int) (nm : ByteArray) (cl : Int) (l : List S38) : cntS ⟨kd, nm, cl, l, [], []⟩ = cntL l := by simp [cntS, cntB]
theorem tot_exS {T : List S58} {N : Int} (H : TokT T N) (ab : Int → PSt → Option Res) (hA : ∀ s', Inv T s' → Tot N (ab 1 s') (ExQ T s')) (kd : Int) (nm : ByteArray) (cl : Int) (s0 s : PSt) (I : Inv T s) (h0 : s0.at_ < s.at_) (h1 : s.nodes = s0.nodes) (h2 : s.op = s0.op) (h3 : s.bl = s0.bl)
    (hh : ∀ p : S38, headB ⟨kd, nm, cl, [p], [], []⟩ = true) (hl : loopsB kd = false) : Tot N (exS T ab kd nm cl s) (StQ 0 T s0) := by
  unfold exS; refine tot_ex ((hA s I).mono ?_); rintro ⟨p, s3⟩ ⟨⟨q1, q2⟩, q3, q4, q5, q6, q7, q8, q9, q10⟩; dsimp only at q1 q2 q3 q4 q5 q6 q7 q8 q9 q10 ⊢; refine tot_ok ⟨⟨by show s0.at_ < s3.at_; omega, q2⟩, ?_, q4, by show s3.op = s0.op; omega, by show s3.bl = s0.bl; omega, fit_stm _ _ _ _ _ (hh _) hl (fitL_one q7) (by rw [deepL_one]; omega)⟩
  show s3.nodes = s0.nodes + (cntS ⟨kd, nm, cl, [p.1], [], []⟩ : Int) + 0; rw [cntS_ex]; simp only [cntL]
  omega
theorem head_named (kd : Int) (nm : ByteArray) (p : S38) (h : kd = 1 ∨ kd = 2) (hn : nameB (lst nm) = true) : headB ⟨kd, nm, 0, [p], [], []⟩ = true := by
  rcases h with e | e <;> subst e <;> simp [headB, wantS, cellB, loopsB, hn]
theorem head_plain (kd cl : Int) (p : S38) (h : (kd = 4 ∨ kd = 8) ∧ cl = 0 ∨ kd = 5 ∧ 0 ≤ cl ∧ cl ≤ 255) : headB ⟨kd, ⟨#[]⟩, cl, [p], [], []⟩ = true := by
  have e0 : nameB (lst ⟨#[]⟩) = false := by rfl
  have e1 := empB; rcases h with ⟨e | e, z⟩ | ⟨e, z⟩
  · subst e z; simp [headB, wantS, cellB, loopsB, e0, e1]
  · subst e z; simp [headB, wantS, cellB, loopsB, e0, e1]
  · subst e; simp [headB, wantS, cellB, loopsB, e0, e1, z]
theorem head_store (p y : S38) : headB ⟨3, ⟨#[]⟩, 0, [p, y], [], []⟩ = true := by
  have e0 : nameB (lst ⟨#[]⟩) = false := by rfl
  have e1 := empB; simp [headB, wantS, cellB, loopsB, e0, e1]
theorem head_stop : headB ⟨9, ⟨#[]⟩, 0, [], [], []⟩ = true := by
  have e0 : nameB (lst ⟨#[]⟩) = false := by rfl
  have e1 := empB; simp [headB, wantS, cellB, loopsB, e0, e1]
theorem fit_while (r : List S41 → Bool) (p : S38) (l : List S41) (h : fitE p = true) (hd : deepE p ≤ 48) (hr : r l = true) : fitSt r ⟨7, ⟨#[]⟩, 0, [p], l, []⟩ = true := by
  have e0 : nameB (lst ⟨#[]⟩) = false := by rfl
  have e1 := empB; have e2 : headB ⟨7, ⟨#[]⟩, 0, [p], l, []⟩ = true := by simp [headB, wantS, cellB, loopsB, e0, e1]
  unfold fitSt; rw [e2, fitL_one h, deepL_one, decide_eq_true hd, hr]; simp
theorem fit_if (r : List S41 → Bool) (p : S38) (l m : List S41) (h : fitE p = true) (hd : deepE p ≤ 48) (hr : r l = true) (hm : m = [] ∨ r m = true) : fitSt r ⟨6, ⟨#[]⟩, 0, [p], l, m⟩ = true := by
  have e0 : nameB (lst ⟨#[]⟩) = false := by rfl
  have e1 := empB; have e2 : headB ⟨6, ⟨#[]⟩, 0, [p], l, m⟩ = true := by simp [headB, wantS, cellB, loopsB, e0, e1]
  unfold fitSt; rw [e2, fitL_one h, deepL_one, decide_eq_true hd, hr]; rcases hm with z | z
  · subst z; simp
  · rw [z]; simp
end Go.Proofs.Ytobkdmmnbnpemaa.K
namespace Go.Proofs.Ytobkdmmnbnpemaa.K
open Go.RowKit Go.Proofs.YtobkdmmnbnpemaaW.PrintWords Go.Proofs.YtobkdmmnbnpemaaW.PrintLast Go.Proofs.YtobkdmmnbnpemaaW.PrintMore
set_option linter.unusedVariables false
set_option linter.unusedSimpArgs false
theorem cntS_if (k : Int) (nm : ByteArray) (cl : Int) (l : List S38) (b c : List S41) : cntS ⟨k, nm, cl, l, b, c⟩ = cntL l + (cntB b + cntB c) := by simp [cntS]
theorem tot_branch {T : List S58} {N : Int} (H : TokT T N) (ab : Int → PSt → Option Res) (hA : ∀ s', Inv T s' → Tot N (ab 1 s') (ExQ T s')) (st : PSt → Option SRes) (s0 s : PSt) (I : Inv T s) (h0 : s0.at_ < s.at_) (h1 : s.nodes = s0.nodes) (h2 : s.op = s0.op) (h3 : s.bl = s0.bl)
    (hS : ∀ s', Inv T s' → s0.at_ < s'.at_ → Tot N (st s') (StQ 1 T s')) : Tot N (branchS T ab st (T.length + 1) s) (StQ 0 T s0) := by
  have i1 := I.n0; have i2 := I.n1; have i3 := I.o0; have i4 := I.o1; have i5 := I.b0; have i6 := I.b1; have i7 := I.a0; have i8 := I.a1; unfold branchS; refine tot_ex ((tot_test H ab hA s I).mono ?_); rintro ⟨p, s1⟩ ⟨⟨q1, q2⟩, q3, q4, q5, q6, q7, q8, q9, q10⟩; dsimp only at q1 q2 q3 q4 q5 q6 q7 q8 q9 q10 ⊢; have I1 : Inv T s1 := ⟨by omega, q2, by omega, q4, by omega, by omega, by omega, by omega⟩
  refine tot_ex ((tot_body H st s0.at_ hS s1 I1 (by omega)).mono ?_)
  rintro ⟨l, s2⟩ ⟨⟨r1, r2⟩, r3, r4, r5, r6, r7⟩; dsimp only at r1 r2 r3 r4 r5 r6 r7 ⊢; have eb : (12 - s1.bl).toNat = (12 - s0.bl).toNat := by omega
  rw [eb] at r7; refine tot_is H (by omega) r2 (fun hx => ?_) (tot_ok ⟨⟨by show s0.at_ < s2.at_; omega, r2⟩, ?_, r4, by show s2.op = s0.op; omega, by show s2.bl = s0.bl; omega, fit_if _ _ _ _ q7 (by omega) r7 (.inl rfl)⟩)
  · refine tot_is H (by show 0 ≤ s2.at_ + 1; omega) hx (fun hx2 => ?_) ?_
    · refine tot_deeper (by show 0 ≤ s2.bl; omega) (by show s2.bl ≤ 12; omega) (H.place _ (by omega) hx) fun hb => ?_
      have hb' : s2.bl + 1 ≤ 12 := hb; refine tot_ex ((hS ⟨s2.at_ + 1, s2.nodes, s2.op, s2.bl + 1⟩ ⟨by show 0 ≤ s2.at_ + 1; omega, hx, by show 0 ≤ s2.nodes; omega, r4, by show 0 ≤ s2.op; omega, by show s2.op ≤ 48; omega, by show 0 ≤ s2.bl + 1; omega, hb⟩ (by show s0.at_ < s2.at_ + 1; omega)).mono ?_)
      rintro ⟨x, s4⟩ ⟨⟨u1, u2⟩, u3, u4, u5, u6, u7⟩; dsimp only at u1 u2 u3 u4 u5 u6 u7 ⊢; refine tot_close (by omega) (by omega) (tot_ok ⟨⟨by show s0.at_ < s4.at_; omega, u2⟩, ?_, u4, by show s4.op = s0.op; omega, by show s4.bl - 1 = s0.bl; omega, fit_if _ _ _ _ q7 (by omega) r7 (.inr ?_)⟩)
      · show s4.nodes = s0.nodes + (cntS ⟨6, ⟨#[]⟩, 0, [p.1], l, [x]⟩ : Int) + 0
        rw [cntS_if]; simp only [cntL, cntB]; omega
      · have e : (12 - s0.bl).toNat = (12 - (s2.bl + 1)).toNat + 1 := by omega
        rw [e]; show [x].all (fitSt (fitB (12 - (s2.bl + 1)).toNat)) = true; rw [List.all_cons, u7]; rfl
    · refine tot_ex ((tot_body H st s0.at_ hS ⟨s2.at_ + 1, s2.nodes, s2.op, s2.bl⟩ ⟨by show 0 ≤ s2.at_ + 1; omega, hx, by show 0 ≤ s2.nodes; omega, r4, by show 0 ≤ s2.op; omega, by show s2.op ≤ 48; omega, by show 0 ≤ s2.bl; omega, by show s2.bl ≤ 12; omega⟩ (by show s0.at_ < s2.at_ + 1; omega)).mono ?_)
      rintro ⟨m, s4⟩ ⟨⟨u1, u2⟩, u3, u4, u5, u6, u7⟩; dsimp only at u1 u2 u3 u4 u5 u6 u7 ⊢; have eb2 : (12 - s2.bl).toNat = (12 - s0.bl).toNat := by omega
      rw [eb2] at u7; refine tot_ok ⟨⟨by show s0.at_ < s4.at_; omega, u2⟩, ?_, u4, by show s4.op = s0.op; omega, by show s4.bl = s0.bl; omega, fit_if _ _ _ _ q7 (by omega) r7 (.inr u7)⟩
      show s4.nodes = s0.nodes + (cntS ⟨6, ⟨#[]⟩, 0, [p.1], l, m⟩ : Int) + 0; rw [cntS_if]; simp only [cntL]; omega
  · show s2.nodes = s0.nodes + (cntS ⟨6, ⟨#[]⟩, 0, [p.1], l, []⟩ : Int) + 0
    rw [cntS_if]; simp only [cntL, cntB]; omega
theorem tot_word {T : List S58} {N : Int} (H : TokT T N) (ab : Int → PSt → Option Res) (hA : ∀ s', Inv T s' → Tot N (ab 1 s') (ExQ T s')) (st : PSt → Option SRes) (s : PSt) (I : Inv T s)
    (hS : ∀ s', Inv T s' → s.at_ < s'.at_ → Tot N (st s') (StQ 1 T s')) (hk : (rd_T58 T s.at_).f0 ≠ 0) : Tot N (wordS T ab st (T.length + 1) s (rd_T58 T s.at_)) (StQ 0 T s) := by
  have i1 := I.n0; have i2 := I.n1; have i3 := I.o0; have i4 := I.o1; have i5 := I.b0; have i6 := I.b1; have i7 := I.a0; have i8 := I.a1; have hx := H.next i7 i8 hk; have hpl := H.place _ i7 i8; have I1 : Inv T ⟨s.at_ + 1, s.nodes, s.op, s.bl⟩ := ⟨z_158, hx, i1, i2, i3, i4, i5, i6⟩; have lt1 : s.at_ < s.at_ + 1 := by omega
  unfold wordS; rw [if_pos ⟨i7, i8⟩]; generalize (rd_T58 T s.at_).f1.toList = tx; by_cases c0 : tx = [118, 97, 114]
  · rw [if_pos c0]
    refine tot_kind H I1.a0 hx (by decide) fun hk2 hx2 => ?_
    dsimp only at hk2 hx2 ⊢; refine tot_want H (z_160) hx2 fun hk3 hx3 => ?_; dsimp only at hk3 hx3 ⊢; refine tot_exS H ab hA _ _ _ s ⟨s.at_ + 1 + 1 + 1, s.nodes, s.op, s.bl⟩ ⟨by show 0 ≤ s.at_ + 1 + 1 + 1; omega, hx3, i1, i2, i3, i4, i5, i6⟩ (by show s.at_ < s.at_ + 1 + 1 + 1; omega) rfl rfl rfl (fun p => head_named _ _ p (.inl rfl) (H.nam _ (by omega) hx hk2)) rfl
  rw [if_neg c0]; by_cases c1 : tx = [109]
  · rw [if_pos c1]
    refine tot_want H I1.a0 hx fun hk2 hx2 => ?_
    dsimp only at hk2 hx2 ⊢; refine tot_enter i3 i4 (H.place _ (by omega) hx) fun ho => tot_ex ((hA ⟨s.at_ + 1 + 1, s.nodes, s.op + 1, s.bl⟩ ⟨z_160, hx2, i1, i2, z_159, ho, i5, i6⟩).mono ?_); rintro ⟨p, s3⟩ ⟨⟨q1, q2⟩, q3, q4, q5, q6, q7, q8, q9, q10⟩; dsimp only at q1 q2 q3 q4 q5 q6 q7 q8 q9 q10 ⊢; have ho_ : s.op + 1 ≤ 48 := ho; refine tot_leave H (by omega) q2 (by omega) (by omega) fun hl => ?_; refine tot_want H (by show 0 ≤ s3.at_ + 1; omega) hl fun hk3 hx3 => ?_; dsimp only at hk3 hx3 ⊢; refine tot_ex ((hA ⟨s3.at_ + 1 + 1, s3.nodes, s3.op - 1, s3.bl⟩ ⟨by show 0 ≤ s3.at_ + 1 + 1; omega, hx3, by show 0 ≤ s3.nodes; omega, q4, by show 0 ≤ s3.op - 1; omega, by show s3.op - 1 ≤ 48; omega, by show 0 ≤ s3.bl; omega, by show s3.bl ≤ 12; omega⟩).mono ?_)
    rintro ⟨y, s5⟩ ⟨⟨r1, r2⟩, r3, r4, r5, r6, r7, r8, r9, r10⟩; dsimp only at r1 r2 r3 r4 r5 r6 r7 r8 r9 r10 ⊢; refine tot_ok ⟨⟨by show s.at_ < s5.at_; omega, r2⟩, ?_, r4, by show s5.op = s.op; omega, by show s5.bl = s.bl; omega, fit_stm _ _ _ _ _ (head_store _ _) rfl (fitL_two q7 r7) (deepL_two (by omega) (by omega))⟩
    show s5.nodes = s.nodes + (cntS ⟨3, ⟨#[]⟩, 0, [p.1, y.1], [], []⟩ : Int) + 0; rw [cntS_ex]; simp only [cntL]; omega
  rw [if_neg c1]; by_cases c2 : tx = [101, 109, 105, 116]
  · rw [if_pos c2]
    exact tot_exS H ab hA _ _ _ s ⟨s.at_ + 1, s.nodes, s.op, s.bl⟩ I1 lt1 rfl rfl rfl (fun p => head_plain _ _ p (.inl ⟨.inl rfl, rfl⟩)) rfl
  rw [if_neg c2]; by_cases c3 : tx = [105, 110, 116, 111]
  · rw [if_pos c3]
    refine tot_kind H I1.a0 hx (by decide) fun hk2 hx2 => ?_
    dsimp only at hk2 hx2 ⊢; have hnum := H.num _ I1.a0 hx hk2; dsimp only at hnum; by_cases hq : 255 < (rd_T58 T (s.at_ + 1)).f2
    · rw [if_pos hq]; exact tot_err (H.place _ I1.a0 hx)
    rw [if_neg hq]; exact tot_exS H ab hA _ _ _ s ⟨s.at_ + 1 + 1, s.nodes, s.op, s.bl⟩ ⟨z_160, hx2, i1, i2, i3, i4, i5, i6⟩ (by show s.at_ < s.at_ + 1 + 1; omega) rfl rfl rfl (fun p => head_plain _ _ p (.inr ⟨rfl, hnum, by omega⟩)) rfl
  rw [if_neg c3]; by_cases c4 : tx = [102, 97, 105, 108]
  · rw [if_pos c4]
    exact tot_exS H ab hA _ _ _ s ⟨s.at_ + 1, s.nodes, s.op, s.bl⟩ I1 lt1 rfl rfl rfl (fun p => head_plain _ _ p (.inl ⟨.inr rfl, rfl⟩)) rfl
  rw [if_neg c4]; by_cases c5 : tx = [115, 116, 111, 112]
  · rw [if_pos c5]
    exact tot_ok ⟨⟨lt1, hx⟩, by show s.nodes = s.nodes + (cntS ⟨9, ⟨#[]⟩, 0, [], [], []⟩ : Int) + 0; rw [cntS_ex]; simp [cntL], i2, rfl, rfl, fit_stm _ _ _ _ _ head_stop rfl rfl (by simp [deepL])⟩
  rw [if_neg c5]; by_cases c6 : tx = [119, 104, 105, 108, 101]
  · rw [if_pos c6]
    refine tot_ex ((tot_test H ab hA _ I1).mono ?_)
    rintro ⟨p, s1⟩ ⟨⟨q1, q2⟩, q3, q4, q5, q6, q7, q8, q9, q10⟩; dsimp only at q1 q2 q3 q4 q5 q6 q7 q8 q9 q10 ⊢; refine tot_ex ((tot_body H st s.at_ hS s1 ⟨by omega, q2, by omega, q4, by omega, by omega, by omega, by omega⟩ (by omega)).mono ?_)
    rintro ⟨l, s2⟩ ⟨⟨r1, r2⟩, r3, r4, r5, r6, r7⟩; dsimp only at r1 r2 r3 r4 r5 r6 r7 ⊢; rw [q6] at r7; refine tot_ok ⟨⟨by show s.at_ < s2.at_; omega, r2⟩, ?_, r4, by show s2.op = s.op; omega, by show s2.bl = s.bl; omega, fit_while _ _ _ q7 (by omega) r7⟩
    show s2.nodes = s.nodes + (cntS ⟨7, ⟨#[]⟩, 0, [p.1], l, []⟩ : Int) + 0; rw [cntS_if]; simp only [cntL, cntB]; omega
  rw [if_neg c6]; by_cases c7 : tx = [105, 102]
  · rw [if_pos c7]
    exact tot_branch H ab hA st s _ I1 lt1 rfl rfl rfl hS
  rw [if_neg c7]; exact tot_err hpl
theorem tot_end {T : List S58} {N : Int} (H : TokT T N) (t3 : Int) (ht : 0 ≤ t3 ∧ t3 ≤ N) (s : PSt) (I : Inv T s) (x : S41 × PSt) (h : StQ 0 T s x) : Tot N (endS T t3 x.1 x.2) (StQ 1 T s) := by
  have i1 := I.n0; have i2 := I.n1; have i3 := I.o0; have i4 := I.o1; have i5 := I.b0; have i6 := I.b1; have i7 := I.a0; have i8 := I.a1; obtain ⟨x, s1⟩ := x; obtain ⟨⟨q1, q2⟩, q3, q4, q5, q6, q7⟩ := h; dsimp only at q1 q2 q3 q4 q5 q6 q7 ⊢; unfold endS; by_cases hk : x.f0 = 6 ∨ x.f0 = 7
  · rw [if_pos hk]
    refine tot_made (by omega) q4 ht fun hn => tot_ok ⟨⟨q1, q2⟩, by show s1.nodes + 1 = s.nodes + (cntS x : Int) + 1; omega, hn, q5, q6, q7⟩
  · rw [if_neg hk]
    refine tot_want H (by omega) q2 fun hk2 hx2 => tot_made (by show 0 ≤ s1.nodes; omega) q4 ht fun hn => tot_ok ⟨⟨by show s.at_ < s1.at_ + 1; omega, hx2⟩, by show s1.nodes + 1 = s.nodes + (cntS x : Int) + 1; omega, hn, q5, q6, q7⟩
theorem tot_stmt {T : List S58} {N : Int} (H : TokT T N) (ab : Int → PSt → Option Res) (hA : ∀ s', Inv T s' → Tot N (ab 1 s') (ExQ T s')) (st : PSt → Option SRes) (s : PSt) (I : Inv T s)
    (hS : ∀ s', Inv T s' → s.at_ < s'.at_ → Tot N (st s') (StQ 1 T s')) : Tot N (stmtS T ab (wordS T ab st (T.length + 1)) s) (StQ 1 T s) := by
  have i1 := I.n0; have i2 := I.n1; have i3 := I.o0; have i4 := I.o1; have i5 := I.b0; have i6 := I.b1; have i7 := I.a0; have i8 := I.a1; have hpl := H.place _ i7 i8; unfold stmtS; rw [if_pos ⟨i7, i8⟩]; by_cases e2 : (rd_T58 T s.at_).f0 = 2
  · rw [if_pos e2]
    have hx := H.next i7 i8 (by rw [e2]; decide); refine tot_want H (z_158) hx fun hk2 hx2 => ?_; dsimp only at hk2 hx2 ⊢; refine tot_ex ((hA ⟨s.at_ + 1 + 1, s.nodes, s.op, s.bl⟩ ⟨z_160, hx2, i1, i2, i3, i4, i5, i6⟩).mono ?_); rintro ⟨p, s3⟩ ⟨⟨q1, q2⟩, q3, q4, q5, q6, q7, q8, q9, q10⟩; dsimp only at q1 q2 q3 q4 q5 q6 q7 q8 q9 q10 ⊢; refine tot_end H _ hpl s I (⟨2, (rd_T58 T s.at_).f1, 0, [p.1], [], []⟩, s3) ⟨⟨by show s.at_ < s3.at_; omega, q2⟩, ?_, q4, q5, q6, fit_stm _ _ _ _ _ (head_named _ _ _ (.inr rfl) (H.nam _ i7 i8 e2)) rfl (fitL_one q7) (by rw [deepL_one]; omega)⟩; show s3.nodes = s.nodes + (cntS ⟨2, (rd_T58 T s.at_).f1, 0, [p.1], [], []⟩ : Int) + 0; rw [cntS_ex]; simp only [cntL]; omega
  rw [if_neg e2]; by_cases e3 : (rd_T58 T s.at_).f0 = 3
  · rw [if_pos e3]
    refine tot_ex ((tot_word H ab hA st s I hS (by rw [e3]; decide)).mono ?_)
    rintro ⟨x, s1⟩ hq; exact tot_end H _ hpl s I (x, s1) hq
  rw [if_neg e3]; exact tot_err hpl
theorem st_tot {T : List S58} {N : Int} (H : TokT T N) (ab : Int → PSt → Option Res) (hA : ∀ s', Inv T s' → Tot N (ab 1 s') (ExQ T s')) : ∀ (h : Nat) (s : PSt), Inv T s → (T.length : Int) - s.at_ ≤ h → Tot N (stG T ab h s) (StQ 1 T s)
  | 0, s, I, hh => by have := I.a1; omega
  | h + 1, s, I, hh => tot_stmt H ab hA _ s I fun s' I' hs => st_tot H ab hA h s' I' (by omega)
def st0 (T : List S58) : PSt → Option SRes := stG T (ab0 T) T.length
theorem st0_ok (T : List S58) : StmC T (st0 T) := stG_ok T _ (ab0_ok T) _
theorem st0_tot {T : List S58} {N : Int} (H : TokT T N) (s : PSt) (I : Inv T s) : Tot N (st0 T s) (StQ 1 T s) := st_tot H _ (fun s' I' => ab0_tot H s' I') _ s I (by have := I.a0; omega)
theorem tot_pars {T : List S58} {N : Int} (H : TokT T N) (st : PSt → Option SRes) (hS : ∀ s', Inv T s' → Tot N (st s') (StQ 1 T s')) :
    ∀ (K : Nat) (xs : List S41) (s1 : PSt), Inv T s1 → s1.nodes = (cntB xs : Int) → s1.bl = 0 → xs.all (fitSt (fitB 12)) = true → (T.length : Int) - s1.at_ < K →
      Tot N (parsF T st K xs s1) (fun l => l.all (fitSt (fitB 12)) = true ∧ cntB l ≤ 600)
  | 0, xs, s1, I, q3, q6, q7, hk => by have := I.a1; omega
  | K + 1, xs, s1, I, q3, q6, q7, hk => by
    have i1 := I.n0; have i2 := I.n1; have i3 := I.o0; have i4 := I.o1; have i5 := I.b0; have i6 := I.b1; have i7 := I.a0; have i8 := I.a1; have hl := len_cntB xs; unfold parsF; rw [if_pos ⟨⟨i7, i8⟩, by omega⟩]
    by_cases hb : (rd_T58 T s1.at_).f0 = 0
    · rw [if_pos hb]
      exact tot_ok ⟨q7, by omega⟩
    rw [if_neg hb]; obtain ⟨r, e1, e2⟩ := hS s1 I; rw [e1]; rcases r with e | ⟨x, s2⟩
    · exact ⟨_, rfl, e2⟩
    obtain ⟨⟨r1, r2⟩, r3, r4, r5, r6, r7⟩ := e2; dsimp only at r1 r2 r3 r4 r5 r6 r7 ⊢; refine tot_pars H st hS K (xs ++ [x]) s2 ⟨by omega, r2, by omega, r4, by omega, by omega, by omega, by omega⟩ ?_ (by omega) ?_ (by omega)
    · rw [cntB_add]; simp only [cntB]; omega
    · rw [List.all_append, q7, List.all_cons, List.all_nil]
      rw [q6] at r7; rw [show fitSt (fitB 12) x = true from r7]; rfl
def parT (T : List S58) : Option (Except (Int × Int) (List S41)) := parsF T (st0 T) (T.length + 1) [] ⟨0, 0, 0, 0⟩
theorem parT_tot {T : List S58} {N : Int} (H : TokT T N) : Tot N (parT T) (fun l => l.all (fitSt (fitB 12)) = true ∧ cntB l ≤ 600) :=
  tot_pars H (st0 T) (fun s' I' => st0_tot H s' I') _ [] ⟨0, 0, 0, 0⟩ ⟨Int.le_refl _, by have := H.pos; show (0 : Int) < T.length; omega, Int.le_refl _, by show (0 : Int) ≤ 600; omega, Int.le_refl _, by show (0 : Int) ≤ 48; omega, Int.le_refl _, by show (0 : Int) ≤ 12; omega⟩ (by simp [cntB]) rfl rfl (by show (T.length : Int) - 0 < _; omega)
end Go.Proofs.Ytobkdmmnbnpemaa.K
