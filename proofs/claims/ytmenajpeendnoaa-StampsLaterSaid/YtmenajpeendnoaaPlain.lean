/- What the printed Lean functions of stamps and of its reference come to, in plain Lean: no program in sight. Conditions: numbers within their kind; enough rounds. -/
import Derived.Test.YtmenajpeendnoaaPrint4
import Derived.Test.YtmenajpeendnoaaHandA
import Derived.Test.YtmenajpeendnoaaOpen
namespace Go.Proofs.Ytmenajpeendnoaa.Plain
open Go.RowKit Go.Proofs.Ytmenajpeendnoaa.Print Go.Proofs.YtmenajpeendnoaaW.PrintWords Go.Proofs.YtmenajpeendnoaaW.PrintLast Go.Proofs.YtmenajpeendnoaaW.PrintMore
set_option linter.unusedVariables false
abbrev okS (a b c : Int) : Prop := 1 ≤ a ∧ a ≤ 1048576 ∧ 0 ≤ b ∧ b ≤ 6 ∧ 1 ≤ c ∧ c ≤ 1048576
theorem wf64 {a : Int} (h : (Lit.int .i64 a).wf = true) : -9223372036854775808 ≤ a ∧ a ≤ 9223372036854775807 := by
  simp [Lit.wf, IntKind.min, IntKind.max, IntKind.signed, IntKind.bits] at h
  omega
theorem Check_eq (k : Nat) (a b c : Int) : stamps_Check.f (k + 1) a b c = some (if okS a b c then 0 else 80) := by
  unfold stamps_Check.f stamps_within.f okS
  by_cases h1 : a ≥ 1
  · by_cases h2 : a ≤ 1048576
    · by_cases h3 : b ≥ 0
      · by_cases h4 : b ≤ 6
        · by_cases h5 : c ≥ 1
          · by_cases h6 : c ≤ 1048576
            · simp [stamps_Check.j0, h1, h2, h3, h4, h5, h6]
            · simp [stamps_Check.j0, h1, h2, h3, h4, h5, h6]
          · simp [stamps_Check.j0, h1, h2, h3, h4, h5]
        · simp [stamps_Check.j0, h1, h2, h3, h4]
      · simp [stamps_Check.j0, h1, h2, h3]
    · simp [stamps_Check.j0, h1, h2]
  · simp [stamps_Check.j0, h1]
theorem Known_eq (k : Nat) (a b c : Int) : stamps_Known.f (k + 1) a b c = some (if okS a b c then (8 * a + b, 0) else (0, 80)) := by
  unfold stamps_Known.f
  rw [Check_eq, Option.bind_some]
  by_cases h : okS a b c
  · rw [if_pos h, if_pos rfl, if_pos h]
    obtain ⟨h1, h2, h3, h4, h5, h6⟩ := h
    have w1 : wrap64 (8 * a) = 8 * a := by unfold wrap64; omega
    have w2 : wrap64 (8 * a + b) = 8 * a + b := by unfold wrap64; omega
    rw [w1, w2]
  · rw [if_neg h, if_neg (by decide), if_neg h]
theorem tdm (n : Int) : (0 ≤ n ∧ n.tdiv 8 = n / 8 ∧ n.tmod 8 = n % 8) ∨ (n < 0 ∧ n.tdiv 8 = -(-n / 8) ∧ n.tmod 8 = -(-n % 8)) := by
  by_cases h : 0 ≤ n
  · exact .inl ⟨h, Int.tdiv_eq_ediv_of_nonneg h, Int.tmod_eq_emod_of_nonneg h⟩
  · refine .inr ⟨by omega, ?_, ?_⟩
    · rw [← Int.tdiv_eq_ediv_of_nonneg (show 0 ≤ -n by omega), Int.neg_tdiv]; omega
    · rw [← Int.tmod_eq_emod_of_nonneg (show 0 ≤ -n by omega), Int.neg_tmod]; omega
theorem Of_eq (k : Nat) (n : Int) (hn : -9223372036854775808 ≤ n ∧ n ≤ 9223372036854775807) : stamps_Of.f (k + 1) n = some (if 8 ≤ n ∧ n / 8 ≤ 1048576 ∧ n % 8 ≤ 6 then (n / 8, n % 8, 0) else (0, 0, 80)) := by
  unfold stamps_Of.f
  have w : wrap64 (n.tdiv 8) = n.tdiv 8 := by
    rcases tdm n with ⟨_, h, _⟩ | ⟨_, h, _⟩ <;> (rw [h]; unfold wrap64; omega)
  rw [w, Check_eq, Option.bind_some]
  rcases tdm n with ⟨h0, h1, h2⟩ | ⟨h0, h1, h2⟩
  · rw [h1, h2]
    by_cases h : 8 ≤ n ∧ n / 8 ≤ 1048576 ∧ n % 8 ≤ 6
    · have ho : okS (n / 8) (n % 8) 1 := by unfold okS; omega
      rw [if_pos h, if_pos ho, if_pos rfl]
    · have ho : ¬ okS (n / 8) (n % 8) 1 := by unfold okS; omega
      rw [if_neg h, if_neg ho, if_neg (by decide)]
  · rw [h1, h2]
    have ho : ¬ okS (-(-n / 8)) (-(-n % 8)) 1 := by unfold okS; omega
    rw [if_neg ho, if_neg (by decide), if_neg (by omega)]
/-! ### The order -/
def Lt (x y : S24) : Prop := x.f0 < y.f0 ∨ x.f0 = y.f0 ∧ (x.f1 < y.f1 ∨ x.f1 = y.f1 ∧ x.f2 < y.f2)
theorem cmp_cases (a b : Int) : (a < b ∧ cmpI a b = -1) ∨ (a = b ∧ cmpI a b = 0) ∨ (b < a ∧ cmpI a b = 1) := by
  unfold cmpI
  rcases Int.lt_trichotomy a b with h | h | h
  · exact .inl ⟨h, if_pos h⟩
  · exact .inr (.inl ⟨h, by rw [if_neg (by omega), if_neg (by omega)]⟩)
  · exact .inr (.inr ⟨h, by rw [if_neg (by omega), if_pos h]⟩)
theorem cmp_tri (x y : S24) : (Lt x y ∧ cmpS x y = -1) ∨ (x = y ∧ cmpS x y = 0) ∨ (Lt y x ∧ cmpS x y = 1) := by
  have he : x = y ↔ x.f0 = y.f0 ∧ x.f1 = y.f1 ∧ x.f2 = y.f2 := by cases x; cases y; simp
  rw [he]
  unfold cmpS Lt
  have c0 := cmp_cases x.f0 y.f0
  have c1 := cmp_cases x.f1 y.f1
  have c2 := cmp_cases x.f2 y.f2
  by_cases h0 : cmpI x.f0 y.f0 ≠ 0
  · rw [if_pos h0]; omega
  · rw [if_neg h0]
    by_cases h1 : cmpI x.f1 y.f1 ≠ 0
    · rw [if_pos h1]; omega
    · rw [if_neg h1]; omega
theorem Lt.trans {x y z : S24} (h : Lt x y) (k : Lt y z) : Lt x z := by unfold Lt at *; omega
theorem Lt.irrefl {x : S24} (h : Lt x x) : False := by unfold Lt at *; omega
theorem Lt.asymm {x y : S24} (h : Lt x y) (k : Lt y x) : False := (h.trans k).irrefl
theorem cmp_neg {x y : S24} : cmpS x y < 0 ↔ Lt x y := by
  rcases cmp_tri x y with ⟨h, e⟩ | ⟨h, e⟩ | ⟨h, e⟩
  · exact ⟨fun _ => h, fun _ => by omega⟩
  · exact ⟨fun _ => by omega, fun k => by subst h; exact k.irrefl.elim⟩
  · exact ⟨fun _ => by omega, fun k => (k.asymm h).elim⟩
theorem cmp_lt {x y : S24} (h : Lt x y) : cmpS x y = -1 := by
  rcases cmp_tri x y with ⟨_, e⟩ | ⟨k, e⟩ | ⟨k, e⟩
  · exact e
  · subst k; exact h.irrefl.elim
  · exact (h.asymm k).elim
/-! ### Merging two lists -/
theorem mem_mergeL (s : S24) : ∀ l m : List S24, s ∈ mergeL l m ↔ s ∈ l ∨ s ∈ m := by
  intro l m
  induction l, m using mergeL.induct with
  | case1 ys => simp [mergeL]
  | case2 x xs => simp [mergeL]
  | case3 x xs y ys h ih => rw [mergeL, if_pos h, List.mem_cons, ih]; simp only [List.mem_cons]; exact or_assoc.symm
  | case4 x xs y ys h h2 ih => rw [mergeL, if_neg h, if_pos h2, List.mem_cons, ih]; simp only [List.mem_cons]; exact or_left_comm
  | case5 x xs y ys h h2 ih =>
    rw [mergeL, if_neg h, if_neg h2, List.mem_cons, ih]
    have : x = y := by rcases cmp_tri x y with ⟨_, e⟩ | ⟨k, e⟩ | ⟨_, e⟩ <;> first | exact k | omega
    subst this
    simp only [List.mem_cons]
    exact ⟨fun k => k.elim (fun e => .inl (.inl e)) (fun e => e.elim (fun e => .inl (.inr e)) (fun e => .inr (.inr e))), fun k => k.elim (fun e => e.elim .inl (fun e => .inr (.inl e))) (fun e => e.elim .inl (fun e => .inr (.inr e)))⟩
theorem sorted_mergeL : ∀ l m : List S24, l.Pairwise Lt → m.Pairwise Lt → (mergeL l m).Pairwise Lt := by
  intro l m
  induction l, m using mergeL.induct with
  | case1 ys => intro _ h; simpa [mergeL] using h
  | case2 x xs => intro h _; simpa [mergeL] using h
  | case3 x xs y ys h ih =>
    intro hl hm
    rw [mergeL, if_pos h, List.pairwise_cons]
    rw [List.pairwise_cons] at hl
    refine ⟨fun s hs => ?_, ih hl.2 hm⟩
    have hxy := cmp_neg.1 h
    rcases (mem_mergeL s _ _).1 hs with k | k
    · exact hl.1 s k
    · rcases List.mem_cons.1 k with rfl | k
      · exact hxy
      · exact hxy.trans ((List.pairwise_cons.1 hm).1 s k)
  | case4 x xs y ys h h2 ih =>
    intro hl hm
    rw [mergeL, if_neg h, if_pos h2, List.pairwise_cons]
    rw [List.pairwise_cons] at hm
    refine ⟨fun s hs => ?_, ih hl hm.2⟩
    have hyx : Lt y x := by rcases cmp_tri x y with ⟨_, e⟩ | ⟨_, e⟩ | ⟨k, e⟩ <;> first | exact k | omega
    rcases (mem_mergeL s _ _).1 hs with k | k
    · rcases List.mem_cons.1 k with rfl | k
      · exact hyx
      · exact hyx.trans ((List.pairwise_cons.1 hl).1 s k)
    · exact hm.1 s k
  | case5 x xs y ys h h2 ih =>
    intro hl hm
    rw [mergeL, if_neg h, if_neg h2, List.pairwise_cons]
    rw [List.pairwise_cons] at hl hm
    refine ⟨fun s hs => ?_, ih hl.2 hm.2⟩
    have hxy : x = y := by rcases cmp_tri x y with ⟨_, e⟩ | ⟨k, e⟩ | ⟨_, e⟩ <;> first | exact k | omega
    subst hxy
    rcases (mem_mergeL s _ _).1 hs with k | k
    · exact hl.1 s k
    · exact hm.1 s k
theorem sorted_ext : ∀ l m : List S24, l.Pairwise Lt → m.Pairwise Lt → (∀ s, s ∈ l ↔ s ∈ m) → l = m
  | [], [], _, _, _ => rfl
  | [], y :: ys, _, _, h => by have := (h y).2 (by simp); cases this
  | x :: xs, [], _, _, h => by have := (h x).1 (by simp); cases this
  | x :: xs, y :: ys, hl, hm, h => by
    rw [List.pairwise_cons] at hl hm
    have e : x = y := by
      rcases List.mem_cons.1 ((h x).1 (by simp)) with e | e
      · exact e
      · rcases List.mem_cons.1 ((h y).2 (by simp)) with k | k
        · exact k.symm
        · exact ((hm.1 x e).asymm (hl.1 y k)).elim
    subst e
    congr 1
    refine sorted_ext xs ys hl.2 hm.2 fun s => ⟨fun hs => ?_, fun hs => ?_⟩
    · rcases List.mem_cons.1 ((h s).1 (List.mem_cons_of_mem _ hs)) with k | k
      · subst k; exact (hl.1 _ hs).irrefl.elim
      · exact k
    · rcases List.mem_cons.1 ((h s).2 (List.mem_cons_of_mem _ hs)) with k | k
      · subst k; exact (hm.1 _ hs).irrefl.elim
      · exact k
/-! ### Valid lists -/
abbrev okT (s : S24) : Prop := okS s.f0 s.f1 s.f2
def VL (l : List S24) : Prop := (∀ s ∈ l, okT s) ∧ l.Pairwise Lt
def vl : Option S24 → List S24 → Bool
  | _, [] => true
  | p, x :: r => if okT x then (match p with | none => vl (some x) r | some y => if cmpS y x < 0 then vl (some x) r else false) else false
theorem vl_some : ∀ (r : List S24) (p : S24), vl (some p) r = true ↔ (∀ s ∈ r, okT s) ∧ (p :: r).Pairwise Lt
  | [], p => by simp [vl]
  | x :: r, p => by
    unfold vl
    by_cases h : okT x
    · rw [if_pos h]
      by_cases hc : cmpS p x < 0
      · simp only [if_pos hc]
        rw [vl_some r x]
        have hp := cmp_neg.1 hc
        constructor
        · rintro ⟨h1, h2⟩
          refine ⟨by simpa using ⟨h, h1⟩, ?_⟩
          rw [List.pairwise_cons]
          refine ⟨fun s hs => ?_, h2⟩
          rcases List.mem_cons.1 hs with rfl | hs
          · exact hp
          · exact hp.trans ((List.pairwise_cons.1 h2).1 s hs)
        · rintro ⟨h1, h2⟩
          exact ⟨fun s hs => h1 s (List.mem_cons_of_mem _ hs), (List.pairwise_cons.1 h2).2⟩
      · simp only [if_neg hc]
        refine ⟨fun k => (by cases k), fun ⟨_, h2⟩ => ?_⟩
        exact absurd (cmp_neg.2 ((List.pairwise_cons.1 h2).1 x (by simp))) hc
    · rw [if_neg h]
      exact ⟨fun k => (by cases k), fun ⟨h1, _⟩ => absurd (h1 x (by simp)) h⟩
theorem vl_none (l : List S24) : vl none l = true ↔ VL l := by
  cases l with
  | nil => simp [vl, VL]
  | cons x r =>
    unfold vl VL
    by_cases h : okT x
    · rw [if_pos h]
      simp only []
      rw [vl_some r x]
      constructor
      · rintro ⟨h1, h2⟩; exact ⟨by simpa using ⟨h, h1⟩, h2⟩
      · rintro ⟨h1, h2⟩; exact ⟨fun s hs => h1 s (List.mem_cons_of_mem _ hs), h2⟩
    · rw [if_neg h]
      exact ⟨fun k => (by cases k), fun ⟨h1, _⟩ => absurd (h1 x (by simp)) h⟩
theorem VL.merge {l m : List S24} (h : VL l) (k : VL m) : VL (mergeL l m) :=
  ⟨fun s hs => ((mem_mergeL s l m).1 hs).elim (h.1 s) (k.1 s), sorted_mergeL l m h.2 k.2⟩
theorem wrap_nat (i : Nat) (h : i ≤ 100000) : wrap64 ((i : Int) + 1) = ((i + 1 : Nat) : Int) := by unfold wrap64; omega
theorem wrap_pred (i : Nat) (h : i + 1 ≤ 100000) : wrap64 (((i + 1 : Nat) : Int) - 1) = (i : Int) := by unfold wrap64; omega
theorem rd_at (l : List S24) (i : Nat) (h : i < l.length) : rd_T24 l (i : Int) = l[i] := by simp [rd_T24, List.getD_eq_getElem?_getD, h]
theorem drop_at (l : List S24) (i : Nat) (h : i < l.length) : l.drop i = l[i] :: l.drop (i + 1) := List.drop_eq_getElem_cons h
theorem valid_l0 (l : List S24) (hl : l.length ≤ 2000) : ∀ d k i, l.length = i + d → 2 * d + 6 ≤ k →
    stamps_valid.l0 k l l (l.length : Int) (i : Int) = some (vl (if i = 0 then none else l[i - 1]?) (l.drop i)) := by
  intro d
  induction d with
  | zero =>
    intro k i hd hk
    obtain ⟨k, rfl⟩ : ∃ m, k = m + 1 := ⟨k - 1, by omega⟩
    simp only [stamps_valid.l0]
    rw [if_neg (by omega), List.drop_of_length_le (by omega)]
    simp [vl]
  | succ d ih =>
    intro k i hd hk
    obtain ⟨k, rfl⟩ : ∃ m, k = m + 8 := ⟨k - 8, by omega⟩
    have hi : i < l.length := by omega
    simp only [stamps_valid.l0]
    rw [if_pos (by omega), if_pos (by omega), if_pos (by omega), rd_at l i hi, drop_at l i hi, Check_eq, Option.bind_some]
    unfold vl
    by_cases ho : okT l[i]
    · rw [if_pos ho, if_pos rfl, if_pos ho]
      have hn := ih (k + 6) (i + 1) (by omega) (by omega)
      rw [if_neg (by omega)] at hn
      have hg : l[i + 1 - 1]? = some l[i] := by simp [hi]
      rw [hg] at hn
      cases i with
      | zero =>
        rw [if_neg (by decide)]
        simp only [stamps_valid.j1]
        rw [if_neg (by decide), wrap_nat 0 (by omega), hn]
        simp
      | succ j =>
        rw [if_pos (by omega), wrap_pred j (by omega), if_pos (by omega), if_pos (by omega), rd_at l j (by omega), Compare_eq, Option.bind_some]
        rw [if_neg (by omega)]
        have hg2 : l[j + 1 - 1]? = some l[j] := by simp
        rw [hg2]
        simp only [stamps_valid.j1]
        by_cases hc : cmpS l[j] l[j + 1] < 0
        · rw [decide_eq_false (show ¬ (cmpS l[j] l[j + 1] ≥ 0) by omega), if_neg (by decide), wrap_nat (j + 1) (by omega), hn]
          simp [hc]
        · rw [decide_eq_true (show (cmpS l[j] l[j + 1] ≥ 0) by omega), if_pos rfl]
          simp [hc]
    · rw [if_neg ho, if_neg (by decide), if_neg ho]
      simp [stamps_valid.j1]
theorem valid_eq (l : List S24) (hl : l.length ≤ 2000) (k : Nat) (hk : 2 * l.length + 6 ≤ k) : stamps_valid.f k l = some (vl none l) := by
  have := valid_l0 l hl l.length k 0 (by omega) hk
  simpa [stamps_valid.f] using this
instance : DecidableEq S24 := fun x y => decidable_of_iff (x.f0 = y.f0 ∧ x.f1 = y.f1 ∧ x.f2 = y.f2) (by cases x; cases y; simp)
theorem in_l0 (l : List S24) (hl : l.length ≤ 2000) (a b c : Int) : ∀ d k i, l.length = i + d → d + 1 ≤ k →
    sizarlaw08_in.l0 k l (i : Int) a b c = some (decide ((⟨a, b, c⟩ : S24) ∈ l.drop i)) := by
  intro d
  induction d with
  | zero =>
    intro k i hd hk
    obtain ⟨k, rfl⟩ : ∃ m, k = m + 1 := ⟨k - 1, by omega⟩
    simp only [sizarlaw08_in.l0]
    rw [if_neg (by omega), List.drop_of_length_le (by omega)]
    simp
  | succ d ih =>
    intro k i hd hk
    obtain ⟨k, rfl⟩ : ∃ m, k = m + 1 := ⟨k - 1, by omega⟩
    have hi : i < l.length := by omega
    simp only [sizarlaw08_in.l0]
    rw [if_pos (by omega), if_pos (by omega), rd_at l i hi, drop_at l i hi, wrap_nat i (by omega), ih k (i + 1) (by omega) (by omega)]
    generalize l[i] = x
    have he : (⟨a, b, c⟩ : S24) = x ↔ x.f0 = a ∧ x.f1 = b ∧ x.f2 = c := by
      cases x; simp; constructor <;> (rintro ⟨h1, h2, h3⟩; exact ⟨h1.symm, h2.symm, h3.symm⟩)
    by_cases h : x.f0 = a ∧ x.f1 = b ∧ x.f2 = c
    · rw [if_pos (by simpa using h)]
      have := he.2 h
      simp [this]
    · rw [if_neg (by simpa using h)]
      have : ¬ ((⟨a, b, c⟩ : S24) = x) := fun e => h (he.1 e)
      simp [List.mem_cons, this]
theorem in_eq (l : List S24) (hl : l.length ≤ 2000) (a b c : Int) (k : Nat) (hk : l.length + 1 ≤ k) : sizarlaw08_in.f k l a b c = some (decide ((⟨a, b, c⟩ : S24) ∈ l)) := by
  have := in_l0 l hl a b c l.length k 0 (by omega) hk
  simpa [sizarlaw08_in.f] using this
theorem same_l0 (l : List S24) (hl : l.length ≤ 2000) : ∀ d k i, l.length = i + d → d + 1 ≤ k → sizarref08_Same.l0 k l l (i : Int) = some true := by
  intro d
  induction d with
  | zero =>
    intro k i hd hk
    obtain ⟨k, rfl⟩ : ∃ m, k = m + 1 := ⟨k - 1, by omega⟩
    simp only [sizarref08_Same.l0]
    rw [if_neg (by omega)]
  | succ d ih =>
    intro k i hd hk
    obtain ⟨k, rfl⟩ : ∃ m, k = m + 1 := ⟨k - 1, by omega⟩
    simp only [sizarref08_Same.l0]
    rw [if_pos (by omega), if_pos (by omega), if_pos (by omega), if_neg (by simp), wrap_nat i (by omega), ih k (i + 1) (by omega) (by omega)]
theorem same_eq (l : List S24) (hl : l.length ≤ 2000) (k : Nat) (hk : l.length + 1 ≤ k) : sizarref08_Same.f k l l = some true := by
  unfold sizarref08_Same.f
  rw [if_pos rfl]
  simpa using same_l0 l hl l.length k 0 (by omega) hk
theorem few_eq (l : List S24) : sizarref08_Few.f l = some (decide (l.length ≤ 40)) := by
  unfold sizarref08_Few.f
  congr 1
  rw [Bool.eq_iff_iff, decide_eq_true_iff, decide_eq_true_iff]
  omega
end Go.Proofs.Ytmenajpeendnoaa.Plain
