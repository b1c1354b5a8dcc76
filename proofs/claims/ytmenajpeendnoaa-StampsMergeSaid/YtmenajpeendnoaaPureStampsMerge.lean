/- StampsMerge in plain Lean: the printed law tells true. No condition. -/
import Derived.Test.YtmenajpeendnoaaPrint5
import Derived.Test.YtmenajpeendnoaaPlain2
namespace Go.Proofs.Ytmenajpeendnoaa.Pure
open Go.RowKit Go.Proofs.Ytmenajpeendnoaa.Print Go.Proofs.YtmenajpeendnoaaW.PrintWords Go.Proofs.YtmenajpeendnoaaW.PrintLast Go.Proofs.YtmenajpeendnoaaW.PrintMore Go.Proofs.Ytmenajpeendnoaa.Plain
set_option linter.unusedVariables false
theorem sm_l1 (x0 x1 m : List S24) (a b c : Int) (h0 : x0.length ≤ 40) (h1 : x1.length ≤ 40) (hm : m.length ≤ 80) (hin : ∀ s ∈ x0, s ∈ m) (hall : ∀ s, s ∈ m ↔ s ∈ x0 ∨ s ∈ x1) : ∀ d k i, x0.length = i + d → d + 200 ≤ k →
    sizarlaw08_StampsMerge.l1 k x0 x1 m (i : Int) a b c = some true := by
  intro d
  induction d with
  | zero =>
    intro k i hd hk
    obtain ⟨k, rfl⟩ : ∃ n, k = n + 1 := ⟨k - 1, by omega⟩
    simp only [sizarlaw08_StampsMerge.l1]
    rw [if_neg (by omega), in_eq m (by omega) a b c k (by omega), in_eq x0 (by omega) a b c k (by omega), in_eq x1 (by omega) a b c k (by omega)]
    simp only [Option.bind_some]
    have e := hall ⟨a, b, c⟩
    by_cases p : (⟨a, b, c⟩ : S24) ∈ x0
    · have q := e.2 (.inl p)
      simp [p, q]
    · rw [if_neg (by simpa using p)]
      by_cases q : (⟨a, b, c⟩ : S24) ∈ x1
      · have r := e.2 (.inr q)
        simp [q, r]
      · have r : ¬ (⟨a, b, c⟩ : S24) ∈ m := fun h => (e.1 h).elim p q
        simp [q, r]
  | succ d ih =>
    intro k i hd hk
    obtain ⟨k, rfl⟩ : ∃ n, k = n + 1 := ⟨k - 1, by omega⟩
    have hi : i < x0.length := by omega
    simp only [sizarlaw08_StampsMerge.l1]
    rw [if_pos (by omega), if_pos (by omega), rd_at x0 i hi, in_eq m (by omega) _ _ _ k (by omega), Option.bind_some, if_pos (decide_eq_true (hin _ (List.getElem_mem hi))), wrap_nat i (by omega)]
    exact ih k (i + 1) (by omega) (by omega)
theorem sm_l0 (x0 x1 m : List S24) (a b c : Int) (h0 : x0.length ≤ 40) (h1 : x1.length ≤ 40) (hm : m.length ≤ 80) (hin : ∀ s ∈ x0, s ∈ m) (hall : ∀ s, s ∈ m ↔ s ∈ x0 ∨ s ∈ x1) (hs : m.Pairwise Lt) : ∀ d k i, m.length = i + d → 2 * d + 300 ≤ k →
    sizarlaw08_StampsMerge.l0 k x0 x1 m (i : Int) a b c = some true := by
  intro d
  induction d with
  | zero =>
    intro k i hd hk
    obtain ⟨k, rfl⟩ : ∃ n, k = n + 1 := ⟨k - 1, by omega⟩
    simp only [sizarlaw08_StampsMerge.l0]
    rw [if_neg (by omega)]
    exact sm_l1 x0 x1 m a b c h0 h1 hm hin hall x0.length k 0 (by omega) (by omega)
  | succ d ih =>
    intro k i hd hk
    obtain ⟨k, rfl⟩ : ∃ n, k = n + 6 := ⟨k - 6, by omega⟩
    have hi : i < m.length := by omega
    have hnext : sizarlaw08_StampsMerge.j2 (k + 5) x0 x1 m (i : Int) false a b c = some true := by
      simp only [sizarlaw08_StampsMerge.j2]
      rw [if_neg (by decide), wrap_nat i (by omega)]
      exact ih (k + 4) (i + 1) (by omega) (by omega)
    have hcmp : (if (i : Int) > 0 then (if 0 ≤ (wrap64 ((i : Int) - 1)) then (if (wrap64 ((i : Int) - 1)) < (m.length : Int) then ((stamps_Compare.f (k + 5) ((rd_T24 m (wrap64 ((i : Int) - 1))).f0) ((rd_T24 m (wrap64 ((i : Int) - 1))).f1) ((rd_T24 m (wrap64 ((i : Int) - 1))).f2) ((rd_T24 m (i : Int)).f0) ((rd_T24 m (i : Int)).f1) ((rd_T24 m (i : Int)).f2)).bind fun t148 => (sizarlaw08_StampsMerge.j2 (k + 5) x0 x1 m (i : Int) (t148 != (-1)) a b c)) else (none)) else (none)) else (sizarlaw08_StampsMerge.j2 (k + 5) x0 x1 m (i : Int) false a b c)) = some true := by
      cases i with
      | zero => rw [if_neg (by omega)]; exact hnext
      | succ j =>
        rw [if_pos (by omega), wrap_pred j (by omega), if_pos (by omega), if_pos (by omega), rd_at m j (by omega), rd_at m (j + 1) hi, Compare_eq, Option.bind_some]
        have hlt : Lt m[j] m[j + 1] := List.pairwise_iff_getElem.1 hs j (j + 1) (by omega) hi (by omega)
        rw [cmp_lt hlt]
        exact hnext
    simp only [sizarlaw08_StampsMerge.l0]
    rw [if_pos (by omega), if_pos (by omega)]
    have hmem := (hall m[i]).1 (List.getElem_mem hi)
    by_cases p : m[i] ∈ x0
    · rw [rd_at m i hi] at *
      rw [in_eq x0 (by omega) _ _ _ (k + 5) (by omega), Option.bind_some, if_pos (decide_eq_true p)]
      exact hcmp
    · have q : m[i] ∈ x1 := hmem.resolve_left p
      rw [rd_at m i hi] at *
      rw [in_eq x0 (by omega) _ _ _ (k + 5) (by omega), Option.bind_some, if_neg (by simpa using p), in_eq x1 (by omega) _ _ _ (k + 5) (by omega), Option.bind_some, if_pos (decide_eq_true q)]
      exact hcmp
theorem StampsMerge (l0 : List S24) (w0 : ∀ s ∈ l0, Fits s) (l1 : List S24) (w1 : ∀ s ∈ l1, Fits s) (s2 : S24) (w2 : Fits s2) : ∃ k, sizarlaw08_StampsMerge.f k l0 l1 s2.f0 s2.f1 s2.f2 = some true := by
  refine ⟨2000, ?_⟩
  unfold sizarlaw08_StampsMerge.f sizarlaw08_sane.f
  rw [Option.bind_some, if_pos rfl, few_eq, few_eq, Option.bind_some, Option.bind_some]
  by_cases h0 : l0.length ≤ 40
  · rw [if_pos (decide_eq_true h0)]
    by_cases h1 : l1.length ≤ 40
    · rw [decide_eq_true h1]
      simp only [sizarlaw08_StampsMerge.j0]
      rw [if_neg (by decide)]
      by_cases hv : VL l0 ∧ VL l1
      · rw [Merge_ok (by omega) (by omega) hv.1 hv.2, Option.bind_some, if_pos rfl]
        have hlen := mergeL_len l0 l1
        have hall : ∀ s, s ∈ mergeL l0 l1 ↔ s ∈ l0 ∨ s ∈ l1 := fun s => mem_mergeL s l0 l1
        exact sm_l0 l0 l1 (mergeL l0 l1) _ _ _ h0 h1 (by omega) (fun s hs => (hall s).2 (.inl hs)) hall (sorted_mergeL l0 l1 hv.1.2 hv.2.2) (mergeL l0 l1).length 1999 0 (by omega) (by omega)
      · rw [Merge_bad (by omega) (by omega) hv, Option.bind_some, if_neg (by decide), if_pos rfl]
        rfl
    · rw [decide_eq_false h1]
      simp [sizarlaw08_StampsMerge.j0]
  · rw [if_neg (by simpa using h0)]
    simp [sizarlaw08_StampsMerge.j0]
end Go.Proofs.Ytmenajpeendnoaa.Pure
