/- StampsLists in plain Lean: the printed law tells true. No condition. -/
import Derived.Test.YtmenajpeendnoaaPrint6
import Derived.Test.YtmenajpeendnoaaPlain2
namespace Go.Proofs.Ytmenajpeendnoaa.Pure
open Go.RowKit Go.Proofs.Ytmenajpeendnoaa.Print Go.Proofs.YtmenajpeendnoaaW.PrintWords Go.Proofs.YtmenajpeendnoaaW.PrintLast Go.Proofs.YtmenajpeendnoaaW.PrintMore Go.Proofs.Ytmenajpeendnoaa.Plain
set_option linter.unusedVariables false
theorem StampsLists (l0 : List S24) (w0 : ∀ s ∈ l0, Fits s) (l1 : List S24) (w1 : ∀ s ∈ l1, Fits s) (l2 : List S24) (w2 : ∀ s ∈ l2, Fits s) : ∃ k, sizarlaw08_StampsLists.f k l0 l1 l2 = some true := by
  refine ⟨2000, ?_⟩
  unfold sizarlaw08_StampsLists.f sizarlaw08_sane.f
  rw [Option.bind_some, if_pos rfl, few_eq, few_eq, few_eq, Option.bind_some, Option.bind_some, Option.bind_some]
  by_cases h0 : l0.length ≤ 40
  · rw [if_pos (decide_eq_true h0)]
    by_cases h1 : l1.length ≤ 40
    · rw [if_pos (decide_eq_true h1)]
      by_cases h2 : l2.length ≤ 40
      · rw [decide_eq_true h2]
        simp only [sizarlaw08_StampsLists.j0]
        rw [if_neg (by decide)]
        by_cases hv : VL l0 ∧ VL l1
        · rw [Merge_ok (by omega) (by omega) hv.1 hv.2, Option.bind_some]
          by_cases hu : VL l1 ∧ VL l2
          · rw [Merge_ok (by omega) (by omega) hu.1 hu.2, Option.bind_some, if_pos rfl]
            have e01 := mergeL_len l0 l1
            have e12 := mergeL_len l1 l2
            have e10 := mergeL_len l1 l0
            have e3 := mergeL_len (mergeL l0 l1) l2
            have v01 := hv.1.merge hv.2
            have v12 := hu.1.merge hu.2
            have hc : mergeL l1 l0 = mergeL l0 l1 := sorted_ext _ _ (sorted_mergeL _ _ hv.2.2 hv.1.2) v01.2 fun s => by rw [mem_mergeL, mem_mergeL]; exact Or.comm
            have ha : mergeL l0 (mergeL l1 l2) = mergeL (mergeL l0 l1) l2 := sorted_ext _ _ (sorted_mergeL _ _ hv.1.2 v12.2) (sorted_mergeL _ _ v01.2 hu.2.2) fun s => by simp only [mem_mergeL]; exact or_assoc.symm
            have hi : mergeL l0 l0 = l0 := sorted_ext _ _ (sorted_mergeL _ _ hv.1.2 hv.1.2) hv.1.2 fun s => by rw [mem_mergeL]; exact or_self_iff
            simp only [sizarlaw08_StampsLists.j1]
            rw [if_neg (by decide), Merge_ok (by omega) (by omega) hv.2 hv.1, Merge_ok (by omega) (by omega) v01 hu.2, Merge_ok (by omega) (by omega) hv.1 v12, Merge_ok (by omega) (by omega) hv.1 hv.1]
            simp only [Option.bind_some, if_true]
            rw [hc, ha, hi, same_eq _ (by omega) _ (by omega), Option.bind_some, if_pos rfl, same_eq _ (by omega) _ (by omega), Option.bind_some, if_pos rfl, same_eq _ (by omega) _ (by omega)]
            rfl
          · rw [Merge_bad (by omega) (by omega) hu, Option.bind_some, if_pos rfl]
            simp [sizarlaw08_StampsLists.j1]
        · rw [Merge_bad (by omega) (by omega) hv, Option.bind_some, Merge_eq l1 l2 (by omega) (by omega), Option.bind_some, if_neg (by decide)]
          simp [sizarlaw08_StampsLists.j1]
      · rw [decide_eq_false h2]
        simp [sizarlaw08_StampsLists.j0]
    · rw [if_neg (by simpa using h1)]
      simp [sizarlaw08_StampsLists.j0]
  · rw [if_neg (by simpa using h0)]
    simp [sizarlaw08_StampsLists.j0]
end Go.Proofs.Ytmenajpeendnoaa.Pure
