/- StampsNextSpec in plain Lean: the printed law tells true. No condition. -/
import Derived.Test.YtmenajpeendnoaaPrint12
import Derived.Test.YtmenajpeendnoaaPlainR2
namespace Go.Proofs.Ytmenajpeendnoaa.Pure
open Go.RowKit Go.Proofs.Ytmenajpeendnoaa.Print Go.Proofs.YtmenajpeendnoaaW.PrintWords Go.Proofs.YtmenajpeendnoaaW.PrintLast Go.Proofs.YtmenajpeendnoaaW.PrintMore Go.Proofs.Ytmenajpeendnoaa.Plain
set_option linter.unusedVariables false
theorem StampsNextSpec (s0 : S24) (w0 : Fits s0) (a1 : Int) (w1 : (Lit.int .i64 a1).wf = true) (l2 : List S24) (w2 : ∀ s ∈ l2, Fits s) (l3 : List S24) (w3 : ∀ s ∈ l3, Fits s) : ∃ k, sizarlaw08_StampsNextSpec.f k s0.f0 s0.f1 s0.f2 a1 l2 l3 = some true := by
  refine ⟨3000, ?_⟩
  unfold sizarlaw08_StampsNextSpec.f sizarlaw08_sane.f
  rw [Option.bind_some, if_pos rfl, few_eq, few_eq, Option.bind_some, Option.bind_some]
  by_cases h2 : l2.length ≤ 40
  · rw [if_pos (decide_eq_true h2)]
    by_cases h3 : l3.length ≤ 40
    · rw [decide_eq_true h3]
      simp only [sizarlaw08_StampsNextSpec.j0]
      rw [if_neg (by decide), Next_eq 2997, refNext_eq 2998, Merge_eq l2 l3 (by omega) (by omega), refMerge_eq l2 l3 (by omega) (by omega) 2999 (by omega)]
      simp only [Option.bind_some]
      rw [if_pos (by simp), if_pos trivial]
      have hlen := mergeL_len l2 l3
      have hb : (if vl none l2 = true ∧ vl none l3 = true then (mergeL l2 l3, (0 : Int)) else ([], 80)).1.length ≤ 80 := by
        by_cases hv : vl none l2 = true ∧ vl none l3 = true
        · rw [if_pos hv]; simp only []; omega
        · rw [if_neg hv]; simp
      rw [same_eq _ (by omega) _ (by omega), Option.bind_some, if_pos rfl]
      simp
    · rw [decide_eq_false h3]
      simp [sizarlaw08_StampsNextSpec.j0]
  · rw [if_neg (by simpa using h2)]
    simp [sizarlaw08_StampsNextSpec.j0]
end Go.Proofs.Ytmenajpeendnoaa.Pure
