/- PolicyUntilSpec in plain Lean: the printed law tells true. No condition. -/
import Derived.Test.YtmljglbmokmonaaPlain2
import Derived.Test.YtmljglbmokmonaaPrint3
namespace Go.Proofs.Ytmljglbmokmonaa.Pure
open Go.RowKit Go.Proofs.Ytmljglbmokmonaa.Print Go.Proofs.YtmljglbmokmonaaW.PrintWords Go.Proofs.Ytmljglbmokmonaa.Plain
set_option linter.unusedVariables false
theorem PolicyUntilSpec (l : List S35) (hl : ∀ s ∈ l, Fits s) (a1 : Int) (w1 : (Lit.int .i64 a1).wf = true) (a2 : Int) (w2 : (Lit.int .i64 a2).wf = true) (a3 : Int) (w3 : (Lit.int .i64 a3).wf = true) (a4 : Int) (w4 : (Lit.int .i64 a4).wf = true) :
    ∃ k, sizarlaw33_PolicyUntilSpec.f k l a1 a2 a3 a4 = some true := by
  refine ⟨3000, ?_⟩
  unfold sizarlaw33_PolicyUntilSpec.f sizarlaw33_sane.f
  rw [Option.bind_some, if_pos rfl, few_eq, Option.bind_some]
  by_cases h : l.length ≤ 30
  · rw [if_pos (decide_eq_true h), Until_eq l _ (by omega), Option.bind_some, refUntil_eq l (by omega) _ (by omega), Option.bind_some, refWorse_eq _ (by omega)]
    simp [policy_Worse.f, worseR]
  · rw [if_neg (by simpa using h)]
end Go.Proofs.Ytmljglbmokmonaa.Pure
