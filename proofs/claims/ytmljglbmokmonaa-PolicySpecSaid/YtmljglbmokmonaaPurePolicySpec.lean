/- PolicySpec in plain Lean: the printed law tells true. No condition. -/
import Derived.Test.YtmljglbmokmonaaPlain
namespace Go.Proofs.Ytmljglbmokmonaa.Pure
open Go.RowKit Go.Proofs.Ytmljglbmokmonaa.Print Go.Proofs.YtmljglbmokmonaaW.PrintWords Go.Proofs.Ytmljglbmokmonaa.Plain
set_option linter.unusedVariables false
theorem PolicySpec (l : List S35) (hl : ∀ s ∈ l, Fits s) (a1 : Int) (w1 : (Lit.int .i64 a1).wf = true) (a2 : Int) (w2 : (Lit.int .i64 a2).wf = true) (a3 : Int) (w3 : (Lit.int .i64 a3).wf = true) (a4 : Int) (w4 : (Lit.int .i64 a4).wf = true) (a5 : Int) (w5 : (Lit.int .i64 a5).wf = true) :
    ∃ k, sizarlaw33_PolicySpec.f k l a1 a2 a3 a4 a5 = some true := by
  refine ⟨2000, ?_⟩
  unfold sizarlaw33_PolicySpec.f sizarlaw33_sane.f
  rw [Option.bind_some, if_pos rfl, few_eq, Option.bind_some]
  by_cases h : l.length ≤ 30
  · rw [if_pos (decide_eq_true h), Action_eq, Option.bind_some, refAction_eq l (by omega) _ (by omega), Option.bind_some, refCheck_eq l (by omega) _ (by omega)]
    simp [policy_Check.f]
  · rw [if_neg (by simpa using h)]
end Go.Proofs.Ytmljglbmokmonaa.Pure
