/- StampsSpec in plain Lean: the printed law tells true. No condition. -/
import Derived.Test.YtmenajpeendnoaaPrint8
import Derived.Test.YtmenajpeendnoaaPlainR1
namespace Go.Proofs.Ytmenajpeendnoaa.Pure
open Go.RowKit Go.Proofs.Ytmenajpeendnoaa.Print Go.Proofs.YtmenajpeendnoaaW.PrintWords Go.Proofs.YtmenajpeendnoaaW.PrintLast Go.Proofs.YtmenajpeendnoaaW.PrintMore Go.Proofs.Ytmenajpeendnoaa.Plain
set_option linter.unusedVariables false
theorem StampsSpec (s0 : S24) (w0 : Fits s0) (s1 : S24) (w1 : Fits s1) (a2 : Int) (w2 : (Lit.int .i64 a2).wf = true) : ∃ k, sizarlaw08_StampsSpec.f k s0.f0 s0.f1 s0.f2 s1.f0 s1.f1 s1.f2 a2 = some true := by
  refine ⟨20, ?_⟩
  have hn := wf64 w2
  unfold sizarlaw08_StampsSpec.f sizarlaw08_sane.f
  rw [Option.bind_some, if_pos rfl, Known_eq 19, refKnown_eq 19, Of_eq 19 _ hn, refOf_eq 19 _ hn, Check_eq 19, refCheck_eq 19, Compare_eq 16 s0 s1, refCompare_eq 19 s0 s1]
  simp only [Option.bind_some, if_true, beq_self_eq_true]
end Go.Proofs.Ytmenajpeendnoaa.Pure
