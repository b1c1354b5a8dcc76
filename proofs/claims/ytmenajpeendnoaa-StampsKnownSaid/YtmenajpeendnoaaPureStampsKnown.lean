/- StampsKnown in plain Lean: the printed law tells true. No condition. -/
import Derived.Test.YtmenajpeendnoaaPrint13
import Derived.Test.YtmenajpeendnoaaPlain
namespace Go.Proofs.Ytmenajpeendnoaa.Pure
open Go.RowKit Go.Proofs.Ytmenajpeendnoaa.Print Go.Proofs.YtmenajpeendnoaaW.PrintWords Go.Proofs.YtmenajpeendnoaaW.PrintLast Go.Proofs.YtmenajpeendnoaaW.PrintMore Go.Proofs.Ytmenajpeendnoaa.Plain
set_option linter.unusedVariables false
theorem StampsKnown (s0 : S24) (w0 : Fits s0) (s1 : S24) (w1 : Fits s1) : ∃ k, sizarlaw08_StampsKnown.f k s0.f0 s0.f1 s0.f2 s1.f0 s1.f1 s1.f2 = some true := by
  refine ⟨20, ?_⟩
  unfold sizarlaw08_StampsKnown.f sizarlaw08_sane.f
  rw [Option.bind_some, if_pos rfl, Known_eq 19, Known_eq 19]
  simp only [Option.bind_some]
  by_cases h0 : okT s0
  · rw [if_pos h0, if_pos rfl]
    by_cases h1 : okT s1
    · rw [if_pos h1]
      have g0 := h0
      have g1 := h1
      simp only [okT, okS] at g0 g1
      simp only [sizarlaw08_StampsKnown.j0]
      have e1 : (8 * s0.f0 + s0.f1) / 8 = s0.f0 := by omega
      have e2 : (8 * s0.f0 + s0.f1) % 8 = s0.f1 := by omega
      rw [if_neg (by decide), Of_eq 18 _ (by omega), if_pos (by omega), Option.bind_some, e1, e2]
      simp only [if_true]
      rw [if_neg (by omega), decide_eq_false (by omega)]
      simp only [sizarlaw08_StampsKnown.j1]
      rw [if_neg (by decide)]
      by_cases hm : 8 * s0.f0 + s0.f1 = 8 * s1.f0 + s1.f1
      · rw [if_pos hm, if_pos (by omega)]
        have : s0.f1 = s1.f1 := by omega
        simp [this]
      · rw [if_neg hm, Compare_eq 14 s0 s1, Option.bind_some]
        congr 1
        rw [beq_iff_eq, Bool.eq_iff_iff, decide_eq_true_iff, decide_eq_true_iff, cmp_neg]
        unfold Lt
        omega
    · rw [if_neg h1]
      simp only [sizarlaw08_StampsKnown.j0]
      rw [if_pos (by decide), Check_eq 18, Option.bind_some, if_pos h0, if_pos rfl, Check_eq 18, Option.bind_some, if_neg h1]
      rfl
  · rw [if_neg h0, if_neg (by decide)]
    simp only [sizarlaw08_StampsKnown.j0]
    rw [if_pos trivial, Check_eq 18, Option.bind_some, if_neg h0, if_neg (by decide)]
end Go.Proofs.Ytmenajpeendnoaa.Pure
