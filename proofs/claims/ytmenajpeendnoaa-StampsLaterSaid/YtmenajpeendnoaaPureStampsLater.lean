/- StampsLater in plain Lean: the printed law tells true. No condition. -/
import Derived.Test.YtmenajpeendnoaaPrint14
import Derived.Test.YtmenajpeendnoaaPlain3
namespace Go.Proofs.Ytmenajpeendnoaa.Pure
open Go.RowKit Go.Proofs.Ytmenajpeendnoaa.Print Go.Proofs.YtmenajpeendnoaaW.PrintWords Go.Proofs.YtmenajpeendnoaaW.PrintLast Go.Proofs.YtmenajpeendnoaaW.PrintMore Go.Proofs.Ytmenajpeendnoaa.Plain
set_option linter.unusedVariables false
theorem StampsLater (s0 : S24) (w0 : Fits s0) (a1 : Int) (w1 : (Lit.int .i64 a1).wf = true) (s2 : S24) (w2 : Fits s2) : ∃ k, sizarlaw08_StampsLater.f k s0.f0 s0.f1 s0.f2 a1 s2.f0 s2.f1 s2.f2 = some true := by
  refine ⟨20, ?_⟩
  unfold sizarlaw08_StampsLater.f sizarlaw08_sane.f
  rw [Option.bind_some, if_pos rfl, Next_eq 18, Option.bind_some]
  by_cases hi : nextIn s0.f0 s0.f1 s0.f2 a1
  · rw [if_pos hi]
    by_cases hl : mx s0.f0 a1 ≤ 1048575 ∧ s0.f2 ≤ 1048575
    · rw [if_pos hl]
      simp only [if_true]
      have hm := mx_cases s0.f0 a1
      have hm2 := mx_cases a1 s0.f0
      have hmm : mx a1 s0.f0 = mx s0.f0 a1 := by omega
      generalize mx s0.f0 a1 = t at *
      simp only [nextIn] at hi
      have ho : okS (1 + t) s0.f1 (1 + s0.f2) := by unfold okS; omega
      have hw : wrap64 (1 + s0.f2 - s0.f2) = 1 := by unfold wrap64; omega
      have hlt : Lt s0 ⟨1 + t, s0.f1, 1 + s0.f2⟩ := by unfold Lt; simp; omega
      rw [Check_eq 19, Option.bind_some, if_pos ho, if_pos rfl, hw, if_pos rfl]
      have hc := Compare_eq 16 s0 ⟨1 + t, s0.f1, 1 + s0.f2⟩
      simp only [] at hc
      rw [hc, Option.bind_some, cmp_lt hlt]
      simp only [sizarlaw08_StampsLater.j0]
      rw [if_neg (by decide), Known_eq 18, Known_eq 18]
      simp only [Option.bind_some]
      rw [if_pos ho, if_pos rfl, hmm]
      by_cases h2 : okT s2
      · rw [if_pos h2, if_pos rfl]
        by_cases hgt : s2.f0 > t
        · rw [if_pos hgt]
        · rw [if_neg hgt]
          congr 1
          have g2 := h2
          simp only [okT, okS] at g2
          rw [decide_eq_true_iff]
          simp only []
          omega
      · rw [if_neg h2, if_neg (by decide)]
    · rw [if_neg hl, if_neg (by decide)]
      rfl
  · rw [if_neg hi, if_neg (by decide)]
    rfl
end Go.Proofs.Ytmenajpeendnoaa.Pure
