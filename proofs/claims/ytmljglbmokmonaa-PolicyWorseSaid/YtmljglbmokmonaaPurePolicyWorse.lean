/- PolicyWorse in plain Lean: the printed law tells true. No condition. -/
import Derived.Test.YtmljglbmokmonaaPrint6
namespace Go.Proofs.Ytmljglbmokmonaa.Pure
open Go.RowKit Go.Proofs.Ytmljglbmokmonaa.Print Go.Proofs.YtmljglbmokmonaaW.PrintWords Go.Proofs.YtmljglbmokmonaaW.PrintLast Go.Proofs.YtmljglbmokmonaaW.PrintMore
set_option linter.unusedVariables false
theorem cmp_cases (a b : Int) : (a < b ∧ cmpI a b = -1) ∨ (a = b ∧ cmpI a b = 0) ∨ (b < a ∧ cmpI a b = 1) := by
  unfold cmpI
  rcases Int.lt_trichotomy a b with h | h | h
  · exact .inl ⟨h, if_pos h⟩
  · exact .inr (.inl ⟨h, by rw [if_neg (by omega), if_neg (by omega)]⟩)
  · exact .inr (.inr ⟨h, by rw [if_neg (by omega), if_pos h]⟩)
theorem PolicyWorse : sizarlaw33_PolicyWorse.Pure := by
  intro a0 a1 a2 a3 w0 w1 w2 w3
  refine ⟨10, ?_⟩
  unfold sizarlaw33_PolicyWorse.f sizarlaw33_sane.f policy_Worse.f
  rw [Option.bind_some, if_pos rfl]
  simp only [Option.bind_some]
  have hw : ∀ z : Int, -1 ≤ z → z ≤ 1 → wrap64 (-z) = -z := fun z h1 h2 => by unfold wrap64; omega
  by_cases hk : 1 ≤ a0 ∧ a0 ≤ 5
  · rw [if_neg (by omega)]
    simp only [if_pos hk]
    have hd : decide (a0 > 5) = false := decide_eq_false (by omega)
    rw [hd]
    simp only [sizarlaw33_PolicyWorse.j0]
    rw [if_neg (by decide)]
    unfold policy_Worse.f
    simp only [Option.bind_some]
    by_cases h3 : a0 = 3
    · subst h3
      have c12 := cmp_cases a1 a2
      have c21 := cmp_cases a2 a1
      have c23 := cmp_cases a2 a3
      have c13 := cmp_cases a1 a3
      simp only [if_pos (show (1 : Int) ≤ 3 ∧ (3 : Int) ≤ 5 by decide), if_true]
      generalize cmpI a1 a2 = x at *
      generalize cmpI a2 a1 = y at *
      generalize cmpI a2 a3 = z at *
      generalize cmpI a1 a3 = u at *
      rw [hw y (by omega) (by omega), if_pos (by omega), if_neg (by omega), if_neg (by omega), if_neg (by simp [show (x == 0) = (a1 == a2) by rw [Bool.eq_iff_iff, beq_iff_eq, beq_iff_eq]; omega])]
      by_cases hx : x < 0
      · rw [if_pos hx]
        by_cases hz : z < 0
        · rw [if_pos hz, if_neg (by omega)]
        · rw [if_neg hz]
      · rw [if_neg hx]
    · have c12 := cmp_cases a1 a2
      have c21 := cmp_cases a2 a1
      have c32 := cmp_cases a3 a2
      have c31 := cmp_cases a3 a1
      simp only [if_neg h3]
      simp only [if_pos (show (1 : Int) ≤ 3 ∧ (3 : Int) ≤ 5 by decide), if_true]
      generalize cmpI a1 a2 = x at *
      generalize cmpI a2 a1 = y at *
      generalize cmpI a3 a2 = z at *
      generalize cmpI a3 a1 = u at *
      rw [hw x (by omega) (by omega), hw y (by omega) (by omega), if_pos (by omega), if_neg (by omega), if_neg (by omega), if_neg (by simp [show (y == 0) = (a1 == a2) by rw [Bool.eq_iff_iff, beq_iff_eq, beq_iff_eq]; omega])]
      have he : (x == -y) = true := by simp; omega
      by_cases hx : y < 0
      · rw [if_pos hx]
        by_cases hz : z < 0
        · rw [if_pos hz, if_neg (by omega), he]
        · rw [if_neg hz, he]
      · rw [if_neg hx, he]
  · simp only [if_neg hk]
    by_cases h1 : a0 < 1
    · rw [if_pos h1]
      rfl
    · rw [if_neg h1, decide_eq_true (show a0 > 5 by omega)]
      rfl
end Go.Proofs.Ytmljglbmokmonaa.Pure
