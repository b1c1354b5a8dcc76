/- What Next's printed function comes to, in plain Lean. -/
import Derived.Test.YtmenajpeendnoaaPlain
namespace Go.Proofs.Ytmenajpeendnoaa.Plain
open Go.RowKit Go.Proofs.Ytmenajpeendnoaa.Print Go.Proofs.YtmenajpeendnoaaW.PrintWords Go.Proofs.YtmenajpeendnoaaW.PrintLast Go.Proofs.YtmenajpeendnoaaW.PrintMore
abbrev nextIn (a b c s : Int) : Prop := 0 ≤ b ∧ b ≤ 6 ∧ 0 ≤ a ∧ a ≤ 1048576 ∧ 0 ≤ s ∧ s ≤ 1048576 ∧ 0 ≤ c ∧ c ≤ 1048576
theorem mx_cases (a b : Int) : (a < b ∧ mx a b = b) ∨ (b ≤ a ∧ mx a b = a) := by
  unfold mx
  by_cases h : a < b
  · exact .inl ⟨h, if_pos h⟩
  · exact .inr ⟨by omega, if_neg h⟩
theorem Next_eq (k : Nat) (a b c s : Int) : stamps_Next.f (k + 2) a b c s = some (if nextIn a b c s then (if mx a s ≤ 1048575 ∧ c ≤ 1048575 then (1 + mx a s, b, 1 + c, 0) else (0, 0, 0, 2)) else (0, 0, 0, 80)) := by
  have hbad : stamps_Next.j0 (k + 2) s true a b c 0 0 0 = some (0, 0, 0, 80) := by simp [stamps_Next.j0]
  unfold stamps_Next.f stamps_within.f
  by_cases h : nextIn a b c s
  · rw [if_pos h]
    obtain ⟨h1, h2, h3, h4, h5, h6, h7, h8⟩ := h
    simp only [ge_iff_le, if_pos h1, if_pos h3, if_pos h5, if_pos h7, decide_eq_true h2, decide_eq_true h4, decide_eq_true h6, decide_eq_true h8, Option.bind_some, if_true]
    simp only [stamps_Next.j0]
    have hm := mx_cases a s
    generalize mx a s = t at *
    have w1 : wrap64 (1 + t) = 1 + t := by unfold wrap64; omega
    have w2 : wrap64 (1 + c) = 1 + c := by unfold wrap64; omega
    rw [if_neg (by decide), w1, w2, Check_eq, Option.bind_some]
    by_cases ho : okS (1 + t) b (1 + c)
    · rw [if_pos ho, if_pos rfl, if_pos (by unfold okS at ho; omega)]
    · rw [if_neg ho, if_neg (by decide), if_neg (by unfold okS at ho; omega)]
  · rw [if_neg h]
    by_cases h1 : b ≥ 0
    · by_cases h2 : b ≤ 6
      · by_cases h3 : a ≥ 0
        · by_cases h4 : a ≤ 1048576
          · by_cases h5 : s ≥ 0
            · by_cases h6 : s ≤ 1048576
              · by_cases h7 : c ≥ 0
                · have h8 : ¬ c ≤ 1048576 := fun e => h ⟨h1, h2, h3, h4, h5, h6, h7, e⟩
                  simp only [if_pos h1, if_pos h3, if_pos h5, if_pos h7, decide_eq_true h2, decide_eq_true h4, decide_eq_true h6, decide_eq_false h8, Option.bind_some, if_true]
                  exact hbad
                · simp only [if_pos h1, if_pos h3, if_pos h5, if_neg h7, decide_eq_true h2, decide_eq_true h4, decide_eq_true h6, Option.bind_some, if_true]
                  exact hbad
              · simp only [if_pos h1, if_pos h3, if_pos h5, decide_eq_true h2, decide_eq_true h4, decide_eq_false h6, Option.bind_some, if_true]
                exact hbad
            · simp only [if_pos h1, if_pos h3, if_neg h5, decide_eq_true h2, decide_eq_true h4, Option.bind_some, if_true]
              exact hbad
          · simp only [if_pos h1, if_pos h3, decide_eq_true h2, decide_eq_false h4, Option.bind_some, if_true]
            exact hbad
        · simp only [if_pos h1, if_neg h3, decide_eq_true h2, Option.bind_some, if_true]
          exact hbad
      · simp only [if_pos h1, decide_eq_false h2, Option.bind_some]
        exact hbad
    · simp only [if_neg h1, Option.bind_some]
      exact hbad
end Go.Proofs.Ytmenajpeendnoaa.Plain
