/- What the reference's Check, Known, Of and Compare come to, in plain Lean. -/
import Derived.Test.YtmenajpeendnoaaPrint7
import Derived.Test.YtmenajpeendnoaaPlain
namespace Go.Proofs.Ytmenajpeendnoaa.Plain
open Go.RowKit Go.Proofs.Ytmenajpeendnoaa.Print Go.Proofs.YtmenajpeendnoaaW.PrintWords Go.Proofs.YtmenajpeendnoaaW.PrintLast Go.Proofs.YtmenajpeendnoaaW.PrintMore
theorem refCheck_eq (k : Nat) (a b c : Int) : sizarref08_Check.f (k + 1) a b c = some (if okS a b c then 0 else 80) := by
  unfold sizarref08_Check.f
  have hb : sizarref08_Check.j0 (k + 1) true = some 80 := by simp [sizarref08_Check.j0]
  by_cases h1 : a < 1
  · rw [if_pos h1, if_neg (by unfold okS; omega), hb]
  rw [if_neg h1]
  by_cases h2 : a > 1048576
  · rw [if_pos h2, if_neg (by unfold okS; omega), hb]
  rw [if_neg h2]
  by_cases h3 : b < 0
  · rw [if_pos h3, if_neg (by unfold okS; omega), hb]
  rw [if_neg h3]
  by_cases h4 : b ≥ 7
  · rw [if_pos h4, if_neg (by unfold okS; omega), hb]
  rw [if_neg h4]
  by_cases h5 : c < 1
  · rw [if_pos h5, if_neg (by unfold okS; omega), hb]
  rw [if_neg h5]
  by_cases h6 : c > 1048576
  · rw [decide_eq_true h6, if_neg (by unfold okS; omega), hb]
  · rw [decide_eq_false h6, if_pos (by unfold okS; omega)]
    simp [sizarref08_Check.j0]
theorem refKnown_eq (k : Nat) (a b c : Int) : sizarref08_Known.f (k + 1) a b c = some (if okS a b c then (8 * a + b, 0) else (0, 80)) := by
  unfold sizarref08_Known.f
  rw [refCheck_eq, Option.bind_some]
  by_cases h : okS a b c
  · rw [if_pos h, if_pos rfl, if_pos h]
    obtain ⟨h1, h2, h3, h4, h5, h6⟩ := h
    have w1 : wrap64 (8 * a) = 8 * a := by unfold wrap64; omega
    have w2 : wrap64 (8 * a + b) = 8 * a + b := by unfold wrap64; omega
    rw [w1, w2]
  · rw [if_neg h, if_neg (by decide), if_neg h]
theorem refOf_eq (k : Nat) (n : Int) (hn : -9223372036854775808 ≤ n ∧ n ≤ 9223372036854775807) : sizarref08_Of.f (k + 1) n = some (if 8 ≤ n ∧ n / 8 ≤ 1048576 ∧ n % 8 ≤ 6 then (n / 8, n % 8, 0) else (0, 0, 80)) := by
  unfold sizarref08_Of.f
  by_cases h0 : n < 0
  · rw [if_pos h0, if_neg (by omega)]
  · have h1 : n.tdiv 8 = n / 8 := Int.tdiv_eq_ediv_of_nonneg (by omega)
    have h2 : n.tmod 8 = n % 8 := Int.tmod_eq_emod_of_nonneg (by omega)
    have w : wrap64 (n / 8) = n / 8 := by unfold wrap64; omega
    rw [if_neg h0, h1, h2, w, refCheck_eq, Option.bind_some]
    by_cases h : 8 ≤ n ∧ n / 8 ≤ 1048576 ∧ n % 8 ≤ 6
    · have ho : okS (n / 8) (n % 8) 1 := by unfold okS; omega
      rw [if_pos h, if_pos ho, if_pos rfl]
    · have ho : ¬ okS (n / 8) (n % 8) 1 := by unfold okS; omega
      rw [if_neg h, if_neg ho, if_neg (by decide)]
theorem refcmp_eq (a b : Int) : sizarref08_compare.f a b = some (cmpI a b) := by
  unfold sizarref08_compare.f cmpI
  by_cases h : a < b
  · rw [if_pos h, if_pos h]
  · rw [if_neg h, if_neg h]
    by_cases k : a > b
    · rw [if_pos k, if_pos k]
    · rw [if_neg k, if_neg k]
theorem refCompare_eq (k : Nat) (x y : S24) : sizarref08_Compare.f (k + 1) x.f0 x.f1 x.f2 y.f0 y.f1 y.f2 = some (cmpS x y) := by
  unfold sizarref08_Compare.f cmpS
  rw [refcmp_eq, Option.bind_some, refcmp_eq, Option.bind_some]
  simp only [sizarref08_Compare.j0]
  by_cases h0 : cmpI x.f0 y.f0 = 0
  · by_cases h1 : cmpI x.f1 y.f1 = 0
    · simp [h0, h1, refcmp_eq]
    · simp [h0, h1]
  · simp [h0]
end Go.Proofs.Ytmenajpeendnoaa.Plain
