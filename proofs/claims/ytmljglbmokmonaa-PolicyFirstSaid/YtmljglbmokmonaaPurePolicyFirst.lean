/- PolicyFirst in plain Lean: the printed law tells true. No condition. -/
import Derived.Test.YtmljglbmokmonaaPlain3
namespace Go.Proofs.Ytmljglbmokmonaa.Pure
open Go.RowKit Go.Proofs.Ytmljglbmokmonaa.Print Go.Proofs.YtmljglbmokmonaaW.PrintWords Go.Proofs.Ytmljglbmokmonaa.Plain
set_option linter.unusedVariables false
theorem first_l0 (l : List S35) (hl : l.length ≤ 1000) (hok : l.all okCl = true) (k b a t n A : Int) (ht : 0 ≤ t ∧ t ≤ 1023) (hn : 0 ≤ n ∧ n ≤ 1023) : ∀ d r i, l.length = i + d → d < r →
    sizarlaw33_PolicyFirst.l0 r k b a t n A 0 l (l.length : Int) (i : Int) = some (A == actV (l.drop i) k b a t n) := by
  intro d
  induction d with
  | zero =>
    intro r i hd hr
    obtain ⟨r, rfl⟩ : ∃ m, r = m + 1 := ⟨r - 1, by omega⟩
    simp only [sizarlaw33_PolicyFirst.l0]
    rw [if_neg (by omega), if_pos trivial, List.drop_of_length_le (by omega)]
    rfl
  | succ d ih =>
    intro r i hd hr
    obtain ⟨r, rfl⟩ : ∃ m, r = m + 1 := ⟨r - 1, by omega⟩
    have hi : i < l.length := by omega
    have hx := ok_of (List.all_eq_true.1 hok l[i] (List.getElem_mem hi))
    simp only [sizarlaw33_PolicyFirst.l0]
    rw [if_pos (by omega), if_pos (by omega), if_pos (by omega), rd_at l i hi, drop_at l i hi, wrap_nat i (by omega), ih r (i + 1) (by omega) (by omega), fits_eq, Option.bind_some, actV_cons, actB_fit]
    have hw : wrap64 (n - t) = n - t := by unfold wrap64; omega
    rw [hw]
    by_cases hf : fitB k b a l[i] = true
    · rw [if_pos hf, hf, Bool.true_and]
      by_cases hc : n - t ≤ l[i].f3
      · rw [if_pos hc, if_pos trivial, if_pos (decide_eq_true (by omega))]
      · rw [if_neg hc, if_neg (by simp; omega)]
    · rw [if_neg hf, if_neg (by simp [hf])]
theorem PolicyFirst (l : List S35) (hl : ∀ s ∈ l, Fits s) (a1 : Int) (w1 : (Lit.int .i64 a1).wf = true) (a2 : Int) (w2 : (Lit.int .i64 a2).wf = true) (a3 : Int) (w3 : (Lit.int .i64 a3).wf = true) (a4 : Int) (w4 : (Lit.int .u16 a4).wf = true) (a5 : Int) (w5 : (Lit.int .u16 a5).wf = true) :
    ∃ k, sizarlaw33_PolicyFirst.f k l a1 a2 a3 a4 a5 = some true := by
  refine ⟨100, ?_⟩
  have ht := term_of a4 w4
  have hn := term_of a5 w5
  unfold sizarlaw33_PolicyFirst.f sizarlaw33_sane.f
  rw [Option.bind_some, if_pos rfl, few_eq, Option.bind_some]
  by_cases h : l.length ≤ 30
  · rw [if_pos (decide_eq_true h), checkP_eq, Option.bind_some]
    by_cases hok : l.all okCl = true
    · rw [if_pos hok]
      simp only [sizarlaw33_PolicyFirst.j0]
      rw [if_neg (by decide), Action_eq, Option.bind_some]
      by_cases hk : 1 ≤ a1 ∧ a1 ≤ 5
      · rw [if_neg (by omega), actR_ok l hok _ _ _ _ _ hk ht hn]
        simp only [sizarlaw33_PolicyFirst.j1]
        rw [if_neg (by simp; omega), show ((0 : Int)) = ((0 : Nat) : Int) from rfl]
        have := first_l0 l (by omega) hok a1 a2 a3 _ _ (actV l a1 a2 a3 (Int.tmod (wrap64 a4) 1024) (Int.tmod (wrap64 a5) 1024)) ht hn l.length 98 0 (by omega) (by omega)
        rw [List.drop_zero] at this
        refine this.trans ?_
        simp
      · have e : actR l a1 a2 a3 (Int.tmod (wrap64 a4) 1024) (Int.tmod (wrap64 a5) 1024) = (0, 1) := by
          unfold actR
          rw [if_pos hok, if_neg (by simp [kOK]; omega)]
        rw [e]
        simp only [sizarlaw33_PolicyFirst.j1]
        by_cases h1 : a1 < 1
        · rw [if_pos h1]
          rfl
        · rw [if_neg h1, if_pos (by simp; omega)]
          rfl
    · rw [if_neg hok]
      rfl
  · rw [if_neg (by simpa using h)]
    rfl
end Go.Proofs.Ytmljglbmokmonaa.Pure
