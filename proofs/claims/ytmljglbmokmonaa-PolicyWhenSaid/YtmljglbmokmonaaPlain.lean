/- What the printed Lean functions of policy's checks and actions and of the reference's come to, in plain Lean: no program in sight. Conditions: few clauses; enough rounds. -/
import Derived.Test.YtmljglbmokmonaaPrint2
import Derived.Test.YtmljglbmokmonaaOpen
namespace Go.Proofs.Ytmljglbmokmonaa.Plain
open Go.RowKit Go.Proofs.Ytmljglbmokmonaa.Print Go.Proofs.YtmljglbmokmonaaW.PrintWords
set_option linter.unusedVariables false

/-- What is done with a decision, of a valid policy. -/
def actV (l : List S35) (k b a t n : Int) : Int := match l.find? (actB k b a t n) with | some c => c.f2 | none => 1
def kOK (k t : Int) : Bool := decide (1 ≤ k ∧ k ≤ 5 ∧ 0 ≤ t ∧ t ≤ 1023)
def nOK (n : Int) : Bool := decide (0 ≤ n ∧ n ≤ 1023)

theorem wrap_nat (i : Nat) (h : i ≤ 100000) : wrap64 ((i : Int) + 1) = ((i + 1 : Nat) : Int) := by unfold wrap64; omega
theorem rd_at (l : List S35) (i : Nat) (h : i < l.length) : rd_T35 l (i : Int) = l[i] := by simp [rd_T35, List.getD_eq_getElem?_getD, h]
theorem drop_at (l : List S35) (i : Nat) (h : i < l.length) : l.drop i = l[i] :: l.drop (i + 1) := List.drop_eq_getElem_cons h
theorem ok_of {x : S35} (h : okCl x = true) : 1 ≤ x.f0 ∧ x.f0 ≤ 5 ∧ 0 ≤ x.f1 ∧ x.f1 ≤ 2 ∧ 1 ≤ x.f2 ∧ x.f2 ≤ 3 ∧ 0 ≤ x.f3 ∧ x.f3 ≤ 12 := of_decide_eq_true h
theorem not_ok {x : S35} (h : ¬ okCl x = true) : ¬ (1 ≤ x.f0 ∧ x.f0 ≤ 5 ∧ 0 ≤ x.f1 ∧ x.f1 ≤ 2 ∧ 1 ≤ x.f2 ∧ x.f2 ≤ 3 ∧ 0 ≤ x.f3 ∧ x.f3 ≤ 12) := fun e => h (decide_eq_true e)

/-! ### policy's own -/
theorem kindOK_eq (k : Int) : policy_kindOK.f k = some (decide (1 ≤ k ∧ k ≤ 5)) := by
  unfold policy_kindOK.f
  split
  · congr 1; simp; omega
  · congr 1; symm; simp; omega
theorem check_eq (l : List S35) (k t : Int) : policy_check.f l k t = some (if l.all okCl = true then (if kOK k t = true then 0 else 1) else 330) := by
  unfold policy_check.f policy_Check.f
  by_cases h : l.all okCl = true
  · simp only [h, if_true, Option.bind_some, kindOK_eq]
    by_cases hk : 1 ≤ k ∧ k ≤ 5
    · rw [if_pos (decide_eq_true hk)]
      by_cases h0 : t < 0
      · rw [if_pos h0, if_neg (by simp [kOK]; omega)]
      · rw [if_neg h0]
        by_cases h1 : t ≥ 1024
        · rw [if_pos h1, if_neg (by simp [kOK]; omega)]
        · rw [if_neg h1, if_pos (by simp [kOK]; omega)]
    · rw [if_neg (by simpa using hk), if_neg (by simp [kOK]; omega)]
  · simp only [if_neg h, Option.bind_some]
    rfl
def actR (l : List S35) (k b a t n : Int) : Int × Int := if l.all okCl = true then (if kOK k t = true then (if nOK n = true then (actV l k b a t n, 0) else (0, 1)) else (0, 1)) else (0, 330)
theorem Action_eq (l : List S35) (k b a t n : Int) : policy_Action.f l k b a t n = some (actR l k b a t n) := by
  unfold policy_Action.f actR
  rw [check_eq, Option.bind_some]
  by_cases h : l.all okCl = true
  · simp only [if_pos h]
    by_cases hk : kOK k t = true
    · simp only [if_pos hk]
      rw [if_pos trivial]
      have hk' := of_decide_eq_true hk
      by_cases h0 : n < 0
      · rw [if_pos h0, if_neg (by simp [nOK]; omega)]
      · rw [if_neg h0]
        by_cases h1 : n ≥ 1024
        · rw [if_pos h1, if_neg (by simp [nOK]; omega)]
        · rw [if_neg h1, if_pos (by simp [nOK]; omega)]
          unfold policy_action.f
          rw [if_pos ⟨h, by omega, by omega⟩]
          rfl
    · simp only [if_neg hk]
      rfl
  · simp only [if_neg h]
    rfl

/-! ### the reference's -/
theorem refCheck_l0 (l : List S35) (hl : l.length ≤ 1000) : ∀ d k i, l.length = i + d → d < k → sizarref33_Check.l0 k l (i : Int) = some (if (l.drop i).all okCl = true then 0 else 330) := by
  intro d
  induction d with
  | zero =>
    intro k i hd hk
    obtain ⟨k, rfl⟩ : ∃ m, k = m + 1 := ⟨k - 1, by omega⟩
    simp only [sizarref33_Check.l0]
    rw [if_neg (by omega), List.drop_of_length_le (by omega)]
    rfl
  | succ d ih =>
    intro k i hd hk
    obtain ⟨k, rfl⟩ : ∃ m, k = m + 1 := ⟨k - 1, by omega⟩
    have hi : i < l.length := by omega
    simp only [sizarref33_Check.l0]
    rw [if_pos (by omega), if_pos (by omega), rd_at l i hi, drop_at l i hi, wrap_nat i (by omega), ih k (i + 1) (by omega) (by omega)]
    generalize l[i] = x
    rw [List.all_cons]
    by_cases hx : okCl x = true
    · have := ok_of hx
      rw [if_neg (by omega), if_neg (by omega), if_neg (by omega), if_neg (by omega), if_neg (by omega), if_neg (by omega), if_neg (by omega), if_neg (by omega), hx, Bool.true_and]
    · have := not_ok hx
      rw [if_neg (show ¬ (okCl x && (l.drop (i + 1)).all okCl) = true by simp [hx])]
      repeat' split
      all_goals first | rfl | (exfalso; omega)
theorem refCheck_eq (l : List S35) (hl : l.length ≤ 1000) (k : Nat) (hk : 1001 ≤ k) : sizarref33_Check.f k l = some (if l.all okCl = true then 0 else 330) := by
  unfold sizarref33_Check.f
  exact refCheck_l0 l hl l.length k 0 (by omega) (by omega)
theorem refcheck_eq (l : List S35) (hl : l.length ≤ 1000) (r : Nat) (hr : 1001 ≤ r) (k t : Int) : sizarref33_check.f r l k t = some (if l.all okCl = true then (if kOK k t = true then 0 else 1) else 330) := by
  unfold sizarref33_check.f
  rw [refCheck_eq l hl r hr, Option.bind_some]
  by_cases h : l.all okCl = true
  · simp only [if_pos h]
    rw [if_pos trivial]
    by_cases hk : kOK k t = true
    · have := of_decide_eq_true hk
      rw [if_pos hk, if_neg (by omega), if_neg (by omega), if_neg (by omega), if_neg (by omega)]
    · have : ¬ (1 ≤ k ∧ k ≤ 5 ∧ 0 ≤ t ∧ t ≤ 1023) := fun e => hk (decide_eq_true e)
      rw [if_neg hk]
      repeat' split
      all_goals first | rfl | (exfalso; omega)
  · simp only [if_neg h]
    rfl
theorem Applies_eq (x : S35) (hx : okCl x = true) (k b a t n : Int) (ht : 0 ≤ t ∧ t ≤ 1023) : sizarref33_Applies.f x.f0 x.f1 x.f2 x.f3 k b a t n = some (actB k b a t n x) := by
  have := ok_of hx
  have hw : wrap64 (t + x.f3) = t + x.f3 := by unfold wrap64; omega
  unfold sizarref33_Applies.f
  rw [hw]
  have h3 : x.f1 = 0 ∨ x.f1 = 1 ∨ x.f1 = 2 := by omega
  by_cases hk : x.f0 = k
  · rcases h3 with h | h | h <;> rw [h] <;> simp [actB, whenB, h, hk]
    all_goals (repeat' split) <;> simp_all
  · rcases h3 with h | h | h <;> rw [h] <;> simp [actB, whenB, h, hk]
    all_goals (repeat' split) <;> simp_all
theorem refAction_l0 (l : List S35) (hl : l.length ≤ 1000) (hok : l.all okCl = true) (k b a t n : Int) (ht : 0 ≤ t ∧ t ≤ 1023) : ∀ d r i, l.length = i + d → d < r →
    sizarref33_Action.l0 r l k b a t n (i : Int) = some (actV (l.drop i) k b a t n, 0) := by
  intro d
  induction d with
  | zero =>
    intro r i hd hk
    obtain ⟨r, rfl⟩ : ∃ m, r = m + 1 := ⟨r - 1, by omega⟩
    simp only [sizarref33_Action.l0]
    rw [if_neg (by omega), List.drop_of_length_le (by omega)]
    rfl
  | succ d ih =>
    intro r i hd hk
    obtain ⟨r, rfl⟩ : ∃ m, r = m + 1 := ⟨r - 1, by omega⟩
    have hi : i < l.length := by omega
    have hx : okCl l[i] = true := List.all_eq_true.1 hok _ (List.getElem_mem hi)
    simp only [sizarref33_Action.l0]
    rw [if_pos (by omega), if_pos (by omega), rd_at l i hi, drop_at l i hi, wrap_nat i (by omega), ih r (i + 1) (by omega) (by omega), Applies_eq _ hx k b a t n ht, Option.bind_some]
    unfold actV
    rw [List.find?_cons]
    cases h : actB k b a t n l[i] with
    | true => rfl
    | false => rfl
theorem refAction_eq (l : List S35) (hl : l.length ≤ 1000) (r : Nat) (hr : 1003 ≤ r) (k b a t n : Int) : sizarref33_Action.f r l k b a t n = some (actR l k b a t n) := by
  unfold sizarref33_Action.f actR
  obtain ⟨r, rfl⟩ : ∃ m, r = m + 1 := ⟨r - 1, by omega⟩
  rw [refcheck_eq l hl _ (by omega), Option.bind_some]
  by_cases h : l.all okCl = true
  · simp only [if_pos h]
    by_cases hk : kOK k t = true
    · have hk' := of_decide_eq_true hk
      simp only [if_pos hk]
      rw [if_pos trivial]
      have hj : ∀ z : Bool, sizarref33_Action.j0 (r + 1) l k b a t n z = if z = true then some (0, 1) else some (actV l k b a t n, 0) := by
        intro z
        simp only [sizarref33_Action.j0]
        rw [show ((0 : Int)) = ((0 : Nat) : Int) from rfl, refAction_l0 l hl h k b a t n ⟨by omega, by omega⟩ l.length r 0 (by omega) (by omega)]
        rfl
      by_cases h0 : n < 0
      · rw [if_pos h0, hj, if_pos rfl, if_neg (by simp [nOK]; omega)]
      · rw [if_neg h0, hj]
        by_cases h1 : n ≥ 1024
        · rw [if_pos (decide_eq_true h1), if_neg (by simp [nOK]; omega)]
        · rw [if_neg (by simpa using h1), if_pos (by simp [nOK]; omega)]
    · simp only [if_neg hk]
      rfl
  · simp only [if_neg h]
    rfl
theorem few_eq (l : List S35) : sizarref33_Few.f l = some (decide (l.length ≤ 30)) := by
  unfold sizarref33_Few.f
  congr 1
  rw [Bool.eq_iff_iff]
  simp
  omega
end Go.Proofs.Ytmljglbmokmonaa.Plain
