/- What the printed Lean functions of Until and Worse (policy's and the reference's) come to, in plain Lean. Conditions: few clauses; enough rounds. -/
import Derived.Test.YtmljglbmokmonaaPlain
namespace Go.Proofs.Ytmljglbmokmonaa.Plain
open Go.RowKit Go.Proofs.Ytmljglbmokmonaa.Print Go.Proofs.YtmljglbmokmonaaW.PrintWords
set_option linter.unusedVariables false
/-- The greatest number below m at which g is 3; -1 if there is none. -/
def lastRev (g : Int → Int) : Nat → Int
  | 0 => -1
  | m + 1 => if g (m : Int) = 3 then (m : Int) else lastRev g m
theorem lastRev_skip (g : Int → Int) (m : Nat) : ∀ d, (∀ j : Nat, m ≤ j → j < m + d → g (j : Int) ≠ 3) → lastRev g (m + d) = lastRev g m := by
  intro d
  induction d with
  | zero => intro _; rfl
  | succ d ih =>
    intro h
    show lastRev g (m + d + 1) = _
    rw [lastRev, if_neg (h (m + d) (by omega) (by omega))]
    exact ih fun j h1 h2 => h j h1 (by omega)
theorem lastRev_bounds (g : Int → Int) : ∀ m, -1 ≤ lastRev g m ∧ lastRev g m < (m : Int) := by
  intro m
  induction m with
  | zero => exact ⟨Int.le_refl _, by show (-1 : Int) < 0; decide⟩
  | succ m ih =>
    rw [lastRev]
    split <;> omega
theorem lastRev_at (g : Int → Int) : ∀ m, lastRev g m ≠ -1 → g (lastRev g m) = 3 := by
  intro m
  induction m with
  | zero => intro h; exact absurd rfl h
  | succ m ih =>
    rw [lastRev]
    split
    · intro _; assumption
    · exact ih
theorem lastRev_above (g : Int → Int) : ∀ (m : Nat) (j : Nat), lastRev g m < (j : Int) → j < m → g (j : Int) ≠ 3 := by
  intro m
  induction m with
  | zero => intro j _ h; omega
  | succ m ih =>
    intro j h1 h2
    rw [lastRev] at h1
    split at h1
    · omega
    · by_cases e : j = m
      · subst e; assumption
      · exact ih j h1 (by omega)
/-- No clause applies more than 12 terms behind. -/
theorem actV_late (l : List S35) (hok : l.all okCl = true) (k b a t n : Int) (h : t + 12 < n) : actV l k b a t n = 1 := by
  unfold actV
  have : l.find? (actB k b a t n) = none := List.find?_eq_none.2 fun x hx => by
    have := ok_of (List.all_eq_true.1 hok x hx)
    have hd : decide (n ≤ t + x.f3) = false := decide_eq_false (by omega)
    simp [actB, hd]
  rw [this]
def topOf (t : Int) : Nat := (if t + 12 < 1023 then t + 12 else 1023).toNat + 1
theorem last_top (l : List S35) (hok : l.all okCl = true) (k b a t : Int) (ht : 0 ≤ t ∧ t ≤ 1023) : lastRev (actV l k b a t) 1024 = lastRev (actV l k b a t) (topOf t) := by
  have h : ∃ d, 1024 = topOf t + d := ⟨1024 - topOf t, by unfold topOf; split <;> omega⟩
  obtain ⟨d, hd⟩ := h
  rw [hd]
  refine lastRev_skip _ _ d fun j h1 h2 => ?_
  have hlate : t + 12 < (j : Int) := by
    by_cases c : t + 12 < 1023
    · have hT : topOf t = (t + 12).toNat + 1 := by unfold topOf; rw [if_pos c]
      rw [hT] at h1
      omega
    · have hT : topOf t = 1024 := by unfold topOf; rw [if_neg c]; rfl
      rw [hT] at h1 h2 hd
      omega
  rw [actV_late l hok k b a t j hlate]
  decide
theorem until_l0 (l : List S35) (hok : l.all okCl = true) (k b a t : Int) (ht : 0 ≤ t ∧ t ≤ 1023) : ∀ (m r : Nat), m ≤ 1024 → m < r → policy_Until.l0 r l k b a t ((m : Int) - 1) = some (lastRev (actV l k b a t) m, 0) := by
  intro m
  induction m with
  | zero =>
    intro r _ hr
    obtain ⟨r, rfl⟩ : ∃ q, r = q + 1 := ⟨r - 1, by omega⟩
    simp only [policy_Until.l0]
    rw [if_neg (by omega)]
    rfl
  | succ m ih =>
    intro r hm hr
    obtain ⟨r, rfl⟩ : ∃ q, r = q + 1 := ⟨r - 1, by omega⟩
    have e : ((m + 1 : Nat) : Int) - 1 = (m : Int) := by omega
    rw [e]
    simp only [policy_Until.l0]
    rw [if_pos (by omega)]
    have hf : policy_action.f l k b a t (m : Int) = some (actV l k b a t (m : Int)) := by
      unfold policy_action.f
      rw [if_pos ⟨hok, ht⟩]
      rfl
    have hw : wrap64 ((m : Int) - 1) = (m : Int) - 1 := by unfold wrap64; omega
    rw [hf, Option.bind_some, hw, ih r (by omega) (by omega), lastRev]
    split <;> rfl
def untilR (l : List S35) (k b a t : Int) : Int × Int := if l.all okCl = true then (if kOK k t = true then (lastRev (actV l k b a t) 1024, 0) else (0, 1)) else (0, 330)
theorem Until_eq (l : List S35) (r : Nat) (hr : 1030 ≤ r) (k b a t : Int) : policy_Until.f r l k b a t = some (untilR l k b a t) := by
  unfold policy_Until.f untilR
  rw [check_eq, Option.bind_some]
  by_cases h : l.all okCl = true
  · simp only [if_pos h]
    by_cases hk : kOK k t = true
    · have hk' := of_decide_eq_true hk
      simp only [if_pos hk]
      rw [if_pos trivial]
      have hm : mn (wrap64 (t + 12)) 1023 = ((topOf t : Nat) : Int) - 1 := by
        unfold mn wrap64 topOf
        repeat' split
        all_goals omega
      rw [hm, until_l0 l h k b a t ⟨by omega, by omega⟩ (topOf t) r (by unfold topOf; split <;> omega) (by unfold topOf; split <;> omega), last_top l h k b a t ⟨by omega, by omega⟩]
    · simp only [if_neg hk]
      rfl
  · simp only [if_neg h]
    rfl
theorem refUntil_l0 (l : List S35) (hl : l.length ≤ 1000) (hok : l.all okCl = true) (k b a t : Int) (hk : kOK k t = true) : ∀ (d i r : Nat), i + d = 1024 → d + 1100 < r →
    sizarref33_Until.l0 r l k b a t (lastRev (actV l k b a t) i) (i : Int) = some (lastRev (actV l k b a t) 1024, 0) := by
  intro d
  induction d with
  | zero =>
    intro i r hi hr
    obtain ⟨r, rfl⟩ : ∃ q, r = q + 1 := ⟨r - 1, by omega⟩
    obtain rfl : i = 1024 := by omega
    simp only [sizarref33_Until.l0]
    rw [if_neg (by omega)]
  | succ d ih =>
    intro i r hi hr
    obtain ⟨r, rfl⟩ : ∃ q, r = q + 1 := ⟨r - 1, by omega⟩
    simp only [sizarref33_Until.l0]
    rw [if_pos (by omega), refAction_eq l hl r (by omega), Option.bind_some, wrap_nat i (by omega)]
    have e : actR l k b a t (i : Int) = (actV l k b a t (i : Int), 0) := by
      unfold actR
      rw [if_pos hok, if_pos hk, if_pos (by simp [nOK]; omega)]
    rw [e]
    have hs := ih (i + 1) r (by omega) (by omega)
    rw [lastRev] at hs
    split at hs
    · rename_i h3
      rw [if_pos h3]
      exact hs
    · rename_i h3
      rw [if_neg h3]
      exact hs
theorem refUntil_eq (l : List S35) (hl : l.length ≤ 1000) (r : Nat) (hr : 2200 ≤ r) (k b a t : Int) : sizarref33_Until.f r l k b a t = some (untilR l k b a t) := by
  unfold sizarref33_Until.f untilR
  rw [refcheck_eq l hl r (by omega), Option.bind_some]
  by_cases h : l.all okCl = true
  · simp only [if_pos h]
    by_cases hk : kOK k t = true
    · simp only [if_pos hk]
      rw [if_pos trivial]
      exact refUntil_l0 l hl h k b a t hk 1024 0 r (by omega) (by omega)
    · simp only [if_neg hk]
      rfl
  · simp only [if_neg h]
    rfl
def worseR (k b a : Int) : Int × Int := if 1 ≤ k ∧ k ≤ 5 then (if k = 3 then cmpI b a else cmpI a b, 0) else (0, 1)
theorem refWorse_eq (r : Nat) (hr : 2 ≤ r) (k b a : Int) : sizarref33_Worse.f r k b a = some (worseR k b a) := by
  obtain ⟨r, rfl⟩ : ∃ q, r = q + 1 := ⟨r - 1, by omega⟩
  have hj : ∀ z : Bool, sizarref33_Worse.j0 (r + 1) k b a z = if z = true then some (0, 1) else some (if k = 3 then cmpI b a else cmpI a b, 0) := by
    intro z
    simp only [sizarref33_Worse.j0, cmpI]
    cases z with
    | true => rfl
    | false =>
      rcases Int.lt_trichotomy a b with h | h | h <;> by_cases h3 : k = 3
      · subst h3; simp [h, show ¬ b = a by omega, show ¬ b < a by omega]
      · simp [h, h3, show ¬ b = a by omega]
      · subst h h3; simp
      · subst h; simp [h3]
      · subst h3; simp [h, show ¬ b = a by omega, show ¬ a < b by omega]
      · simp [h, h3, show ¬ b = a by omega, show ¬ a < b by omega]
  unfold sizarref33_Worse.f worseR
  by_cases h1 : k < 1
  · rw [if_pos h1, hj, if_pos rfl, if_neg (by omega)]
  · rw [if_neg h1, hj]
    by_cases h2 : k > 5
    · rw [if_pos (decide_eq_true h2), if_neg (by omega)]
    · rw [if_neg (by simpa using h2), show (if 1 ≤ k ∧ k ≤ 5 then (if k = 3 then cmpI b a else cmpI a b, (0 : Int)) else (0, 1)) = _ from if_pos ⟨by omega, by omega⟩]
end Go.Proofs.Ytmljglbmokmonaa.Plain
