/- PolicyWhen in plain Lean: the printed law tells true. No condition. -/
import Derived.Test.YtmljglbmokmonaaPlain3
import Derived.Test.YtmljglbmokmonaaPrint7
namespace Go.Proofs.Ytmljglbmokmonaa.Pure
open Go.RowKit Go.Proofs.Ytmljglbmokmonaa.Print Go.Proofs.YtmljglbmokmonaaW.PrintWords Go.Proofs.Ytmljglbmokmonaa.Plain
set_option linter.unusedVariables false
theorem when_eta (x : S35) : (⟨x.f0, x.f1, x.f2, x.f3⟩ : S35) = x := rfl
theorem when_filter (p : S35 → Bool) (o : List S35) (x : S35) (l : List S35) : o ++ (x :: l).filter p = (if p x = true then o ++ [x] else o) ++ l.filter p := by
  rw [List.filter_cons]
  cases p x <;> simp
theorem when_l0 (l : List S35) (hl : l.length ≤ 1000) (hok : l.all okCl = true) (k b a t n A e f g : Int) (R : Option Bool) (q : Nat)
    (hend : sizarlaw33_PolicyWhen.l0 (q + 1) l k b a t n A e f g (l.filter fun x => whenB x.f1 b a) l (l.length : Int) (l.length : Int) = R) :
    ∀ d i o, l.length = i + d → o.length ≤ i → o ++ ((l.drop i).filter fun x => whenB x.f1 b a) = (l.filter fun x => whenB x.f1 b a) →
    sizarlaw33_PolicyWhen.l0 (q + 1 + d) l k b a t n A e f g o l (l.length : Int) (i : Int) = R := by
  intro d
  induction d with
  | zero =>
    intro i o hd ho h1
    obtain rfl : i = l.length := by omega
    rw [List.drop_of_length_le (by omega)] at h1
    simp only [List.filter_nil, List.append_nil] at h1
    rw [h1]
    exact hend
  | succ d ih =>
    intro i o hd ho h1
    have hi : i < l.length := by omega
    have hx := ok_of (List.all_eq_true.1 hok l[i] (List.getElem_mem hi))
    rw [drop_at l i hi, when_filter] at h1
    rw [show q + 1 + (d + 1) = (q + 1 + d) + 1 by omega]
    simp only [sizarlaw33_PolicyWhen.l0]
    rw [if_pos (by omega), if_pos (by omega), if_pos (by omega), rd_at l i hi, wrap_nat i (by omega), when_eta]
    have hyes : whenB l[i].f1 b a = true → sizarlaw33_PolicyWhen.l0 (q + 1 + d) l k b a t n A e f g (o ++ [l[i]]) l (l.length : Int) ((i + 1 : Nat) : Int) = R := fun h => by
      rw [if_pos h] at h1
      exact ih (i + 1) _ (by omega) (by simp; omega) h1
    have hno : whenB l[i].f1 b a = false → sizarlaw33_PolicyWhen.l0 (q + 1 + d) l k b a t n A e f g o l (l.length : Int) ((i + 1 : Nat) : Int) = R := fun h => by
      rw [if_neg (by rw [h]; decide)] at h1
      exact ih (i + 1) _ (by omega) (by omega) h1
    have h3 : l[i].f1 = 0 ∨ l[i].f1 = 1 ∨ l[i].f1 = 2 := by omega
    rcases h3 with h | h | h
    · rw [if_pos h, if_pos (by omega)]
      exact hyes (by unfold whenB; rw [if_neg (by omega), if_neg (by omega)])
    · rw [if_neg (by omega), if_pos h]
      by_cases c : a > b
      · rw [if_pos c, if_pos (by omega)]
        exact hyes (by unfold whenB; rw [if_pos h]; exact decide_eq_true c)
      · rw [if_neg c, if_neg (by omega)]
        exact hno (by unfold whenB; rw [if_pos h]; exact decide_eq_false c)
    · rw [if_neg (by omega), if_neg (by omega), if_pos h]
      by_cases c : a < b
      · rw [if_pos c, if_pos (by omega)]
        exact hyes (by unfold whenB; rw [if_neg (by omega), if_pos h]; exact decide_eq_true c)
      · rw [if_neg c]
        exact hno (by unfold whenB; rw [if_neg (by omega), if_pos h]; exact decide_eq_false c)
/-- Only the direction of a change matters. -/
theorem actV_dir (l : List S35) (k b a b' a' t n : Int) (h1 : b < a ↔ b' < a') (h2 : a < b ↔ a' < b') : actV l k b a t n = actV l k b' a' t n := by
  have : actB k b a t n = actB k b' a' t n := by
    funext x
    unfold actB whenB
    simp only [h1, h2]
  unfold actV
  rw [this]
theorem when_j2 (r : Nat) (l o : List S35) (hok : l.all okCl = true) (hoo : o.all okCl = true) (k b a t n g : Int) (hk : 1 ≤ k ∧ k ≤ 5) (ht : 0 ≤ t ∧ t ≤ 1023) (hn : 0 ≤ n ∧ n ≤ 1023) (hg : g = if b < a then 1 else 0) (ho : actV o k b a t n = actV l k b a t n) :
    sizarlaw33_PolicyWhen.j2 (r + 1) l k b a t n (actV l k b a t n) 0 0 g o = some true := by
  simp only [sizarlaw33_PolicyWhen.j2]
  rw [Action_eq, Action_eq, Action_eq, actR_ok l hok _ _ _ _ _ hk ht hn, actR_ok l hok _ _ _ _ _ hk ht hn, actR_ok o hoo _ _ _ _ _ hk ht hn]
  simp only [Option.bind_some, if_true]
  rw [ho]
  by_cases c : a < b
  · rw [if_pos c, if_pos (actV_dir l k b a 1 g t n (by rw [hg]; split <;> omega) (by rw [hg]; split <;> omega))]
    simp
  · rw [if_neg c, if_pos (actV_dir l k b a 0 g t n (by rw [hg]; split <;> omega) (by rw [hg]; split <;> omega))]
    simp
theorem PolicyWhen (l : List S35) (hl : ∀ s ∈ l, Fits s) (a1 : Int) (w1 : (Lit.int .i64 a1).wf = true) (a2 : Int) (w2 : (Lit.int .i64 a2).wf = true) (a3 : Int) (w3 : (Lit.int .i64 a3).wf = true) (a4 : Int) (w4 : (Lit.int .u16 a4).wf = true) (a5 : Int) (w5 : (Lit.int .u16 a5).wf = true) :
    ∃ k, sizarlaw33_PolicyWhen.f k l a1 a2 a3 a4 a5 = some true := by
  refine ⟨(2 + l.length) + 1, ?_⟩
  have ht := term_of a4 w4
  have hn := term_of a5 w5
  unfold sizarlaw33_PolicyWhen.f sizarlaw33_sane.f
  have hj : ∀ K, sizarlaw33_PolicyWhen.j0 (K + 1) l a1 a2 a3 a4 a5 true = some true := fun K => by
    simp only [sizarlaw33_PolicyWhen.j0]
    rw [if_pos trivial]
  rw [Option.bind_some, if_pos rfl, few_eq, Option.bind_some, checkP_eq, Option.bind_some, hj]
  by_cases h : l.length ≤ 30
  · rw [if_pos (decide_eq_true h)]
    by_cases hok : l.all okCl = true
    · rw [if_pos hok, if_pos rfl]
      by_cases hk1 : a1 < 1
      · rw [if_pos hk1]
      · rw [if_neg hk1]
        by_cases hk2 : a1 > 5
        · rw [decide_eq_true hk2, hj]
        · rw [decide_eq_false hk2]
          have hk : 1 ≤ a1 ∧ a1 ≤ 5 := ⟨by omega, by omega⟩
          simp only [sizarlaw33_PolicyWhen.j0]
          rw [if_neg (by decide), Action_eq, actR_ok l hok _ _ _ _ _ hk ht hn, Option.bind_some]
          generalize Int.tmod (wrap64 a4) 1024 = t at *
          generalize Int.tmod (wrap64 a5) 1024 = n at *
          refine when_l0 l (by omega) hok a1 a2 a3 t n (actV l a1 a2 a3 t n) 0 0 0 (some true) 1 ?_ l.length 0 [] (by omega) (by simp) (by simp)
          simp only [sizarlaw33_PolicyWhen.l0]
          rw [if_neg (by omega)]
          have hoo : (l.filter fun x => whenB x.f1 a2 a3).all okCl = true := all_filter l _ hok
          have ho : actV (l.filter fun x => whenB x.f1 a2 a3) a1 a2 a3 t n = actV l a1 a2 a3 t n := actV_filter l _ _ _ _ _ _ fun x _ hx => by
            unfold actB at hx
            rw [Bool.and_eq_true, Bool.and_eq_true] at hx
            exact hx.2.2
          by_cases c : a3 > a2
          · rw [if_pos c]
            exact when_j2 0 l _ hok hoo a1 a2 a3 t n 1 hk ht hn (by rw [if_pos c]) ho
          · rw [if_neg c]
            exact when_j2 0 l _ hok hoo a1 a2 a3 t n 0 hk ht hn (by rw [if_neg c]) ho
    · rw [if_neg hok, if_neg (by decide)]
  · rw [if_neg (by simpa using h)]
end Go.Proofs.Ytmljglbmokmonaa.Pure
