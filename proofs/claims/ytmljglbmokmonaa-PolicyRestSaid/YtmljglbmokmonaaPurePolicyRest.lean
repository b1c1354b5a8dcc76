/- PolicyRest in plain Lean: the printed law tells true. No condition. -/
import Derived.Test.YtmljglbmokmonaaPlain3
import Derived.Test.YtmljglbmokmonaaPrint4
namespace Go.Proofs.Ytmljglbmokmonaa.Pure
open Go.RowKit Go.Proofs.Ytmljglbmokmonaa.Print Go.Proofs.YtmljglbmokmonaaW.PrintWords Go.Proofs.Ytmljglbmokmonaa.Plain
set_option linter.unusedVariables false
theorem eta (x : S35) : (⟨x.f0, x.f1, x.f2, x.f3⟩ : S35) = x := rfl
theorem any_next (p : S35 → Bool) (c : Bool) (x : S35) (l : List S35) : (c || (x :: l).any p) = ((c || p x) || l.any p) := by rw [List.any_cons, Bool.or_assoc]
theorem filter_next (p : S35 → Bool) (o : List S35) (x : S35) (l : List S35) : o ++ (x :: l).filter p = (if p x = true then o ++ [x] else o) ++ l.filter p := by
  rw [List.filter_cons]
  cases p x <;> simp
theorem rest_l0 (l : List S35) (hl : l.length ≤ 1000) (hok : l.all okCl = true) (k b a t n A B C : Int) (ht : 0 ≤ t ∧ t ≤ 1023) (R : Option Bool) (q : Nat)
    (hend : sizarlaw33_PolicyRest.l0 (q + 1) k b a t n A 0 B 0 C 0 (l.filter fun x => decide (x.f0 = k)) (l.any (actB k b a t n)) l (l.length : Int) (l.length : Int) = R) :
    ∀ d i o c, l.length = i + d → o.length ≤ i → o ++ ((l.drop i).filter fun x => decide (x.f0 = k)) = (l.filter fun x => decide (x.f0 = k)) → (c || (l.drop i).any (actB k b a t n)) = l.any (actB k b a t n) →
    sizarlaw33_PolicyRest.l0 (q + 1 + d) k b a t n A 0 B 0 C 0 o c l (l.length : Int) (i : Int) = R := by
  intro d
  induction d with
  | zero =>
    intro i o c hd ho h1 h2
    obtain rfl : i = l.length := by omega
    rw [List.drop_of_length_le (by omega)] at h1 h2
    simp only [List.filter_nil, List.append_nil, List.any_nil, Bool.or_false] at h1 h2
    rw [h1, h2]
    exact hend
  | succ d ih =>
    intro i o c hd ho h1 h2
    have hi : i < l.length := by omega
    have hx := ok_of (List.all_eq_true.1 hok l[i] (List.getElem_mem hi))
    rw [drop_at l i hi] at h1 h2
    rw [filter_next] at h1
    rw [any_next] at h2
    rw [show q + 1 + (d + 1) = (q + 1 + d) + 1 by omega]
    simp only [sizarlaw33_PolicyRest.l0]
    rw [if_pos (by omega), if_pos (by omega), if_pos (by omega), rd_at l i hi, wrap_nat i (by omega), fits_eq, eta]
    have hw : wrap64 (t + l[i].f3) = t + l[i].f3 := by unfold wrap64; omega
    rw [hw]
    have hact : actB k b a t n l[i] = (fitB k b a l[i] && decide (n ≤ t + l[i].f3)) := actB_fit ..
    rw [hact] at h2
    by_cases hk : l[i].f0 = k
    · rw [if_pos (decide_eq_true hk)] at h1
      rw [if_pos hk, if_pos (by omega), Option.bind_some]
      cases c with
      | true =>
        rw [if_pos rfl]
        exact ih (i + 1) _ _ (by omega) (by simp; omega) h1 (by simpa using h2)
      | false =>
        rw [if_neg (by decide), Option.bind_some]
        cases hf : fitB k b a l[i] with
        | true =>
          rw [if_pos rfl]
          rw [hf] at h2
          exact ih (i + 1) _ _ (by omega) (by simp; omega) h1 (by simpa using h2)
        | false =>
          rw [if_neg (by decide)]
          rw [hf] at h2
          exact ih (i + 1) _ _ (by omega) (by simp; omega) h1 (by simpa using h2)
    · rw [if_neg (by simpa using hk)] at h1
      rw [if_neg hk]
      cases c with
      | true =>
        rw [if_pos rfl]
        exact ih (i + 1) _ _ (by omega) (by omega) h1 (by simpa using h2)
      | false =>
        rw [if_neg (by decide), Option.bind_some]
        cases hf : fitB k b a l[i] with
        | true =>
          rw [if_pos rfl]
          rw [hf] at h2
          exact ih (i + 1) _ _ (by omega) (by omega) h1 (by simpa using h2)
        | false =>
          rw [if_neg (by decide)]
          rw [hf] at h2
          exact ih (i + 1) _ _ (by omega) (by omega) h1 (by simpa using h2)
theorem PolicyRest (l : List S35) (hl : ∀ s ∈ l, Fits s) (m : List S35) (hm : ∀ s ∈ m, Fits s) (a1 : Int) (w1 : (Lit.int .i64 a1).wf = true) (a2 : Int) (w2 : (Lit.int .i64 a2).wf = true) (a3 : Int) (w3 : (Lit.int .i64 a3).wf = true) (a4 : Int) (w4 : (Lit.int .u16 a4).wf = true) (a5 : Int) (w5 : (Lit.int .u16 a5).wf = true) :
    ∃ k, sizarlaw33_PolicyRest.f k l m a1 a2 a3 a4 a5 = some true := by
  refine ⟨1 + (2 + l.length), ?_⟩
  have ht := term_of a4 w4
  have hn := term_of a5 w5
  unfold sizarlaw33_PolicyRest.f sizarlaw33_sane.f
  rw [Option.bind_some, if_pos rfl, few_eq, few_eq, checkP_eq, checkP_eq]
  have hj : ∀ K, sizarlaw33_PolicyRest.j0 (1 + K) l m a1 a2 a3 a4 a5 true = some true := fun K => by
    rw [Nat.add_comm 1 K]
    simp only [sizarlaw33_PolicyRest.j0]
    rw [if_pos trivial]
  rw [Option.bind_some, Option.bind_some, Option.bind_some, Option.bind_some, hj]
  by_cases h : l.length ≤ 30
  · rw [if_pos (decide_eq_true h)]
    by_cases h' : m.length ≤ 30
    · rw [if_pos (decide_eq_true h')]
      by_cases hok : l.all okCl = true
      · rw [if_pos hok, if_pos rfl]
        by_cases hok' : m.all okCl = true
        · rw [if_pos hok', if_pos rfl]
          by_cases hk1 : a1 < 1
          · rw [if_pos hk1]
          · rw [if_neg hk1]
            by_cases hk2 : a1 > 5
            · rw [decide_eq_true hk2, hj]
            · rw [decide_eq_false hk2, Nat.add_comm 1]
              have hk : 1 ≤ a1 ∧ a1 ≤ 5 := ⟨by omega, by omega⟩
              simp only [sizarlaw33_PolicyRest.j0]
              rw [if_neg (by decide), Action_eq, Action_eq, actR_ok l hok _ _ _ _ _ hk ht hn, actR_ok m hok' _ _ _ _ _ hk ht hn]
              simp only [Option.bind_some, List.nil_append, List.length_nil]
              rw [if_pos (by omega), if_pos (by omega), Action_eq, actR_ok (l ++ m) (all_append l m hok hok') _ _ _ _ _ hk ht hn, Option.bind_some]
              generalize Int.tmod (wrap64 a4) 1024 = t at *
              generalize Int.tmod (wrap64 a5) 1024 = n at *
              rw [show ((0 : Int)) = ((0 : Nat) : Int) from rfl]
              refine rest_l0 l (by omega) hok a1 a2 a3 t n (actV l a1 a2 a3 t n) (actV m a1 a2 a3 t n) (actV (l ++ m) a1 a2 a3 t n) ht (some true) 1 ?_ l.length 0 [] false (by omega) (by simp) (by simp) (by simp)
              simp only [sizarlaw33_PolicyRest.l0]
              have hall : (l.filter fun x => decide (x.f0 = a1)).all okCl = true := all_filter l _ hok
              rw [if_neg (by omega), Action_eq, actR_ok _ hall _ _ _ _ _ hk ht hn, actV_filter l _ _ _ _ _ _ (fun x _ hx => by
                unfold actB at hx
                rw [Bool.and_eq_true] at hx
                exact hx.1), Option.bind_some, if_pos trivial, if_pos trivial, if_pos trivial, if_pos rfl]
              simp only [sizarlaw33_PolicyRest.j2]
              rw [if_neg (by simp), actV_append]
              by_cases hany : l.any (actB a1 a2 a3 t n) = true
              · rw [if_pos hany, if_pos hany]
                simp
              · rw [if_neg hany, if_neg hany, if_pos (actV_none l _ _ _ _ _ (by simpa using hany))]
                simp
        · rw [if_neg hok', if_neg (by decide)]
      · rw [if_neg hok, if_neg (by decide)]
    · rw [if_neg (by simpa using h')]
  · rw [if_neg (by simpa using h)]
end Go.Proofs.Ytmljglbmokmonaa.Pure
