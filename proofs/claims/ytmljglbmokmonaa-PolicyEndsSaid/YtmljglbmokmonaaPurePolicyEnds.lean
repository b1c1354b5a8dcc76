/- PolicyEnds in plain Lean: the printed law tells true. No condition. -/
import Derived.Test.YtmljglbmokmonaaPlain3
import Derived.Test.YtmljglbmokmonaaPrint5
namespace Go.Proofs.Ytmljglbmokmonaa.Pure
open Go.RowKit Go.Proofs.Ytmljglbmokmonaa.Print Go.Proofs.YtmljglbmokmonaaW.PrintWords Go.Proofs.Ytmljglbmokmonaa.Plain
set_option linter.unusedVariables false
/-- The clause covers a term: it is about the change, its action is A, it has not expired at n, and has at 'last'. -/
def covB (k b a t n A last : Int) (x : S35) : Bool := fitB k b a x && (decide (x.f2 = A) && (decide (n ≤ t + x.f3) && decide (t + x.f3 < last)))
/-- A decision that is reversed at 'last' and not at n before is covered at n. -/
theorem covered (k b a t n last : Int) (hn : n < last) : ∀ l : List S35, actV l k b a t last = 3 → actV l k b a t n ≠ 3 → l.any (covB k b a t n (actV l k b a t n) last) = true := by
  intro l
  induction l with
  | nil => intro h; simp [actV_nil] at h
  | cons x l ih =>
    rw [actV_cons, actV_cons, actB_fit, actB_fit, List.any_cons]
    by_cases hf : fitB k b a x = true
    · rw [hf, Bool.true_and, Bool.true_and]
      by_cases h1 : last ≤ t + x.f3
      · rw [if_pos (decide_eq_true h1), if_pos (decide_eq_true (by omega))]
        intro h h'
        exact absurd h h'
      · rw [if_neg (by simpa using h1)]
        by_cases h2 : n ≤ t + x.f3
        · rw [if_pos (decide_eq_true h2)]
          intro _ _
          have : covB k b a t n x.f2 last x = true := by
            unfold covB
            rw [hf, decide_eq_true rfl, decide_eq_true h2, decide_eq_true (show t + x.f3 < last by omega)]
            rfl
          rw [this]
          rfl
        · rw [if_neg (by simpa using h2)]
          intro h h'
          rw [ih h h', Bool.or_true]
    · have hf' : fitB k b a x = false := by simpa using hf
      rw [hf', Bool.false_and, Bool.false_and]
      intro h h'
      have := ih h h'
      simp only [Bool.false_eq_true, if_false] at *
      rw [this, Bool.or_true]
theorem ends_l1 (l : List S35) (hl : l.length ≤ 1000) (hok : l.all okCl = true) (k b a t last n A : Int) (ht : 0 ≤ t ∧ t ≤ 1023) (x0 : List S35) (r : Nat) : ∀ d i c, l.length = i + d →
    sizarlaw33_PolicyEnds.l1 (r + 1 + d) x0 k b a t last n A c l (l.length : Int) (i : Int) = if (c || (l.drop i).any (covB k b a t n A last)) = true then sizarlaw33_PolicyEnds.l0 r x0 k b a t last (wrap64 (n + 1)) else some false := by
  intro d
  induction d with
  | zero =>
    intro i c hd
    rw [List.drop_of_length_le (by omega)]
    simp only [sizarlaw33_PolicyEnds.l1, List.any_nil, Bool.or_false]
    rw [if_neg (by omega)]
  | succ d ih =>
    intro i c hd
    have hi : i < l.length := by omega
    have hx := ok_of (List.all_eq_true.1 hok l[i] (List.getElem_mem hi))
    rw [drop_at l i hi, List.any_cons, ← Bool.or_assoc, show r + 1 + (d + 1) = (r + 1 + d) + 1 by omega]
    simp only [sizarlaw33_PolicyEnds.l1]
    have hw : wrap64 (t + l[i].f3) = t + l[i].f3 := by unfold wrap64; omega
    rw [if_pos (by omega), if_pos (by omega), if_pos (by omega), rd_at l i hi, wrap_nat i (by omega), fits_eq, Option.bind_some, hw, ih (i + 1) true (by omega), ih (i + 1) (decide (t + l[i].f3 < last)) (by omega), ih (i + 1) false (by omega)]
    cases c with
    | true => rfl
    | false =>
      rw [if_neg (by decide), Bool.false_or]
      cases hf : fitB k b a l[i] with
      | false =>
        rw [if_neg (by decide), show covB k b a t n A last l[i] = false by unfold covB; rw [hf, Bool.false_and]]
        rfl
      | true =>
        rw [if_pos rfl]
        by_cases h2 : l[i].f2 = A
        · rw [if_pos h2]
          by_cases h3 : n ≤ t + l[i].f3
          · rw [if_pos h3, show covB k b a t n A last l[i] = decide (t + l[i].f3 < last) by unfold covB; rw [hf, decide_eq_true h2, decide_eq_true h3]; simp]
            rfl
          · rw [if_neg h3, show covB k b a t n A last l[i] = false by unfold covB; rw [hf, decide_eq_false h3]; simp]
            rfl
        · rw [if_neg h2, show covB k b a t n A last l[i] = false by unfold covB; rw [hf, decide_eq_false h2]; simp]
          rfl
theorem ends_j4 (l : List S35) (hl : l.length ≤ 1000) (hok : l.all okCl = true) (k b a t last n A : Int) (ht : 0 ≤ t ∧ t ≤ 1023) (r : Nat) (z : Bool) (hz : (z || l.any (covB k b a t n A last)) = true) (hnext : ∀ q, r ≤ q → sizarlaw33_PolicyEnds.l0 q l k b a t last (wrap64 (n + 1)) = some true) :
    sizarlaw33_PolicyEnds.j4 (r + 1 + l.length + 1) l k b a t last n A z = some true := by
  simp only [sizarlaw33_PolicyEnds.j4]
  cases z with
  | true =>
    rw [if_pos rfl]
    exact hnext _ (by omega)
  | false =>
    rw [if_neg (by decide), show ((0 : Int)) = ((0 : Nat) : Int) from rfl, ends_l1 l hl hok k b a t last n A ht l r l.length 0 false (by omega), List.drop_zero, if_pos hz]
    exact hnext _ (Nat.le_refl _)
theorem ends_l0 (l : List S35) (hl : l.length ≤ 30) (hok : l.all okCl = true) (k b a t : Int) (hk : 1 ≤ k ∧ k ≤ 5) (ht : 0 ≤ t ∧ t ≤ 1023) : ∀ d i r : Nat, i + d = 1024 → d * 40 + 1 ≤ r →
    sizarlaw33_PolicyEnds.l0 r l k b a t (lastRev (actV l k b a t) 1024) (i : Int) = some true := by
  intro d
  induction d with
  | zero =>
    intro i r hi hr
    obtain ⟨r, rfl⟩ : ∃ q, r = q + 1 := ⟨r - 1, by omega⟩
    simp only [sizarlaw33_PolicyEnds.l0]
    rw [if_neg (by omega)]
  | succ d ih =>
    intro i r hi hr
    obtain ⟨q, rfl⟩ : ∃ q, r = (q + 1 + l.length + 1) + 1 + 1 := ⟨r - (l.length + 4), by omega⟩
    have hq : d * 40 + 1 ≤ q := by omega
    have hnext : ∀ q', q ≤ q' → sizarlaw33_PolicyEnds.l0 q' l k b a t (lastRev (actV l k b a t) 1024) (wrap64 ((i : Int) + 1)) = some true := fun q' h => by
      rw [wrap_nat i (by omega)]
      exact ih (i + 1) q' (by omega) (by omega)
    have habove := lastRev_above (actV l k b a t) 1024 i
    have hat := lastRev_at (actV l k b a t) 1024
    have hlate := actV_late l hok k b a t (i : Int)
    have hcov := covered k b a t (i : Int) (lastRev (actV l k b a t) 1024)
    generalize hL : lastRev (actV l k b a t) 1024 = last at *
    have hj4 := fun A z hz => ends_j4 l (by omega) hok k b a t last (i : Int) A ht q z hz hnext
    have hj3 : sizarlaw33_PolicyEnds.j3 ((q + 1 + l.length + 1) + 1) l k b a t last (i : Int) (actV l k b a t (i : Int)) false = some true := by
      simp only [sizarlaw33_PolicyEnds.j3]
      rw [if_neg (by decide)]
      by_cases h1 : (i : Int) > last
      · rw [if_pos h1]
        exact hj4 _ true (by simp)
      · rw [if_neg h1]
        by_cases h3 : actV l k b a t (i : Int) = 3
        · rw [h3]
          exact hj4 _ true (by simp)
        · rw [show (actV l k b a t (i : Int) == 3) = false by simpa using h3]
          refine hj4 _ false ?_
          have hne : (i : Int) ≠ last := by
            rintro e
            rw [e] at h3
            exact h3 (hat (by omega))
          rw [Bool.false_or]
          exact hcov (by omega) l (hat (by omega)) h3
    simp only [sizarlaw33_PolicyEnds.l0]
    have hw : wrap64 (t + 12) = t + 12 := by unfold wrap64; omega
    rw [if_pos (by omega), Action_eq, actR_ok l hok k b a t i hk ht ⟨by omega, by omega⟩, Option.bind_some, hw]
    simp only [if_true]
    have hlast : (i : Int) = last → (actV l k b a t (i : Int) != 3) = false := fun e => by
      rw [e, hat (by omega)]
      rfl
    have hfin : (if (i : Int) > last then if actV l k b a t (i : Int) = 3 then sizarlaw33_PolicyEnds.j3 ((q + 1 + l.length + 1) + 1) l k b a t last (i : Int) (actV l k b a t (i : Int)) true else if (i : Int) = last then sizarlaw33_PolicyEnds.j3 ((q + 1 + l.length + 1) + 1) l k b a t last (i : Int) (actV l k b a t (i : Int)) (actV l k b a t (i : Int) != 3) else sizarlaw33_PolicyEnds.j3 ((q + 1 + l.length + 1) + 1) l k b a t last (i : Int) (actV l k b a t (i : Int)) false
        else if (i : Int) = last then sizarlaw33_PolicyEnds.j3 ((q + 1 + l.length + 1) + 1) l k b a t last (i : Int) (actV l k b a t (i : Int)) (actV l k b a t (i : Int) != 3) else sizarlaw33_PolicyEnds.j3 ((q + 1 + l.length + 1) + 1) l k b a t last (i : Int) (actV l k b a t (i : Int)) false) = some true := by
      by_cases h1 : (i : Int) > last
      · rw [if_pos h1, if_neg (habove (by omega) (by omega)), if_neg (by omega)]
        exact hj3
      · rw [if_neg h1]
        by_cases h2 : (i : Int) = last
        · rw [if_pos h2, hlast h2]
          exact hj3
        · rw [if_neg h2]
          exact hj3
    by_cases h12 : (i : Int) > t + 12
    · rw [if_pos h12, if_pos (hlate h12)]
      exact hfin
    · rw [if_neg h12]
      exact hfin
theorem last_top_le (l : List S35) (hok : l.all okCl = true) (k b a t : Int) (ht : 0 ≤ t ∧ t ≤ 1023) : lastRev (actV l k b a t) 1024 ≤ t + 12 := by
  rw [last_top l hok k b a t ht]
  have h := (lastRev_bounds (actV l k b a t) (topOf t)).2
  have hT : ((topOf t : Nat) : Int) ≤ t + 13 := by unfold topOf; split <;> omega
  omega
theorem PolicyEnds (l : List S35) (hl : ∀ s ∈ l, Fits s) (a1 : Int) (w1 : (Lit.int .i64 a1).wf = true) (a2 : Int) (w2 : (Lit.int .i64 a2).wf = true) (a3 : Int) (w3 : (Lit.int .i64 a3).wf = true) (a4 : Int) (w4 : (Lit.int .u16 a4).wf = true) :
    ∃ k, sizarlaw33_PolicyEnds.f k l a1 a2 a3 a4 = some true := by
  refine ⟨50002, ?_⟩
  have ht := term_of a4 w4
  unfold sizarlaw33_PolicyEnds.f sizarlaw33_sane.f
  have hj : sizarlaw33_PolicyEnds.j0 50002 l a1 a2 a3 a4 true = some true := by
    rw [show 50002 = 50001 + 1 from rfl]
    simp only [sizarlaw33_PolicyEnds.j0]
    rw [if_pos trivial]
  rw [Option.bind_some, if_pos rfl, few_eq, Option.bind_some, checkP_eq, Option.bind_some, hj]
  by_cases h : l.length ≤ 30
  · rw [if_pos (decide_eq_true h)]
    by_cases hok : l.all okCl = true
    · rw [if_pos hok, if_pos rfl]
      by_cases hk1 : a1 < 1
      · rw [if_pos hk1]
      · rw [if_neg hk1]
        by_cases hk2 : a1 > 5
        · rw [decide_eq_true hk2, hj]
        · rw [decide_eq_false hk2, show 50002 = 50001 + 1 from rfl]
          have hk : 1 ≤ a1 ∧ a1 ≤ 5 := ⟨by omega, by omega⟩
          simp only [sizarlaw33_PolicyEnds.j0]
          rw [if_neg (by decide), Until_eq l _ (by omega), untilR_ok l hok _ _ _ _ hk ht, Option.bind_some]
          generalize Int.tmod (wrap64 a4) 1024 = t at *
          have hb := lastRev_bounds (actV l a1 a2 a3 t) 1024
          have htop := last_top_le l hok a1 a2 a3 t ht
          have hw : wrap64 (t + 12) = t + 12 := by unfold wrap64; omega
          have hend := ends_l0 l h hok a1 a2 a3 t hk ht 1024 0 50000 (by omega) (by omega)
          simp only [if_true, hw]
          rw [if_neg (by omega), if_neg (by omega), decide_eq_false (by omega), show 50001 = 50000 + 1 from rfl]
          simp only [sizarlaw33_PolicyEnds.j1]
          rw [if_neg (by decide)]
          exact hend
    · rw [if_neg hok, if_neg (by decide)]
  · rw [if_neg (by simpa using h)]
end Go.Proofs.Ytmljglbmokmonaa.Pure
