/- The first clause that applies, in plain Lean: lists with more behind, lists without what does not matter. No condition beyond those stated. -/
import Derived.Test.YtmljglbmokmonaaPlain2
import Derived.Test.YtmljglbmokmonaaPrint3
namespace Go.Proofs.Ytmljglbmokmonaa.Plain
open Go.RowKit Go.Proofs.Ytmljglbmokmonaa.Print Go.Proofs.YtmljglbmokmonaaW.PrintWords
set_option linter.unusedVariables false
def fitB (k b a : Int) (x : S35) : Bool := decide (x.f0 = k) && whenB x.f1 b a
theorem fits_eq (x : S35) (k b a : Int) : sizarlaw33_fits.f x.f0 x.f1 x.f2 x.f3 k b a = some (fitB k b a x) := by
  unfold sizarlaw33_fits.f fitB whenB
  by_cases h : x.f0 = k
  · rw [if_pos h]
    by_cases h1 : x.f1 = 1
    · rw [if_pos h1, if_pos h1]
      simp [h]
    · rw [if_neg h1, if_neg h1]
      by_cases h2 : x.f1 = 2
      · rw [if_pos h2, if_pos h2]
        simp [h]
      · rw [if_neg h2, if_neg h2]
        simp [h]
  · rw [if_neg h]
    simp [h]
theorem actB_fit (k b a t n : Int) (x : S35) : actB k b a t n x = (fitB k b a x && decide (n ≤ t + x.f3)) := by
  unfold actB fitB
  cases decide (x.f0 = k) <;> cases decide (n ≤ t + x.f3) <;> cases whenB x.f1 b a <;> rfl
theorem actV_cons (x : S35) (l : List S35) (k b a t n : Int) : actV (x :: l) k b a t n = if actB k b a t n x = true then x.f2 else actV l k b a t n := by
  unfold actV
  rw [List.find?_cons]
  cases actB k b a t n x <;> rfl
theorem actV_nil (k b a t n : Int) : actV [] k b a t n = 1 := rfl
theorem actV_append (l m : List S35) (k b a t n : Int) : actV (l ++ m) k b a t n = if l.any (actB k b a t n) = true then actV l k b a t n else actV m k b a t n := by
  induction l with
  | nil => rfl
  | cons x l ih =>
    rw [List.cons_append, actV_cons, actV_cons, ih, List.any_cons]
    cases actB k b a t n x <;> simp
theorem actV_none (l : List S35) (k b a t n : Int) (h : l.any (actB k b a t n) = false) : actV l k b a t n = 1 := by
  have := actV_append l [] k b a t n
  rw [List.append_nil, h] at this
  rw [this]
  rfl
theorem actV_filter (l : List S35) (k b a t n : Int) (p : S35 → Bool) (hp : ∀ x ∈ l, actB k b a t n x = true → p x = true) : actV (l.filter p) k b a t n = actV l k b a t n := by
  induction l with
  | nil => rfl
  | cons x l ih =>
    have ih' := ih fun y hy => hp y (List.mem_cons_of_mem _ hy)
    rw [List.filter_cons]
    by_cases h : p x = true
    · rw [if_pos h, actV_cons, actV_cons, ih']
    · rw [if_neg h, actV_cons, ih', if_neg fun e => h (hp x List.mem_cons_self e)]
theorem all_filter (l : List S35) (p : S35 → Bool) (h : l.all okCl = true) : (l.filter p).all okCl = true :=
  List.all_eq_true.2 fun x hx => List.all_eq_true.1 h x (List.mem_filter.1 hx).1
theorem all_append (l m : List S35) (h : l.all okCl = true) (h' : m.all okCl = true) : (l ++ m).all okCl = true := by rw [List.all_append, h, h']; rfl
theorem term_of (a : Int) (w : (Lit.int .u16 a).wf = true) : 0 ≤ Int.tmod (wrap64 a) 1024 ∧ Int.tmod (wrap64 a) 1024 ≤ 1023 := by
  have h := bounds_u16 w
  have e : wrap64 a = a := by unfold wrap64; omega
  rw [e, Int.tmod_eq_emod_of_nonneg h.1]
  omega
theorem actR_ok (l : List S35) (hok : l.all okCl = true) (k b a t n : Int) (hk : 1 ≤ k ∧ k ≤ 5) (ht : 0 ≤ t ∧ t ≤ 1023) (hn : 0 ≤ n ∧ n ≤ 1023) : actR l k b a t n = (actV l k b a t n, 0) := by
  unfold actR
  rw [if_pos hok, if_pos (show kOK k t = true from decide_eq_true ⟨hk.1, hk.2, ht.1, ht.2⟩), if_pos (show nOK n = true from decide_eq_true hn)]
theorem untilR_ok (l : List S35) (hok : l.all okCl = true) (k b a t : Int) (hk : 1 ≤ k ∧ k ≤ 5) (ht : 0 ≤ t ∧ t ≤ 1023) : untilR l k b a t = (lastRev (actV l k b a t) 1024, 0) := by
  unfold untilR
  rw [if_pos hok, if_pos (show kOK k t = true from decide_eq_true ⟨hk.1, hk.2, ht.1, ht.2⟩)]
theorem checkP_eq (l : List S35) : policy_Check.f l = some (if l.all okCl = true then 0 else 330) := rfl
end Go.Proofs.Ytmljglbmokmonaa.Plain
