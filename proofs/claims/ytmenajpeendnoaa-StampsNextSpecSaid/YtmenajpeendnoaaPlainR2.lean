/- What the reference's Next, Valid and Merge come to, in plain Lean. -/
import Derived.Test.YtmenajpeendnoaaPrint9
import Derived.Test.YtmenajpeendnoaaPrint11
import Derived.Test.YtmenajpeendnoaaPlain2
import Derived.Test.YtmenajpeendnoaaPlain3
import Derived.Test.YtmenajpeendnoaaPlainR1
namespace Go.Proofs.Ytmenajpeendnoaa.Plain
open Go.RowKit Go.Proofs.Ytmenajpeendnoaa.Print Go.Proofs.YtmenajpeendnoaaW.PrintWords Go.Proofs.YtmenajpeendnoaaW.PrintLast Go.Proofs.YtmenajpeendnoaaW.PrintMore
theorem refNext_eq (k : Nat) (a b c s : Int) : sizarref08_Next.f (k + 1) a b c s = some (if nextIn a b c s then (if mx a s ≤ 1048575 ∧ c ≤ 1048575 then (1 + mx a s, b, 1 + c, 0) else (0, 0, 0, 2)) else (0, 0, 0, 80)) := by
  unfold sizarref08_Next.f
  have hb : sizarref08_Next.j0 (k + 1) s true a b c = some (0, 0, 0, 80) := by simp [sizarref08_Next.j0]
  by_cases h1 : b < 0
  · rw [if_pos h1, if_neg (by unfold nextIn; omega), hb]
  rw [if_neg h1]
  by_cases h2 : b ≥ 7
  · rw [if_pos h2, if_neg (by unfold nextIn; omega), hb]
  rw [if_neg h2]
  by_cases h3 : a < 0
  · rw [if_pos h3, if_neg (by unfold nextIn; omega), hb]
  rw [if_neg h3]
  by_cases h4 : a > 1048576
  · rw [if_pos h4, if_neg (by unfold nextIn; omega), hb]
  rw [if_neg h4]
  by_cases h5 : s < 0
  · rw [if_pos h5, if_neg (by unfold nextIn; omega), hb]
  rw [if_neg h5]
  by_cases h6 : s > 1048576
  · rw [if_pos h6, if_neg (by unfold nextIn; omega), hb]
  rw [if_neg h6]
  by_cases h7 : c < 0
  · rw [if_pos h7, if_neg (by unfold nextIn; omega), hb]
  rw [if_neg h7]
  by_cases h8 : c > 1048576
  · rw [decide_eq_true h8, if_neg (by unfold nextIn; omega), hb]
  · rw [decide_eq_false h8, if_pos (show nextIn a b c s by unfold nextIn; omega)]
    simp only [sizarref08_Next.j0]
    have hm := mx_cases a s
    generalize mx a s = t at *
    rw [if_neg (by decide)]
    by_cases p : t = 1048576
    · rw [if_pos p, if_neg (by omega)]
    · rw [if_neg p]
      by_cases q : c = 1048576
      · rw [if_pos q, if_neg (by omega)]
      · rw [if_neg q, if_pos (by omega)]
        have w1 : wrap64 (t + 1) = 1 + t := by unfold wrap64; omega
        have w2 : wrap64 (c + 1) = 1 + c := by unfold wrap64; omega
        rw [w1, w2]
theorem refValid_l0 (l : List S24) (hl : l.length ≤ 2000) : ∀ d k i, l.length = i + d → 2 * d + 6 ≤ k →
    sizarref08_Valid.l0 k l (i : Int) = some (vl (if i = 0 then none else l[i - 1]?) (l.drop i)) := by
  intro d
  induction d with
  | zero =>
    intro k i hd hk
    obtain ⟨k, rfl⟩ : ∃ m, k = m + 1 := ⟨k - 1, by omega⟩
    simp only [sizarref08_Valid.l0]
    rw [if_neg (by omega), List.drop_of_length_le (by omega)]
    simp [vl]
  | succ d ih =>
    intro k i hd hk
    obtain ⟨k, rfl⟩ : ∃ m, k = m + 8 := ⟨k - 8, by omega⟩
    have hi : i < l.length := by omega
    simp only [sizarref08_Valid.l0]
    rw [if_pos (by omega), if_pos (by omega), rd_at l i hi, drop_at l i hi, refCheck_eq, Option.bind_some]
    unfold vl
    by_cases ho : okT l[i]
    · rw [if_pos ho, if_pos rfl, if_pos ho]
      have hn := ih (k + 6) (i + 1) (by omega) (by omega)
      rw [if_neg (by omega)] at hn
      have hg : l[i + 1 - 1]? = some l[i] := by simp [hi]
      rw [hg] at hn
      cases i with
      | zero =>
        rw [if_neg (by decide)]
        simp only [sizarref08_Valid.j1]
        rw [if_neg (by decide), wrap_nat 0 (by omega), hn]
        simp
      | succ j =>
        rw [if_pos (by omega), wrap_pred j (by omega), if_pos (by omega), if_pos (by omega), rd_at l j (by omega), refCompare_eq, Option.bind_some]
        rw [if_neg (by omega)]
        have hg2 : l[j + 1 - 1]? = some l[j] := by simp
        rw [hg2]
        simp only [sizarref08_Valid.j1]
        by_cases hc : cmpS l[j] l[j + 1] < 0
        · rw [decide_eq_false (show ¬ (cmpS l[j] l[j + 1] ≥ 0) by omega), if_neg (by decide), wrap_nat (j + 1) (by omega), hn]
          simp [hc]
        · rw [decide_eq_true (show (cmpS l[j] l[j + 1] ≥ 0) by omega), if_pos rfl]
          simp [hc]
    · rw [if_neg ho, if_neg (by decide), if_neg ho]
      simp [sizarref08_Valid.j1]
theorem refValid_eq (l : List S24) (hl : l.length ≤ 2000) (k : Nat) (hk : 2 * l.length + 6 ≤ k) : sizarref08_Valid.f k l = some (vl none l) := by
  have := refValid_l0 l hl l.length k 0 (by omega) hk
  simpa [sizarref08_Valid.f] using this
theorem eta24 (x : S24) : (⟨x.f0, x.f1, x.f2⟩ : S24) = x := by cases x; rfl
theorem refMerge_l0 (a b : List S24) (ha : a.length ≤ 1000) (hb : b.length ≤ 1000) : ∀ n k i j (acc : List S24), i ≤ a.length → j ≤ b.length → (a.length - i) + (b.length - j) = n → 3 * n + 10 ≤ k → acc.length + n ≤ 10000 →
    sizarref08_Merge.l0 k a b acc (i : Int) (j : Int) = some (acc ++ mergeL (a.drop i) (b.drop j), 0) := by
  intro n
  induction n using Nat.strongRecOn with
  | _ n ih =>
    intro k i j acc hi hj hn hk hacc
    obtain ⟨k, rfl⟩ : ∃ m, k = m + 6 := ⟨k - 6, by omega⟩
    have hlen : ∀ x : S24, (acc ++ [x]).length = acc.length + 1 := fun x => by simp
    have hcap : acc.length < 5864062014805 := by omega
    by_cases hia : i < a.length
    · simp only [sizarref08_Merge.l0]
      rw [if_pos (by omega)]
      simp only [sizarref08_Merge.j2]
      rw [if_pos trivial]
      by_cases hjb : j = b.length
      · rw [if_pos (by omega)]
        simp only [sizarref08_Merge.j3]
        rw [if_pos trivial, if_neg (by omega), if_pos (by omega), if_pos (by omega), if_pos hcap, rd_at a i hia, eta24, wrap_nat i (by omega), ih (n - 1) (by omega) (k + 3) (i + 1) j _ (by omega) hj (by omega) (by omega) (by rw [hlen]; omega)]
        rw [List.drop_of_length_le (show b.length ≤ j by omega), mergeL_nil, mergeL_nil, drop_at a i hia]
        simp
      · have hjb' : j < b.length := by omega
        rw [if_neg (by omega), if_pos (by omega), if_pos (by omega), if_pos (by omega), if_pos (by omega), rd_at a i hia, rd_at b j hjb', refCompare_eq, Option.bind_some]
        rw [drop_at a i hia, drop_at b j hjb', mergeL]
        simp only [sizarref08_Merge.j3]
        rw [rd_at a i hia, rd_at b j hjb', eta24, eta24]
        have he : (a[i].f0 == b[j].f0 && (a[i].f1 == b[j].f1 && (a[i].f2 == b[j].f2))) = true ↔ a[i] = b[j] := by
          generalize a[i] = x
          generalize b[j] = y
          cases x; cases y; simp
        rcases cmp_tri a[i] b[j] with ⟨h, e⟩ | ⟨h, e⟩ | ⟨h, e⟩
        · rw [if_pos (show cmpS a[i] b[j] < 0 by omega), if_pos (decide_eq_true (show cmpS a[i] b[j] ≤ 0 by omega)), if_pos (by omega), if_pos (by omega), if_pos (by omega), if_pos (by omega),
            if_neg (fun q => by rw [he.1 q] at h; exact h.irrefl), if_pos hcap, wrap_nat i (by omega), ih (n - 1) (by omega) (k + 3) (i + 1) j _ (by omega) hj (by omega) (by omega) (by rw [hlen]; omega), drop_at b j hjb']
          simp
        · rw [if_neg (show ¬ cmpS a[i] b[j] < 0 by omega), if_neg (show ¬ 0 < cmpS a[i] b[j] by omega), if_pos (decide_eq_true (show cmpS a[i] b[j] ≤ 0 by omega)), if_pos (by omega), if_pos (by omega), if_pos (by omega), if_pos (by omega),
            if_pos (he.2 h), if_pos hcap, wrap_nat i (by omega), wrap_nat j (by omega), ih (n - 2) (by omega) (k + 3) (i + 1) (j + 1) _ (by omega) (by omega) (by omega) (by omega) (by rw [hlen]; omega)]
          simp
        · rw [if_neg (show ¬ cmpS a[i] b[j] < 0 by omega), if_pos (show 0 < cmpS a[i] b[j] by omega), if_neg (by rw [decide_eq_true_iff]; omega), if_pos (by omega), if_pos (by omega),
            if_pos hcap, wrap_nat j (by omega), ih (n - 1) (by omega) (k + 3) i (j + 1) _ hi (by omega) (by omega) (by omega) (by rw [hlen]; omega), drop_at a i hia]
          simp
    · obtain rfl : i = a.length := by omega
      simp only [sizarref08_Merge.l0]
      rw [if_neg (by omega), List.drop_of_length_le (Nat.le_refl a.length)]
      by_cases hjb : j < b.length
      · rw [decide_eq_true (show (j : Int) < b.length by omega)]
        simp only [sizarref08_Merge.j2]
        rw [if_pos trivial, if_neg (by omega), if_neg (by omega)]
        simp only [sizarref08_Merge.j3]
        rw [if_neg (by decide), if_pos (by omega), if_pos (by omega), if_pos hcap, rd_at b j hjb, eta24, wrap_nat j (by omega), ih (n - 1) (by omega) (k + 3) a.length (j + 1) _ (Nat.le_refl _) (by omega) (by omega) (by omega) (by rw [hlen]; omega), List.drop_of_length_le (Nat.le_refl a.length), drop_at b j hjb]
        simp [mergeL]
      · rw [decide_eq_false (show ¬ (j : Int) < b.length by omega), List.drop_of_length_le (show b.length ≤ j by omega)]
        simp [sizarref08_Merge.j2, mergeL]
theorem refMerge_eq (l m : List S24) (hl : l.length ≤ 200) (hm : m.length ≤ 200) (k : Nat) (hk : 2000 ≤ k) : sizarref08_Merge.f k l m = some (if vl none l = true ∧ vl none m = true then (mergeL l m, 0) else ([], 80)) := by
  obtain ⟨k, rfl⟩ : ∃ n, k = n + 1 := ⟨k - 1, by omega⟩
  unfold sizarref08_Merge.f
  rw [refValid_eq l (by omega) _ (by omega), refValid_eq m (by omega) _ (by omega), Option.bind_some, Option.bind_some]
  simp only [sizarref08_Merge.j0]
  have h := refMerge_l0 l m (by omega) (by omega) (l.length + m.length) k 0 0 [] (by omega) (by omega) (by omega) (by omega) (by simp; omega)
  cases vl none l
  · simp
  · cases vl none m
    · simp
    · simpa using h
end Go.Proofs.Ytmenajpeendnoaa.Plain
