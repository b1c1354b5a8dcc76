import Derived.Test.YtmenajpeendnoaaPrint3
import Derived.Deep.Slices
namespace Go.Proofs.Ytmenajpeendnoaa.Print
open Go.RowKit Go.Proofs.YtmenajpeendnoaaW.PrintWords Go.Proofs.YtmenajpeendnoaaW.PrintLast Go.Proofs.YtmenajpeendnoaaW.PrintMore
set_option linter.unusedVariables false
/-! ### The order of stamps and the merge of two lists, in plain Lean -/
def cmpI (a b : Int) : Int := if a < b then -1 else if b < a then 1 else 0
def cmpS (x y : S24) : Int := if cmpI x.f0 y.f0 ≠ 0 then cmpI x.f0 y.f0 else if cmpI x.f1 y.f1 ≠ 0 then cmpI x.f1 y.f1 else cmpI x.f2 y.f2
def mergeL : List S24 → List S24 → List S24
  | [], ys => ys
  | x :: xs, [] => x :: xs
  | x :: xs, y :: ys => if cmpS x y < 0 then x :: mergeL xs (y :: ys) else if 0 < cmpS x y then y :: mergeL (x :: xs) ys else x :: mergeL xs ys
  termination_by l m => l.length + m.length
theorem cmpI_self (a : Int) : cmpI a a = 0 := by unfold cmpI; rw [if_neg (Int.lt_irrefl a), if_neg (Int.lt_irrefl a)]
theorem Compare_int_eq (a b : Int) : cmp_Compare_int.f a b = some (cmpI a b) := by
  unfold cmp_Compare_int.f cmp_isNaN_int.f cmpI
  simp only [bne_self_eq_false, Option.bind_some, Bool.false_eq_true, if_false]
  by_cases h : a < b
  · rw [if_pos h, if_pos h]
  · rw [if_neg h, if_neg h]
    by_cases h' : a > b
    · rw [if_pos h', if_pos h']
    · rw [if_neg h', if_neg h']
theorem first3 (k : Nat) (a b c : Int) : stamps_first.f (k + 4) [a, b, c] = some (if a ≠ 0 then a else if b ≠ 0 then b else c) := by
  unfold stamps_first.f
  have r0 : rd [a, b, c] 0 = a := rfl
  have r1 : rd [a, b, c] 1 = b := rfl
  have r2 : rd [a, b, c] 2 = c := rfl
  have w0 : wrap64 (0 + 1) = 1 := by unfold wrap64; omega
  have w1 : wrap64 (1 + 1) = 2 := by unfold wrap64; omega
  have w2 : wrap64 (2 + 1) = 3 := by unfold wrap64; omega
  have len : (([a, b, c] : List Int).length : Int) = 3 := rfl
  simp only [stamps_first.l0, len, r0, r1, r2, w0, w1, w2]
  by_cases h0 : a = 0
  · subst h0
    by_cases h1 : b = 0
    · subst h1
      by_cases h2 : c = 0
      · subst h2; simp
      · simp [h2]
    · simp [h1]
  · simp [h0]
theorem Compare_eq (k : Nat) (x y : S24) : stamps_Compare.f (k + 4) x.f0 x.f1 x.f2 y.f0 y.f1 y.f2 = some (cmpS x y) := by
  unfold stamps_Compare.f cmpS
  by_cases h : (x.f0 == y.f0 && (x.f1 == y.f1 && (x.f2 == y.f2))) = true
  · rw [if_pos h]
    simp only [Bool.and_eq_true, beq_iff_eq] at h
    rw [h.1, h.2.1, h.2.2, cmpI_self, cmpI_self, cmpI_self]
    rfl
  · rw [if_neg h, Compare_int_eq, Compare_int_eq, Compare_int_eq]
    simp only [Option.bind_some]
    rw [first3]
    rfl
theorem compare_any (x y : S24) (w : World) :
    Calls Try.prog 14 #[.agg #[.int .i64 x.f0, .int .i64 x.f1, .int .i64 x.f2], .agg #[.int .i64 y.f0, .int .i64 y.f1, .int .i64 y.f2]] w fun e w' => e = .returned (.int .i64 (cmpS x y)) ∧ Below w.heap.size w w' :=
  stamps_Compare.calls 4 _ _ _ _ _ _ _ w (Compare_eq 0 x y)
/-! ### A slice of stamps that is cut from its front -/
def Sl (w : World) (v : Value) (xs : List S24) : Prop := ∃ A c, v = .slice A xs.length c ∧ xs.length ≤ c ∧ Kd.C k24 w A xs.length xs
theorem Sl.head {w : World} {v : Value} {x : S24} {xs : List S24} (h : Sl w v (x :: xs)) : ∃ ad c A', v = .slice (some ad) (xs.length + 1) c ∧ xs.length + 1 ≤ c ∧ xs.length + 1 ≤ 9223372036854775807 ∧
    w.cell? ad = some (.int .i64 x.f0) ∧ w.cell? ⟨ad.block, ad.off + 1, none⟩ = some (.int .i64 x.f1) ∧ w.cell? ⟨ad.block, ad.off + 2, none⟩ = some (.int .i64 x.f2) ∧
    (∀ W : World, (Instr.slice 22 (.slice (some ad) (xs.length + 1) c) (some (.int .i64 1)) none none).run Try.prog W = .ok (.slice A' xs.length (c - 1)) W) ∧
    Sl w (.slice A' xs.length (c - 1)) xs := by
  obtain ⟨A, c, rfl, hc, hC⟩ := h
  obtain ⟨ad, e, h0, h1, h2⟩ := at_T24 hC 0 (by omega) (by simp)
  subst e
  have r : rd_T24 (x :: xs) 0 = x := rfl
  rw [r] at h0 h1 h2
  have ez : ad.add ((0 : Int).toNat * 3) = ad := by simp [Addr.add]
  rw [ez] at h0 h1 h2
  obtain ⟨i0, hi, hz0, hz1, hz2⟩ := info_parts info24
  have hlen : (x :: xs).length = xs.length + 1 := rfl
  rw [hlen] at hc hC
  have hmax := hC.2.1
  refine ⟨ad, c, if c = 1 then some ad else some (ad.add 3), rfl, hc, hmax, h0, h1, h2, ?_, ?_⟩
  · intro W
    have := cut_from 22 24 .i64 Try.underlying22 hi 3 hz1 (some ad) (xs.length + 1) c 1 (by omega) (by omega) W
    simpa using this
  · by_cases h1c : c = 1
    · have h0 : xs.length = 0 := by omega
      refine ⟨_, _, rfl, by omega, rfl, by omega, fun hp => absurd hp (by omega)⟩
    · rw [if_neg h1c]
      refine ⟨_, _, rfl, by omega, rfl, by omega, fun hp => ⟨_, rfl, fun j p hj => ?_⟩⟩
      obtain ⟨ad', e', hh⟩ := hC.2.2 (by omega)
      cases e'
      obtain ⟨cs, hcs, hk, hu⟩ := hh (j + 1) p (by simpa using hj)
      refine ⟨cs, hcs, hk, fun i u hi => ?_⟩
      have := hu i u hi
      rw [show (j + 1) * k24.sz + i = 3 + (j * k24.sz + i) by show (j + 1) * 3 + i = 3 + (j * 3 + i); omega] at this
      rw [← this]
      congr 1
      exact Go.Deep.add_add _ _ _
theorem Sl.nil {w : World} {v : Value} (h : Sl w v []) : ∃ A c, v = .slice A 0 c := by
  obtain ⟨A, c, e, _⟩ := h
  exact ⟨A, c, e⟩
end Go.Proofs.Ytmenajpeendnoaa.Print
