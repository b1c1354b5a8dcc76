/- How a slice of the program's structs (type 24), as it came in, reads as a list of that struct's numbers, each within its kind. No condition but that the slice can be read as data. -/
import Derived.Test.YtmenajpeendnoaaPrint0
import Derived.Deep.Slices
import Derived.Deep.Fields
import Derived.ChangeSame
import Derived.ProofKit
import Derived.OpenShut
import Derived.ChangeOld
namespace Go.Proofs.Ytmenajpeendnoaa.Print
open Go.ChangeShapes Go.WideShapes Go.Deep Go.RowKit Go.Proofs.YtmenajpeendnoaaW.PrintWords Go.Proofs.YtmenajpeendnoaaW.PrintLast Go.Proofs.YtmenajpeendnoaaW.PrintMore
set_option linter.unusedVariables false
def Fits (s : S24) : Prop := (Lit.int .i64 s.f0).wf = true ∧ (Lit.int .i64 s.f1).wf = true ∧ (Lit.int .i64 s.f2).wf = true
theorem list_of {Q : Nat → S24 → Prop} : ∀ n : Nat, (∀ i, i < n → ∃ s, Q i s) → ∃ l : List S24, l.length = n ∧ ∀ i s, l[i]? = some s → Q i s
  | 0, _ => ⟨[], rfl, fun i s h => by simp at h⟩
  | n + 1, h => by
    obtain ⟨l, hl, hq⟩ := list_of n fun i hi => h i (by omega)
    obtain ⟨s, hs⟩ := h n (by omega)
    refine ⟨l ++ [s], by simp [hl], fun i s' hi => ?_⟩
    by_cases e : i < l.length
    · rw [List.getElem?_append_left e] at hi
      exact hq i s' hi
    · have hlt := (List.getElem?_eq_some_iff.1 hi).1
      simp at hlt
      obtain rfl : i = l.length := by omega
      simp at hi
      subst hi
      rw [hl]
      exact hs
section
variable {H : Type} {enc : TypeId × Value → H} {W : World} {base : Nat} {spare : Nat → Bool} {held : Bool}
theorem one_field {cs : List Value} {ys : List (DataW H × List MemPlace)} {n j : Nat} (hc : j < cs.length) (hy : j < ys.length)
    (h : DataW.trod enc Try.prog W base spare held n 3 ((cs.drop j).take (Try.prog.cellsOf 3)) = ys[j]?) : ∃ v : Int, cs[j]? = some (.int .i64 v) ∧ (Lit.int .i64 v).wf = true := by
  have hk : Try.prog.cellsOf 3 = 1 := by kernel_rfl
  have hone : (cs.drop j).take 1 = [cs[j]'hc] := by
    rw [List.drop_eq_getElem_cons hc]
    rfl
  rw [hk, hone, List.getElem?_eq_getElem hy] at h
  obtain ⟨v, hv, _, hw⟩ := DataW.trod_int Try.underlying3 h
  simp only [List.cons.injEq, and_true] at hv
  exact ⟨v, by rw [List.getElem?_eq_getElem hc, hv], hw⟩
theorem at_add (a : Addr) (i j : Nat) : W.cell? (a.add (i * 3 + j)) = W.cell? ((a.add (i * 3)).add j) := by rw [Go.Deep.add_add]
theorem reads_in {fuel len cap : Nat} {A : Option Addr} {x : DataW H × List MemPlace}
    (h : DataW.trod enc Try.prog W base spare held fuel 22 [.slice A len cap] = some x) : ∃ l : List S24, l.length = len ∧ Kd.C k24 W A len l ∧ len ≤ cap ∧ ∀ s ∈ l, Fits s := by
  rcases open_slice (e := 24) Try.underlying22 h with ⟨hcs, _⟩ | ⟨a, n, c, m, fu, D, Pl, hcs, _, hl, hm, hmm, _, hi⟩
  · simp only [List.cons.injEq, and_true, Value.slice.injEq] at hcs
    obtain ⟨rfl, rfl, rfl⟩ := hcs
    exact ⟨[], rfl, Kd.C_nil _ _, Nat.le_refl _, fun s hs => by cases hs⟩
  · simp only [List.cons.injEq, and_true, Value.slice.injEq] at hcs
    obtain ⟨rfl, rfl, rfl⟩ := hcs
    have hmn : len ≤ m := by
      rw [hmm]
      split <;> omega
    have hcap : cap ≤ 9223372036854775807 := by
      unfold maxLen at hm
      exact hm
    have hone : ∀ i, i < len → ∃ s : S24, (∀ j u, ([.int .i64 s.f0, .int .i64 s.f1, .int .i64 s.f2] : List Value)[j]? = some u → W.cell? (a.add (i * 3 + j)) = some u) ∧ Fits s := by
      intro i him
      obtain ⟨cs, hc, ht'⟩ := hi i (by omega)
      have hC : Try.prog.cellsOf 24 = 3 := by kernel_rfl
      rw [hC] at hc
      obtain ⟨ys, n', hn', hy, hlen, hyl, hf⟩ := DataW.trod_struct Try.underlying24 ht'
      obtain ⟨_, hcl, hat⟩ := World.cells?_some hc
      have hyl : ys.length = 3 := hyl
      obtain ⟨v0, c0, w0⟩ := one_field (j := 0) (by omega) (by omega) (hf 0 _ rfl)
      obtain ⟨v1, c1, w1⟩ := one_field (j := 1) (by omega) (by omega) (hf 1 _ rfl)
      obtain ⟨v2, c2, w2⟩ := one_field (j := 2) (by omega) (by omega) (hf 2 _ rfl)
      refine ⟨⟨v0, v1, v2⟩, fun j u hu => ?_, ⟨w0, w1, w2⟩⟩
      have hj : j < 3 := (List.getElem?_eq_some_iff.1 hu).1
      have : j = 0 ∨ j = 1 ∨ j = 2 := by omega
      rcases this with rfl | rfl | rfl
      · exact (at_add a i 0).trans ((hat 0 (by omega)).trans (c0.trans hu))
      · exact (at_add a i 1).trans ((hat 1 (by omega)).trans (c1.trans hu))
      · exact (at_add a i 2).trans ((hat 2 (by omega)).trans (c2.trans hu))
    obtain ⟨l, hll, hq⟩ := list_of len hone
    refine ⟨l, hll, ⟨hll, by omega, fun _ => ⟨a, rfl, fun j s hj => ⟨_, rfl, k24_mk _ s, fun i u hu => (hq j s hj).1 i u hu⟩⟩⟩, hl, fun s hs => ?_⟩
    obtain ⟨j, hj, e⟩ := List.mem_iff_getElem.1 hs
    exact (hq j s (by rw [← e]; exact List.getElem?_eq_getElem hj)).2
end
theorem laidOut : laidOutB Try.prog = true := by kernel_rfl
end Go.Proofs.Ytmenajpeendnoaa.Print
