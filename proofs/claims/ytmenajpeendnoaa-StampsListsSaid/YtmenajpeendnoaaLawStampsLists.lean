/- StampsListsSaid: for every input the law returns true, and each argument reads afterwards as it read before. No condition beyond the given statement's own. -/
import Derived.Test.YtmenajpeendnoaaRows
import Derived.Test.YtmenajpeendnoaaPrint6
import Derived.Test.YtmenajpeendnoaaOpen
import Derived.Test.YtmenajpeendnoaaPureStampsLists
import Derived.WalkKit
import Derived.ProofKit
import Derived.OpenShut
import Derived.ChangeOld
import Derived.Below
import Derived.SizedLaws
import Derived.Lib.SmallJoins
namespace Go.Proofs.Ytmenajpeendnoaa.stampsLists
open Go.ChangeShapes Go.WideShapes Go.ChangeAt Go.RowKit Go.Proofs.YtmenajpeendnoaaW.PrintWords
set_option linter.unusedVariables false
theorem own : ownKnob Try.prog.godebug = none := by kernel_rfl
theorem walk (A0 : Option Addr) (c0 : Nat) (l0 : List Print.S24) (A1 : Option Addr) (c1 : Nat) (l1 : List Print.S24) (A2 : Option Addr) (c2 : Nat) (l2 : List Print.S24) (W : World) (y0 : Kd.C Print.k24 W A0 l0.length l0) (z0 : l0.length ≤ c0) (w0 : ∀ s ∈ l0, Print.Fits s) (y1 : Kd.C Print.k24 W A1 l1.length l1) (z1 : l1.length ≤ c1) (w1 : ∀ s ∈ l1, Print.Fits s) (y2 : Kd.C Print.k24 W A2 l2.length l2) (z2 : l2.length ≤ c2) (w2 : ∀ s ∈ l2, Print.Fits s) :
    Calls Try.prog 4 #[.slice A0 l0.length c0, .slice A1 l1.length c1, .slice A2 l2.length c2] W fun e w' => e = .returned (.bool true) ∧ Below W.heap.size W w' := by
  obtain ⟨k, h⟩ := Pure.StampsLists l0 w0 l1 w1 l2 w2
  exact Print.sizarlaw08_StampsLists.calls k _ _ l0 _ _ l1 _ _ l2 true W y0 z0 y1 z1 y2 z2 h
set_option maxRecDepth 100000 in
theorem lifted (os : Os) (started : os.Started) (H : Type) (enc : TypeId × Value → H) :
    ReturnsInHanded {} Try.checked os 4 .any (Rows.stampsListsSpec.pre6 enc Try.prog Try.f4 Rows.stampsListsRow.domain false) (Rows.stampsListsSpec.post enc Try.prog Try.f4 false true false false) := by
  refine returnsInHanded_of_change_sized (C := Try.checked) own started (by kernel_rfl) Try.func4
    (ChangeSpec.witness6 (enc := enc) (C := Try.checked) false ⟨#[], #[.slice none 0 0, .slice none 0 0, .slice none 0 0], []⟩ 8 (by kernel_rfl) (by kernel_rfl) (by kernel_rfl) (by kernel_rfl)) ?_
  intro W base args ds gs before hval0 hW hcnd hsz0 _
  have hval : ∀ (j : Nat) t v, Try.f4.params[j]? = some t → args[j]? = some v → Value.okWide Try.prog W .any base t v := hval0
  have hW' := hW
  obtain ⟨p, q, hA0, hV, rfl, hfz, hnd⟩ := hW
  have hA : DataW.TrodAll enc Try.prog W 0 (fun _ => true) true Try.f4.params.toList args.toList ds p := hA0
  rw [Try.params4] at hA hval
  obtain ⟨v0, vs0, d0, ds0, p0, q0, hargs, rfl, rfl, h0, r0⟩ := trodAll_cons hA
  obtain ⟨v1, vs1, d1, ds1, p1, q1, rfl, rfl, rfl, h1, r1⟩ := trodAll_cons r0
  obtain ⟨v2, vs2, d2, ds2, p2, q2, rfl, rfl, rfl, h2, r2⟩ := trodAll_cons r1
  obtain ⟨rfl, rfl, rfl⟩ := trodAll_nil r2
  obtain rfl : args = #[v0, v1, v2] := by cases args; simp_all
  obtain ⟨rfl, rfl⟩ := trodVars_none hV
  obtain ⟨A0, n0, c0, rfl⟩ := okWide_slice Try.underlying22 (hval 0 22 v0 rfl rfl)
  have k0 := h0
  have lt0 : ∀ x ∈ p0, x.block < W.heap.size := by obtain ⟨m, hm⟩ := k0; exact DataW.trod_lt m _ _ _ hm
  obtain ⟨l0, e0, y0, z0, w0⟩ : ∃ l : List Print.S24, l.length = n0 ∧ Kd.C Print.k24 W A0 n0 l ∧ n0 ≤ c0 ∧ ∀ s ∈ l, Print.Fits s := by
    obtain ⟨fuel, hf⟩ := h0
    exact Print.reads_in (by simpa [Value.cells] using hf)
  subst e0
  obtain ⟨A1, n1, c1, rfl⟩ := okWide_slice Try.underlying22 (hval 1 22 v1 rfl rfl)
  have k1 := h1
  have lt1 : ∀ x ∈ p1, x.block < W.heap.size := by obtain ⟨m, hm⟩ := k1; exact DataW.trod_lt m _ _ _ hm
  obtain ⟨l1, e1, y1, z1, w1⟩ : ∃ l : List Print.S24, l.length = n1 ∧ Kd.C Print.k24 W A1 n1 l ∧ n1 ≤ c1 ∧ ∀ s ∈ l, Print.Fits s := by
    obtain ⟨fuel, hf⟩ := h1
    exact Print.reads_in (by simpa [Value.cells] using hf)
  subst e1
  obtain ⟨A2, n2, c2, rfl⟩ := okWide_slice Try.underlying22 (hval 2 22 v2 rfl rfl)
  have k2 := h2
  have lt2 : ∀ x ∈ p2, x.block < W.heap.size := by obtain ⟨m, hm⟩ := k2; exact DataW.trod_lt m _ _ _ hm
  obtain ⟨l2, e2, y2, z2, w2⟩ : ∃ l : List Print.S24, l.length = n2 ∧ Kd.C Print.k24 W A2 n2 l ∧ n2 ≤ c2 ∧ ∀ s ∈ l, Print.Fits s := by
    obtain ⟨fuel, hf⟩ := h2
    exact Print.reads_in (by simpa [Value.cells] using hf)
  subst e2
  clear hA0 hval0 hsz0
  refine (walk A0 c0 l0 A1 c1 l1 A2 c2 l2 W y0 z0 w0 y1 z1 w1 y2 z2 w2).mono fun e W' ⟨he, bel⟩ => ?_
  subst he
  exact ⟨_, rfl, _, _, _, [], _, [], hW', trodAll_mk1 (shut_bool Try.underlying4 _), (trodAll_cons_mk (Below.trod Print.laidOut (by kernel_rfl) (of_decide_eq_true (by kernel_rfl)) k0 bel lt0) (trodAll_cons_mk (Below.trod Print.laidOut (by kernel_rfl) (of_decide_eq_true (by kernel_rfl)) k1 bel lt1) (trodAll_cons_mk (Below.trod Print.laidOut (by kernel_rfl) (of_decide_eq_true (by kernel_rfl)) k2 bel lt2) trodAll_mk0))), rfl, bel.frame _, fun h => by cases h⟩
theorem over : Rows.stampsListsRow.holds Try.pinned (OpenSpec.ofChange Rows.stampsListsSpec) :=
  OpenClaim.holds_of_wide 4 Try.f4 rfl rfl rfl rfl rfl rfl rfl ⟨rfl, rfl, rfl, rfl, rfl⟩ rfl rfl rfl rfl rfl (by kernel_rfl) Try.func4 (by kernel_rfl)
    (of_decide_eq_true (by kernel_rfl)) (by unfold Func.isWrapper; first | (rw [if_pos (by decide +kernel)]; kernel_rfl) | (rw [if_neg (by decide +kernel)]; exact ⟨rfl, rfl⟩))
    (fun os started H enc _ => lifted os started H enc)
theorem proved : Rows.StampsListsSaid := over
end Go.Proofs.Ytmenajpeendnoaa.stampsLists
namespace Go.Proofs.Ytmenajpeendnoaa
/-- The law's statement, under a short name. -/
theorem stampsLists_holds : Rows.StampsListsSaid := stampsLists.proved
#print axioms stampsLists_holds
end Go.Proofs.Ytmenajpeendnoaa
