/- StampsMergeSaid: for every input the law returns true, and each argument reads afterwards as it read before. No condition beyond the given statement's own. -/
import Derived.Test.YtmenajpeendnoaaRows
import Derived.Test.YtmenajpeendnoaaPrint5
import Derived.Test.YtmenajpeendnoaaOpen
import Derived.Test.YtmenajpeendnoaaPureStampsMerge
import Derived.WalkKit
import Derived.ProofKit
import Derived.OpenShut
import Derived.ChangeOld
import Derived.Below
import Derived.SizedLaws
import Derived.Lib.SmallJoins
namespace Go.Proofs.Ytmenajpeendnoaa.stampsMerge
open Go.ChangeShapes Go.WideShapes Go.ChangeAt Go.RowKit Go.Proofs.YtmenajpeendnoaaW.PrintWords
set_option linter.unusedVariables false
theorem own : ownKnob Try.prog.godebug = none := by kernel_rfl
theorem walk (A0 : Option Addr) (c0 : Nat) (l0 : List Print.S24) (A1 : Option Addr) (c1 : Nat) (l1 : List Print.S24) (s2 : Print.S24) (W : World) (y0 : Kd.C Print.k24 W A0 l0.length l0) (z0 : l0.length ≤ c0) (w0 : ∀ s ∈ l0, Print.Fits s) (y1 : Kd.C Print.k24 W A1 l1.length l1) (z1 : l1.length ≤ c1) (w1 : ∀ s ∈ l1, Print.Fits s) (w2 : Print.Fits s2) :
    Calls Try.prog 3 #[.slice A0 l0.length c0, .slice A1 l1.length c1, .agg #[.int .i64 s2.f0, .int .i64 s2.f1, .int .i64 s2.f2]] W fun e w' => e = .returned (.bool true) ∧ Below W.heap.size W w' := by
  obtain ⟨k, h⟩ := Pure.StampsMerge l0 w0 l1 w1 s2 w2
  exact Print.sizarlaw08_StampsMerge.calls k _ _ l0 _ _ l1 s2.f0 s2.f1 s2.f2 true W y0 z0 y1 z1 h
set_option maxRecDepth 100000 in
theorem lifted (os : Os) (started : os.Started) (H : Type) (enc : TypeId × Value → H) :
    ReturnsInHanded {} Try.checked os 3 .any (Rows.stampsMergeSpec.pre6 enc Try.prog Try.f3 Rows.stampsMergeRow.domain false) (Rows.stampsMergeSpec.post enc Try.prog Try.f3 false true false false) := by
  refine returnsInHanded_of_change_sized (C := Try.checked) own started (by kernel_rfl) Try.func3
    (ChangeSpec.witness6 (enc := enc) (C := Try.checked) false ⟨#[], #[.slice none 0 0, .slice none 0 0, .agg #[.int .i64 0, .int .i64 0, .int .i64 0]], []⟩ 8 (by kernel_rfl) (by kernel_rfl) (by kernel_rfl) (by kernel_rfl)) ?_
  intro W base args ds gs before hval0 hW hcnd hsz0 _
  have hval : ∀ (j : Nat) t v, Try.f3.params[j]? = some t → args[j]? = some v → Value.okWide Try.prog W .any base t v := hval0
  have hW' := hW
  obtain ⟨p, q, hA0, hV, rfl, hfz, hnd⟩ := hW
  have hA : DataW.TrodAll enc Try.prog W 0 (fun _ => true) true Try.f3.params.toList args.toList ds p := hA0
  rw [Try.params3] at hA hval
  obtain ⟨v0, vs0, d0, ds0, p0, q0, hargs, rfl, rfl, h0, r0⟩ := trodAll_cons hA
  obtain ⟨v1, vs1, d1, ds1, p1, q1, rfl, rfl, rfl, h1, r1⟩ := trodAll_cons r0
  obtain ⟨v2, vs2, d2, ds2, p2, q2, rfl, rfl, rfl, h2, r2⟩ := trodAll_cons r1
  obtain ⟨rfl, rfl, rfl⟩ := trodAll_nil r2
  obtain rfl : args = #[v0, v1, v2] := by cases args; simp_all
  obtain ⟨rfl, rfl⟩ := trodVars_none hV
  obtain ⟨A0, n0, c0, rfl⟩ := okWide_slice Try.underlying22 (hval 0 22 v0 rfl rfl)
  have k0 := h0
  have lt0 : ∀ x ∈ p0, x.block < W.heap.size := by obtain ⟨m, hm⟩ := k0; exact DataW.trod_lt m _ _ _ hm
  obtain ⟨l0, e0, y0, z0, w0⟩ : ∃ l : List Print.S24, l.length = n0 ∧ Kd.C Print.k24 W A0 n0 l ∧ n0 ≤ c0 ∧ ∀ s ∈ l, Print.Fits s := by
    obtain ⟨fuel, hf⟩ := h0
    exact Print.reads_in (by simpa [Value.cells] using hf)
  subst e0
  obtain ⟨A1, n1, c1, rfl⟩ := okWide_slice Try.underlying22 (hval 1 22 v1 rfl rfl)
  have k1 := h1
  have lt1 : ∀ x ∈ p1, x.block < W.heap.size := by obtain ⟨m, hm⟩ := k1; exact DataW.trod_lt m _ _ _ hm
  obtain ⟨l1, e1, y1, z1, w1⟩ : ∃ l : List Print.S24, l.length = n1 ∧ Kd.C Print.k24 W A1 n1 l ∧ n1 ≤ c1 ∧ ∀ s ∈ l, Print.Fits s := by
    obtain ⟨fuel, hf⟩ := h1
    exact Print.reads_in (by simpa [Value.cells] using hf)
  subst e1
  obtain ⟨v2_0, v2_1, v2_2, y2_0, y2_1, y2_2, m2, rfl, rfl, rfl, t2_0, t2_1, t2_2⟩ := Joins.open_agg3 Try.underlying24 (by kernel_rfl) (by kernel_rfl) (hval 2 24 v2 rfl rfl) h2
  obtain ⟨x2_0, e2_0, rfl, w2_0⟩ := DataW.trod_int Try.underlying3 t2_0
  simp only [List.cons.injEq, and_true] at e2_0
  subst e2_0
  obtain ⟨x2_1, e2_1, rfl, w2_1⟩ := DataW.trod_int Try.underlying3 t2_1
  simp only [List.cons.injEq, and_true] at e2_1
  subst e2_1
  obtain ⟨x2_2, e2_2, rfl, w2_2⟩ := DataW.trod_int Try.underlying3 t2_2
  simp only [List.cons.injEq, and_true] at e2_2
  subst e2_2
  clear hA0 hval0 hsz0
  refine (walk A0 c0 l0 A1 c1 l1 ⟨x2_0, x2_1, x2_2⟩ W y0 z0 w0 y1 z1 w1 ⟨w2_0, w2_1, w2_2⟩).mono fun e W' ⟨he, bel⟩ => ?_
  subst he
  exact ⟨_, rfl, _, _, _, [], _, [], hW', trodAll_mk1 (shut_bool Try.underlying4 _), (trodAll_cons_mk (Below.trod Print.laidOut (by kernel_rfl) (of_decide_eq_true (by kernel_rfl)) k0 bel lt0) (trodAll_cons_mk (Below.trod Print.laidOut (by kernel_rfl) (of_decide_eq_true (by kernel_rfl)) k1 bel lt1) (trodAll_cons_mk (Joins.shut_agg3 (y0 := (.lit (.int .i64 x2_0), [])) (y1 := (.lit (.int .i64 x2_1), [])) (y2 := (.lit (.int .i64 x2_2), [])) Try.underlying24 (by kernel_rfl) (by kernel_rfl) (shut_int Try.underlying3 w2_0) (shut_int Try.underlying3 w2_1) (shut_int Try.underlying3 w2_2)) trodAll_mk0))), rfl, bel.frame _, fun h => by cases h⟩
theorem over : Rows.stampsMergeRow.holds Try.pinned (OpenSpec.ofChange Rows.stampsMergeSpec) :=
  OpenClaim.holds_of_wide 3 Try.f3 rfl rfl rfl rfl rfl rfl rfl ⟨rfl, rfl, rfl, rfl, rfl⟩ rfl rfl rfl rfl rfl (by kernel_rfl) Try.func3 (by kernel_rfl)
    (of_decide_eq_true (by kernel_rfl)) (by unfold Func.isWrapper; first | (rw [if_pos (by decide +kernel)]; kernel_rfl) | (rw [if_neg (by decide +kernel)]; exact ⟨rfl, rfl⟩))
    (fun os started H enc _ => lifted os started H enc)
theorem proved : Rows.StampsMergeSaid := over
end Go.Proofs.Ytmenajpeendnoaa.stampsMerge
namespace Go.Proofs.Ytmenajpeendnoaa
/-- The law's statement, under a short name. -/
theorem stampsMerge_holds : Rows.StampsMergeSaid := stampsMerge.proved
#print axioms stampsMerge_holds
end Go.Proofs.Ytmenajpeendnoaa
