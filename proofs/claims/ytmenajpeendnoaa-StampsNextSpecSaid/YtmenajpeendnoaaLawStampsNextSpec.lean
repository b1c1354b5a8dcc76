/- StampsNextSpecSaid: for every input the law returns true, and each argument reads afterwards as it read before. No condition beyond the given statement's own. -/
import Derived.Test.YtmenajpeendnoaaRows
import Derived.Test.YtmenajpeendnoaaPrint12
import Derived.Test.YtmenajpeendnoaaOpen
import Derived.Test.YtmenajpeendnoaaPureStampsNextSpec
import Derived.WalkKit
import Derived.ProofKit
import Derived.OpenShut
import Derived.ChangeOld
import Derived.Below
import Derived.SizedLaws
import Derived.Lib.SmallJoins
namespace Go.Proofs.Ytmenajpeendnoaa.stampsNextSpec
open Go.ChangeShapes Go.WideShapes Go.ChangeAt Go.RowKit Go.Proofs.YtmenajpeendnoaaW.PrintWords
set_option linter.unusedVariables false
theorem own : ownKnob Try.prog.godebug = none := by kernel_rfl
theorem walk (s0 : Print.S24) (a1 : Int) (A2 : Option Addr) (c2 : Nat) (l2 : List Print.S24) (A3 : Option Addr) (c3 : Nat) (l3 : List Print.S24) (W : World) (w0 : Print.Fits s0) (w1 : (Lit.int .i64 a1).wf = true) (y2 : Kd.C Print.k24 W A2 l2.length l2) (z2 : l2.length ≤ c2) (w2 : ∀ s ∈ l2, Print.Fits s) (y3 : Kd.C Print.k24 W A3 l3.length l3) (z3 : l3.length ≤ c3) (w3 : ∀ s ∈ l3, Print.Fits s) :
    Calls Try.prog 6 #[.agg #[.int .i64 s0.f0, .int .i64 s0.f1, .int .i64 s0.f2], .int .i64 a1, .slice A2 l2.length c2, .slice A3 l3.length c3] W fun e w' => e = .returned (.bool true) ∧ Below W.heap.size W w' := by
  obtain ⟨k, h⟩ := Pure.StampsNextSpec s0 w0 a1 w1 l2 w2 l3 w3
  exact Print.sizarlaw08_StampsNextSpec.calls k s0.f0 s0.f1 s0.f2 a1 _ _ l2 _ _ l3 true W y2 z2 y3 z3 h
set_option maxRecDepth 100000 in
theorem lifted (os : Os) (started : os.Started) (H : Type) (enc : TypeId × Value → H) :
    ReturnsInHanded {} Try.checked os 6 .any (Rows.stampsNextSpecSpec.pre6 enc Try.prog Try.f6 Rows.stampsNextSpecRow.domain false) (Rows.stampsNextSpecSpec.post enc Try.prog Try.f6 false true false false) := by
  refine returnsInHanded_of_change_sized (C := Try.checked) own started (by kernel_rfl) Try.func6
    (ChangeSpec.witness6 (enc := enc) (C := Try.checked) false ⟨#[], #[.agg #[.int .i64 0, .int .i64 0, .int .i64 0], .int .i64 0, .slice none 0 0, .slice none 0 0], []⟩ 8 (by kernel_rfl) (by kernel_rfl) (by kernel_rfl) (by kernel_rfl)) ?_
  intro W base args ds gs before hval0 hW hcnd hsz0 _
  have hval : ∀ (j : Nat) t v, Try.f6.params[j]? = some t → args[j]? = some v → Value.okWide Try.prog W .any base t v := hval0
  have hW' := hW
  obtain ⟨p, q, hA0, hV, rfl, hfz, hnd⟩ := hW
  have hA : DataW.TrodAll enc Try.prog W 0 (fun _ => true) true Try.f6.params.toList args.toList ds p := hA0
  rw [Try.params6] at hA hval
  obtain ⟨v0, vs0, d0, ds0, p0, q0, hargs, rfl, rfl, h0, r0⟩ := trodAll_cons hA
  obtain ⟨v1, vs1, d1, ds1, p1, q1, rfl, rfl, rfl, h1, r1⟩ := trodAll_cons r0
  obtain ⟨v2, vs2, d2, ds2, p2, q2, rfl, rfl, rfl, h2, r2⟩ := trodAll_cons r1
  obtain ⟨v3, vs3, d3, ds3, p3, q3, rfl, rfl, rfl, h3, r3⟩ := trodAll_cons r2
  obtain ⟨rfl, rfl, rfl⟩ := trodAll_nil r3
  obtain rfl : args = #[v0, v1, v2, v3] := by cases args; simp_all
  obtain ⟨rfl, rfl⟩ := trodVars_none hV
  obtain ⟨v0_0, v0_1, v0_2, y0_0, y0_1, y0_2, m0, rfl, rfl, rfl, t0_0, t0_1, t0_2⟩ := Joins.open_agg3 Try.underlying24 (by kernel_rfl) (by kernel_rfl) (hval 0 24 v0 rfl rfl) h0
  obtain ⟨x0_0, e0_0, rfl, w0_0⟩ := DataW.trod_int Try.underlying3 t0_0
  simp only [List.cons.injEq, and_true] at e0_0
  subst e0_0
  obtain ⟨x0_1, e0_1, rfl, w0_1⟩ := DataW.trod_int Try.underlying3 t0_1
  simp only [List.cons.injEq, and_true] at e0_1
  subst e0_1
  obtain ⟨x0_2, e0_2, rfl, w0_2⟩ := DataW.trod_int Try.underlying3 t0_2
  simp only [List.cons.injEq, and_true] at e0_2
  subst e0_2
  obtain ⟨a1, rfl, rfl, rfl, w1⟩ := open_int Try.underlying3 (hval 1 3 v1 rfl rfl) h1
  obtain ⟨A2, n2, c2, rfl⟩ := okWide_slice Try.underlying22 (hval 2 22 v2 rfl rfl)
  have k2 := h2
  have lt2 : ∀ x ∈ p2, x.block < W.heap.size := by obtain ⟨m, hm⟩ := k2; exact DataW.trod_lt m _ _ _ hm
  obtain ⟨l2, e2, y2, z2, w2⟩ : ∃ l : List Print.S24, l.length = n2 ∧ Kd.C Print.k24 W A2 n2 l ∧ n2 ≤ c2 ∧ ∀ s ∈ l, Print.Fits s := by
    obtain ⟨fuel, hf⟩ := h2
    exact Print.reads_in (by simpa [Value.cells] using hf)
  subst e2
  obtain ⟨A3, n3, c3, rfl⟩ := okWide_slice Try.underlying22 (hval 3 22 v3 rfl rfl)
  have k3 := h3
  have lt3 : ∀ x ∈ p3, x.block < W.heap.size := by obtain ⟨m, hm⟩ := k3; exact DataW.trod_lt m _ _ _ hm
  obtain ⟨l3, e3, y3, z3, w3⟩ : ∃ l : List Print.S24, l.length = n3 ∧ Kd.C Print.k24 W A3 n3 l ∧ n3 ≤ c3 ∧ ∀ s ∈ l, Print.Fits s := by
    obtain ⟨fuel, hf⟩ := h3
    exact Print.reads_in (by simpa [Value.cells] using hf)
  subst e3
  clear hA0 hval0 hsz0
  refine (walk ⟨x0_0, x0_1, x0_2⟩ a1 A2 c2 l2 A3 c3 l3 W ⟨w0_0, w0_1, w0_2⟩ w1 y2 z2 w2 y3 z3 w3).mono fun e W' ⟨he, bel⟩ => ?_
  subst he
  exact ⟨_, rfl, _, _, _, [], _, [], hW', trodAll_mk1 (shut_bool Try.underlying4 _), (trodAll_cons_mk (Joins.shut_agg3 (y0 := (.lit (.int .i64 x0_0), [])) (y1 := (.lit (.int .i64 x0_1), [])) (y2 := (.lit (.int .i64 x0_2), [])) Try.underlying24 (by kernel_rfl) (by kernel_rfl) (shut_int Try.underlying3 w0_0) (shut_int Try.underlying3 w0_1) (shut_int Try.underlying3 w0_2)) (trodAll_cons_mk (shut_int Try.underlying3 w1) (trodAll_cons_mk (Below.trod Print.laidOut (by kernel_rfl) (of_decide_eq_true (by kernel_rfl)) k2 bel lt2) (trodAll_cons_mk (Below.trod Print.laidOut (by kernel_rfl) (of_decide_eq_true (by kernel_rfl)) k3 bel lt3) trodAll_mk0)))), rfl, bel.frame _, fun h => by cases h⟩
theorem over : Rows.stampsNextSpecRow.holds Try.pinned (OpenSpec.ofChange Rows.stampsNextSpecSpec) :=
  OpenClaim.holds_of_wide 6 Try.f6 rfl rfl rfl rfl rfl rfl rfl ⟨rfl, rfl, rfl, rfl, rfl⟩ rfl rfl rfl rfl rfl (by kernel_rfl) Try.func6 (by kernel_rfl)
    (of_decide_eq_true (by kernel_rfl)) (by unfold Func.isWrapper; first | (rw [if_pos (by decide +kernel)]; kernel_rfl) | (rw [if_neg (by decide +kernel)]; exact ⟨rfl, rfl⟩))
    (fun os started H enc _ => lifted os started H enc)
theorem proved : Rows.StampsNextSpecSaid := over
end Go.Proofs.Ytmenajpeendnoaa.stampsNextSpec
namespace Go.Proofs.Ytmenajpeendnoaa
/-- The law's statement, under a short name. -/
theorem stampsNextSpec_holds : Rows.StampsNextSpecSaid := stampsNextSpec.proved
#print axioms stampsNextSpec_holds
end Go.Proofs.Ytmenajpeendnoaa
