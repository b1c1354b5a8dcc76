/- StampsTotal in plain Lean: the printed law tells true. No condition. -/
import Derived.Test.YtmenajpeendnoaaPrint12
import Derived.Test.YtmenajpeendnoaaPlain
namespace Go.Proofs.Ytmenajpeendnoaa.Pure
open Go.RowKit Go.Proofs.Ytmenajpeendnoaa.Print Go.Proofs.YtmenajpeendnoaaW.PrintWords Go.Proofs.YtmenajpeendnoaaW.PrintLast Go.Proofs.YtmenajpeendnoaaW.PrintMore Go.Proofs.Ytmenajpeendnoaa.Plain
set_option linter.unusedVariables false
theorem StampsTotal (s0 : S24) (w0 : Fits s0) (s1 : S24) (w1 : Fits s1) (s2 : S24) (w2 : Fits s2) : ∃ k, sizarlaw08_StampsTotal.f k s0.f0 s0.f1 s0.f2 s1.f0 s1.f1 s1.f2 s2.f0 s2.f1 s2.f2 = some true := by
  refine ⟨20, ?_⟩
  unfold sizarlaw08_StampsTotal.f sizarlaw08_sane.f
  rw [Option.bind_some, if_pos rfl, Compare_eq 16 s0 s1, Compare_eq 16 s1 s0]
  simp only [Option.bind_some]
  have t01 := cmp_tri s0 s1
  have t10 := cmp_tri s1 s0
  have t12 := cmp_tri s1 s2
  have t02 := cmp_tri s0 s2
  have he : s0 = s1 ↔ s0.f0 = s1.f0 ∧ s0.f1 = s1.f1 ∧ s0.f2 = s1.f2 := by cases s0; cases s1; simp
  have hneg : cmpS s1 s0 = -cmpS s0 s1 := by
    rcases t01 with ⟨h, e⟩ | ⟨h, e⟩ | ⟨h, e⟩ <;> rcases t10 with ⟨h', e'⟩ | ⟨h', e'⟩ | ⟨h', e'⟩ <;> first | omega | exact (h.asymm h').elim | (subst h; exact h'.irrefl.elim) | (subst h'; exact h.irrefl.elim)
  have hw : wrap64 (-cmpS s0 s1) = -cmpS s0 s1 := by unfold wrap64; omega
  rw [if_neg (by omega), if_neg (by omega), hw, if_pos hneg]
  have hb : ((cmpS s0 s1 == 0) != (s0.f0 == s1.f0 && (s0.f1 == s1.f1 && (s0.f2 == s1.f2)))) = false := by
    have : (cmpS s0 s1 == 0) = (s0.f0 == s1.f0 && (s0.f1 == s1.f1 && (s0.f2 == s1.f2))) := by
      rw [Bool.eq_iff_iff]
      simp only [beq_iff_eq, Bool.and_eq_true]
      rw [← he]
      rcases t01 with ⟨h, e⟩ | ⟨h, e⟩ | ⟨h, e⟩
      · exact ⟨fun k => by omega, fun k => by subst k; exact h.irrefl.elim⟩
      · exact ⟨fun _ => h, fun _ => e⟩
      · exact ⟨fun k => by omega, fun k => by subst k; exact h.irrefl.elim⟩
    rw [this]; simp
  rw [hb]
  simp only [sizarlaw08_StampsTotal.j0]
  rw [if_neg (by decide)]
  by_cases p : cmpS s0 s1 > 0
  · rw [if_pos p]
  · rw [if_neg p, Compare_eq 15 s1 s2, Option.bind_some]
    by_cases q : cmpS s1 s2 > 0
    · rw [if_pos q]
    · rw [if_neg q, Compare_eq 15 s0 s2, Option.bind_some]
      have : cmpS s0 s2 ≤ 0 := by
        rcases t01 with ⟨h, e⟩ | ⟨h, e⟩ | ⟨h, e⟩
        · rcases t12 with ⟨h', e'⟩ | ⟨h', e'⟩ | ⟨h', e'⟩
          · rw [cmp_lt (h.trans h')]; decide
          · subst h'; rw [cmp_lt h]; decide
          · omega
        · subst h
          omega
        · omega
      rw [decide_eq_true this]
end Go.Proofs.Ytmenajpeendnoaa.Pure
