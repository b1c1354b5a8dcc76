/- Machine contracts: each Go function named below, called over memory that reads as its arguments, returns what the Lean function of its name tells; the one condition is that this function tells something. Written by a program for this claim. -/
import Derived.Test.YtmljglbmokmonaaPrint0
import Derived.Test.YtmljglbmokmonaaPrint1
import Derived.Test.YtmljglbmokmonaaPrint3
import Derived.Test.YtmljglbmokmonaaHand
import Derived.Test.YtmljglbmokmonaaSane
namespace Go.Proofs.Ytmljglbmokmonaa.Print
open Go.RowKit Go.Proofs.YtmljglbmokmonaaW.PrintWords Go.Proofs.YtmljglbmokmonaaW.PrintLast Go.Proofs.YtmljglbmokmonaaW.PrintMore
attribute [local go_sem] max2_int min2_int max_two min_two max_three min_three max_four min_four   -- for this text's walks alone
set_option linter.unusedVariables false
set_option linter.unusedSimpArgs false

/-! ### sizarlaw33_PolicyRest: function 6 -/
mutual
def sizarlaw33_PolicyRest.j0 : Nat → List (S35) → List (S35) → Int → Int → Int → Int → Int → Bool → Option (Bool)
  | 0, _, _, _, _, _, _, _, _ => none
  | k + 1, x0, x1, x2, x3, x4, x5, x6, x56 => if x56 = true then (some true) else ((policy_Action.f x0 x2 x3 x4 (Int.tmod (wrap64 (x5)) 1024) (Int.tmod (wrap64 (x6)) 1024)).bind fun bt152 => ((policy_Action.f x1 x2 x3 x4 (Int.tmod (wrap64 (x5)) 1024) (Int.tmod (wrap64 (x6)) 1024)).bind fun bt154 => ((some (([] : List (S35)) : List (S35))).bind fun y156 => (if y156.length + x0.length < 4398046511104 then ((some (y156 ++ x0 : List (S35))).bind fun y159 => (if y159.length + x1.length < 4398046511104 then ((policy_Action.f (y159 ++ x1) x2 x3 x4 (Int.tmod (wrap64 (x5)) 1024) (Int.tmod (wrap64 (x6)) 1024)).bind fun bt165 => (sizarlaw33_PolicyRest.l0 k x2 x3 x4 (Int.tmod (wrap64 (x5)) 1024) (Int.tmod (wrap64 (x6)) 1024) bt152.1 bt152.2 bt154.1 bt154.2 bt165.1 bt165.2 ([] : List (S35)) false x0 (x0.length : Int) 0)) else (none))) else (none)))))
def sizarlaw33_PolicyRest.l0 : Nat → Int → Int → Int → Int → Int → Int → Int → Int → Int → Int → Int → List (S35) → Bool → List (S35) → Int → Int → Option (Bool)
  | 0, _, _, _, _, _, _, _, _, _, _, _, _, _, _, _, _ => none
  | k + 1, x2, x3, x4, x15, x16, x17, x18, x19, x20, x21, x22, x23, x24, x97, x98, x99 => if x99 < x98 then (if 0 ≤ x99 then (if x99 < (x97.length : Int) then (if ((rd_T35 x97 x99).f0) = x2 then (if x23.length < 4398046511104 then ((some (x23 ++ [(⟨(rd_T35 x97 x99).f0, (rd_T35 x97 x99).f1, (rd_T35 x97 x99).f2, (rd_T35 x97 x99).f3⟩ : S35)] : List (S35))).bind fun y169 => (if x24 = true then (sizarlaw33_PolicyRest.l0 k x2 x3 x4 x15 x16 x17 x18 x19 x20 x21 x22 y169 true x97 x98 (wrap64 (x99 + 1))) else ((sizarlaw33_fits.f ((rd_T35 x97 x99).f0) ((rd_T35 x97 x99).f1) ((rd_T35 x97 x99).f2) ((rd_T35 x97 x99).f3) x2 x3 x4).bind fun t172 => (if t172 = true then (sizarlaw33_PolicyRest.l0 k x2 x3 x4 x15 x16 x17 x18 x19 x20 x21 x22 y169 (decide (x16 ≤ (wrap64 (x15 + ((rd_T35 x97 x99).f3))))) x97 x98 (wrap64 (x99 + 1))) else (sizarlaw33_PolicyRest.l0 k x2 x3 x4 x15 x16 x17 x18 x19 x20 x21 x22 y169 false x97 x98 (wrap64 (x99 + 1))))))) else (none)) else (if x24 = true then (sizarlaw33_PolicyRest.l0 k x2 x3 x4 x15 x16 x17 x18 x19 x20 x21 x22 x23 true x97 x98 (wrap64 (x99 + 1))) else ((sizarlaw33_fits.f ((rd_T35 x97 x99).f0) ((rd_T35 x97 x99).f1) ((rd_T35 x97 x99).f2) ((rd_T35 x97 x99).f3) x2 x3 x4).bind fun t173 => (if t173 = true then (sizarlaw33_PolicyRest.l0 k x2 x3 x4 x15 x16 x17 x18 x19 x20 x21 x22 x23 (decide (x16 ≤ (wrap64 (x15 + ((rd_T35 x97 x99).f3))))) x97 x98 (wrap64 (x99 + 1))) else (sizarlaw33_PolicyRest.l0 k x2 x3 x4 x15 x16 x17 x18 x19 x20 x21 x22 x23 false x97 x98 (wrap64 (x99 + 1))))))) else (none)) else (none)) else ((policy_Action.f x23 x2 x3 x4 x15 x16).bind fun bt174 => (if x18 = 0 then (if x20 = 0 then (if x22 = 0 then (if bt174.2 = 0 then (sizarlaw33_PolicyRest.j2 k x17 x19 x21 x24 (x17 != bt174.1)) else (sizarlaw33_PolicyRest.j2 k x17 x19 x21 x24 true)) else (sizarlaw33_PolicyRest.j2 k x17 x19 x21 x24 true)) else (sizarlaw33_PolicyRest.j2 k x17 x19 x21 x24 true)) else (sizarlaw33_PolicyRest.j2 k x17 x19 x21 x24 true)))
def sizarlaw33_PolicyRest.j2 : Nat → Int → Int → Int → Bool → Bool → Option (Bool)
  | 0, _, _, _, _, _ => none
  | k + 1, x17, x19, x21, x24, x156 => if x156 = true then (some false) else (if x24 = true then (some (x21 == x17)) else (if x17 = 1 then (some (x21 == x19)) else (some false)))
end
def sizarlaw33_PolicyRest.f (k : Nat) (l0 : List (S35)) (l1 : List (S35)) (a2 : Int) (a3 : Int) (a4 : Int) (a5 : Int) (a6 : Int) : Option (Bool) := (sizarlaw33_sane.f).bind fun t147 => (if t147 = true then ((sizarref33_Few.f l0).bind fun t148 => (if t148 = true then ((sizarref33_Few.f l1).bind fun t149 => (if t149 = true then ((policy_Check.f l0).bind fun t150 => (if t150 = 0 then ((policy_Check.f l1).bind fun t151 => (if t151 = 0 then (if a2 < 1 then (sizarlaw33_PolicyRest.j0 k l0 l1 a2 a3 a4 a5 a6 true) else (sizarlaw33_PolicyRest.j0 k l0 l1 a2 a3 a4 a5 a6 (decide (a2 > 5)))) else (sizarlaw33_PolicyRest.j0 k l0 l1 a2 a3 a4 a5 a6 true))) else (sizarlaw33_PolicyRest.j0 k l0 l1 a2 a3 a4 a5 a6 true))) else (sizarlaw33_PolicyRest.j0 k l0 l1 a2 a3 a4 a5 a6 true))) else (sizarlaw33_PolicyRest.j0 k l0 l1 a2 a3 a4 a5 a6 true))) else (some false))
theorem sizarlaw33_PolicyRest.mono_l : ∀ k, (∀ y0 y1 y2 y3 y4 y5 y6 y7, LeO (sizarlaw33_PolicyRest.j0 k y0 y1 y2 y3 y4 y5 y6 y7) (sizarlaw33_PolicyRest.j0 (k + 1) y0 y1 y2 y3 y4 y5 y6 y7)) ∧ (∀ y0 y1 y2 y3 y4 y5 y6 y7 y8 y9 y10 y11 y12 y13 y14 y15, LeO (sizarlaw33_PolicyRest.l0 k y0 y1 y2 y3 y4 y5 y6 y7 y8 y9 y10 y11 y12 y13 y14 y15) (sizarlaw33_PolicyRest.l0 (k + 1) y0 y1 y2 y3 y4 y5 y6 y7 y8 y9 y10 y11 y12 y13 y14 y15)) ∧ (∀ y0 y1 y2 y3 y4, LeO (sizarlaw33_PolicyRest.j2 k y0 y1 y2 y3 y4) (sizarlaw33_PolicyRest.j2 (k + 1) y0 y1 y2 y3 y4))
  | 0 => ⟨fun _ _ _ _ _ _ _ _ r h => by simp [sizarlaw33_PolicyRest.j0] at h, fun _ _ _ _ _ _ _ _ _ _ _ _ _ _ _ _ r h => by simp [sizarlaw33_PolicyRest.l0] at h, fun _ _ _ _ _ r h => by simp [sizarlaw33_PolicyRest.j2] at h⟩
  | k + 1 => by
    obtain ⟨ih0, ih1, ih2⟩ := sizarlaw33_PolicyRest.mono_l k
    refine ⟨?_, ?_, ?_⟩
    · intro y0 y1 y2 y3 y4 y5 y6 y7
      unfold sizarlaw33_PolicyRest.j0
      repeat' first
      | (with_reducible exact ih0 _ _ _ _ _ _ _ _)
      | (with_reducible exact ih1 _ _ _ _ _ _ _ _ _ _ _ _ _ _ _ _)
      | (with_reducible exact ih2 _ _ _ _ _)
      | (with_reducible exact LeO.refl _)
      | (with_reducible exact LeO.none _)
      | (with_reducible refine LeO.ite ?_ ?_)
      | (with_reducible refine LeO.bind ?_ (fun _ => ?_))
      | exact ih0 _ _ _ _ _ _ _ _
      | exact ih1 _ _ _ _ _ _ _ _ _ _ _ _ _ _ _ _
      | exact ih2 _ _ _ _ _
      | exact LeO.none _
      | refine LeO.ite ?_ ?_
      | refine LeO.bind ?_ (fun _ => ?_)
    · intro y0 y1 y2 y3 y4 y5 y6 y7 y8 y9 y10 y11 y12 y13 y14 y15
      unfold sizarlaw33_PolicyRest.l0
      repeat' first
      | (with_reducible exact ih0 _ _ _ _ _ _ _ _)
      | (with_reducible exact ih1 _ _ _ _ _ _ _ _ _ _ _ _ _ _ _ _)
      | (with_reducible exact ih2 _ _ _ _ _)
      | (with_reducible exact LeO.refl _)
      | (with_reducible exact LeO.none _)
      | (with_reducible refine LeO.ite ?_ ?_)
      | (with_reducible refine LeO.bind ?_ (fun _ => ?_))
      | exact ih0 _ _ _ _ _ _ _ _
      | exact ih1 _ _ _ _ _ _ _ _ _ _ _ _ _ _ _ _
      | exact ih2 _ _ _ _ _
      | exact LeO.none _
      | refine LeO.ite ?_ ?_
      | refine LeO.bind ?_ (fun _ => ?_)
    · intro y0 y1 y2 y3 y4
      unfold sizarlaw33_PolicyRest.j2
      repeat' first
      | (with_reducible exact ih0 _ _ _ _ _ _ _ _)
      | (with_reducible exact ih1 _ _ _ _ _ _ _ _ _ _ _ _ _ _ _ _)
      | (with_reducible exact ih2 _ _ _ _ _)
      | (with_reducible exact LeO.refl _)
      | (with_reducible exact LeO.none _)
      | (with_reducible refine LeO.ite ?_ ?_)
      | (with_reducible refine LeO.bind ?_ (fun _ => ?_))
      | exact ih0 _ _ _ _ _ _ _ _
      | exact ih1 _ _ _ _ _ _ _ _ _ _ _ _ _ _ _ _
      | exact ih2 _ _ _ _ _
      | exact LeO.none _
      | refine LeO.ite ?_ ?_
      | refine LeO.bind ?_ (fun _ => ?_)
theorem sizarlaw33_PolicyRest.mono : ∀ a0 a1 a2 a3 a4 a5 a6 k, LeO (sizarlaw33_PolicyRest.f k a0 a1 a2 a3 a4 a5 a6) (sizarlaw33_PolicyRest.f (k + 1) a0 a1 a2 a3 a4 a5 a6) := by
  intro a0 a1 a2 a3 a4 a5 a6 k
  obtain ⟨ih0, ih1, ih2⟩ := sizarlaw33_PolicyRest.mono_l k
  unfold sizarlaw33_PolicyRest.f
  repeat' first
      | (with_reducible exact ih0 _ _ _ _ _ _ _ _)
      | (with_reducible exact ih1 _ _ _ _ _ _ _ _ _ _ _ _ _ _ _ _)
      | (with_reducible exact ih2 _ _ _ _ _)
      | (with_reducible exact LeO.refl _)
      | (with_reducible exact LeO.none _)
      | (with_reducible refine LeO.ite ?_ ?_)
      | (with_reducible refine LeO.bind ?_ (fun _ => ?_))
      | exact ih0 _ _ _ _ _ _ _ _
      | exact ih1 _ _ _ _ _ _ _ _ _ _ _ _ _ _ _ _
      | exact ih2 _ _ _ _ _
      | exact LeO.none _
      | refine LeO.ite ?_ ?_
      | refine LeO.bind ?_ (fun _ => ?_)
set_option maxHeartbeats 8000000 in
set_option maxRecDepth 100000 in
theorem sizarlaw33_PolicyRest.calls (k : Nat) (A0 : Option Addr) (c0 : Nat) (l0 : List (S35)) (A1 : Option Addr) (c1 : Nat) (l1 : List (S35)) (a2 : Int) (a3 : Int) (a4 : Int) (a5 : Int) (a6 : Int) (r : Bool) (w : World) (hr0 : Kd.C k35 w A0 l0.length l0) (hc0 : l0.length ≤ c0) (hr1 : Kd.C k35 w A1 l1.length l1) (hc1 : l1.length ≤ c1) (h : sizarlaw33_PolicyRest.f k l0 l1 a2 a3 a4 a5 a6 = some r) :
    Calls Try.prog 6 #[.slice A0 l0.length c0, .slice A1 l1.length c1, .int .i64 a2, .int .i64 a3, .int .i64 a4, .int .u16 a5, .int .u16 a6] w fun e w' => e = .returned (.bool r) ∧ Below w.heap.size w w' := by
  have hu35 := Try.underlying35
  have HR0 := Aside0.mk hr0
  have HC0 := Aside0.mk hc0
  clear hr0 hc0
  have HR1 := Aside0.mk hr1
  have HC1 := Aside0.mk hc1
  clear hr1 hc1
  have HB := Aside0.mk (Below.refl w.heap.size w)
  have H : ((sizarlaw33_sane.f).bind fun t147 => (if t147 = true then ((sizarref33_Few.f l0).bind fun t148 => (if t148 = true then ((sizarref33_Few.f l1).bind fun t149 => (if t149 = true then ((policy_Check.f l0).bind fun t150 => (if t150 = 0 then ((policy_Check.f l1).bind fun t151 => (if t151 = 0 then (if a2 < 1 then (sizarlaw33_PolicyRest.j0 k l0 l1 a2 a3 a4 a5 a6 true) else (sizarlaw33_PolicyRest.j0 k l0 l1 a2 a3 a4 a5 a6 (decide (a2 > 5)))) else (sizarlaw33_PolicyRest.j0 k l0 l1 a2 a3 a4 a5 a6 true))) else (sizarlaw33_PolicyRest.j0 k l0 l1 a2 a3 a4 a5 a6 true))) else (sizarlaw33_PolicyRest.j0 k l0 l1 a2 a3 a4 a5 a6 true))) else (sizarlaw33_PolicyRest.j0 k l0 l1 a2 a3 a4 a5 a6 true))) else (some false))) = some r := h
  clear h
  replace H := Option.bind_eq_some_iff.mp H
  obtain ⟨t147, A80, H⟩ := H
  replace H : (if t147 = true then ((sizarref33_Few.f l0).bind fun t148 => (if t148 = true then ((sizarref33_Few.f l1).bind fun t149 => (if t149 = true then ((policy_Check.f l0).bind fun t150 => (if t150 = 0 then ((policy_Check.f l1).bind fun t151 => (if t151 = 0 then (if a2 < 1 then (sizarlaw33_PolicyRest.j0 k l0 l1 a2 a3 a4 a5 a6 true) else (sizarlaw33_PolicyRest.j0 k l0 l1 a2 a3 a4 a5 a6 (decide (a2 > 5)))) else (sizarlaw33_PolicyRest.j0 k l0 l1 a2 a3 a4 a5 a6 true))) else (sizarlaw33_PolicyRest.j0 k l0 l1 a2 a3 a4 a5 a6 true))) else (sizarlaw33_PolicyRest.j0 k l0 l1 a2 a3 a4 a5 a6 true))) else (sizarlaw33_PolicyRest.j0 k l0 l1 a2 a3 a4 a5 a6 true))) else (some false)) = some r := H
  have A8 := Aside0.mk A80
  clear A80
  by_cases c9 : t147 = true
  · subst c9
    have H1 : ((sizarref33_Few.f l0).bind fun t148 => (if t148 = true then ((sizarref33_Few.f l1).bind fun t149 => (if t149 = true then ((policy_Check.f l0).bind fun t150 => (if t150 = 0 then ((policy_Check.f l1).bind fun t151 => (if t151 = 0 then (if a2 < 1 then (sizarlaw33_PolicyRest.j0 k l0 l1 a2 a3 a4 a5 a6 true) else (sizarlaw33_PolicyRest.j0 k l0 l1 a2 a3 a4 a5 a6 (decide (a2 > 5)))) else (sizarlaw33_PolicyRest.j0 k l0 l1 a2 a3 a4 a5 a6 true))) else (sizarlaw33_PolicyRest.j0 k l0 l1 a2 a3 a4 a5 a6 true))) else (sizarlaw33_PolicyRest.j0 k l0 l1 a2 a3 a4 a5 a6 true))) else (sizarlaw33_PolicyRest.j0 k l0 l1 a2 a3 a4 a5 a6 true))) = some r := by rw [if_pos rfl] at H; exact H
    clear H
    have H := H1
    clear H1
    have HC10 := Aside0.mk H
    clear H
    go_enter Try.func6, Try.ntmps6
    go_upto_region 3 with (first | ((with_reducible refine gate_callee (f := 10) rfl ?_); refine goesL_ (some 29) rfl rfl Try.func10 (by kernel_rfl) rfl #[] rfl (by (try simp only [List.map_toArray, List.map_cons, List.map_nil]); first | done | rfl | (simp only [List.length_drop, List.length_take]; rfl)) ?_; (with_reducible refine (sizarlaw33_sane.calls  true _ A8.out).mono ?_); rintro e w11 ⟨rfl, hb⟩; refine ⟨_, rfl, ?_⟩; have n0_ := Aside0.mk (below_step (by repeat (first | (with_reducible first | exact HB.out | apply below_alloc | apply pw_below_drewN | apply below_drew1) | exact HB.out)) hb); clear HB; have HB := n0_; clear n0_; (try clear hb); (try clear hb2); (try clear hk); (try clear hi)))
    (try simp only [Act.put, List.setIfInBounds_toArray, List.set_cons_zero, List.set_cons_succ])
    go_cut [56] (fun v56 wc => ∃ (kq : Nat) (x56_9 : Bool), v56 = .bool x56_9 ∧ Aside0 (sizarlaw33_PolicyRest.j0 kq l0 l1 a2 a3 a4 a5 a6 x56_9 = some r) ∧ Aside0 (kq ≤ k) ∧ Aside0 (Below w.heap.size w wc))
    case first =>
      have H := HC10.out
      clear HC10
      replace H := Option.bind_eq_some_iff.mp H
      obtain ⟨t148, A120, H⟩ := H
      replace H : (if t148 = true then ((sizarref33_Few.f l1).bind fun t149 => (if t149 = true then ((policy_Check.f l0).bind fun t150 => (if t150 = 0 then ((policy_Check.f l1).bind fun t151 => (if t151 = 0 then (if a2 < 1 then (sizarlaw33_PolicyRest.j0 k l0 l1 a2 a3 a4 a5 a6 true) else (sizarlaw33_PolicyRest.j0 k l0 l1 a2 a3 a4 a5 a6 (decide (a2 > 5)))) else (sizarlaw33_PolicyRest.j0 k l0 l1 a2 a3 a4 a5 a6 true))) else (sizarlaw33_PolicyRest.j0 k l0 l1 a2 a3 a4 a5 a6 true))) else (sizarlaw33_PolicyRest.j0 k l0 l1 a2 a3 a4 a5 a6 true))) else (sizarlaw33_PolicyRest.j0 k l0 l1 a2 a3 a4 a5 a6 true)) = some r := H
      have A12 := Aside0.mk A120
      clear A120
      by_cases c13 : t148 = true
      · subst c13
        have H1 : ((sizarref33_Few.f l1).bind fun t149 => (if t149 = true then ((policy_Check.f l0).bind fun t150 => (if t150 = 0 then ((policy_Check.f l1).bind fun t151 => (if t151 = 0 then (if a2 < 1 then (sizarlaw33_PolicyRest.j0 k l0 l1 a2 a3 a4 a5 a6 true) else (sizarlaw33_PolicyRest.j0 k l0 l1 a2 a3 a4 a5 a6 (decide (a2 > 5)))) else (sizarlaw33_PolicyRest.j0 k l0 l1 a2 a3 a4 a5 a6 true))) else (sizarlaw33_PolicyRest.j0 k l0 l1 a2 a3 a4 a5 a6 true))) else (sizarlaw33_PolicyRest.j0 k l0 l1 a2 a3 a4 a5 a6 true))) = some r := by rw [if_pos rfl] at H; exact H
        clear H
        have H := H1
        clear H1
        replace H := Option.bind_eq_some_iff.mp H
        obtain ⟨t149, A140, H⟩ := H
        replace H : (if t149 = true then ((policy_Check.f l0).bind fun t150 => (if t150 = 0 then ((policy_Check.f l1).bind fun t151 => (if t151 = 0 then (if a2 < 1 then (sizarlaw33_PolicyRest.j0 k l0 l1 a2 a3 a4 a5 a6 true) else (sizarlaw33_PolicyRest.j0 k l0 l1 a2 a3 a4 a5 a6 (decide (a2 > 5)))) else (sizarlaw33_PolicyRest.j0 k l0 l1 a2 a3 a4 a5 a6 true))) else (sizarlaw33_PolicyRest.j0 k l0 l1 a2 a3 a4 a5 a6 true))) else (sizarlaw33_PolicyRest.j0 k l0 l1 a2 a3 a4 a5 a6 true)) = some r := H
        have A14 := Aside0.mk A140
        clear A140
        by_cases c15 : t149 = true
        · subst c15
          have H1 : ((policy_Check.f l0).bind fun t150 => (if t150 = 0 then ((policy_Check.f l1).bind fun t151 => (if t151 = 0 then (if a2 < 1 then (sizarlaw33_PolicyRest.j0 k l0 l1 a2 a3 a4 a5 a6 true) else (sizarlaw33_PolicyRest.j0 k l0 l1 a2 a3 a4 a5 a6 (decide (a2 > 5)))) else (sizarlaw33_PolicyRest.j0 k l0 l1 a2 a3 a4 a5 a6 true))) else (sizarlaw33_PolicyRest.j0 k l0 l1 a2 a3 a4 a5 a6 true))) = some r := by rw [if_pos rfl] at H; exact H
          clear H
          have H := H1
          clear H1
          replace H := Option.bind_eq_some_iff.mp H
          obtain ⟨t150, A160, H⟩ := H
          replace H : (if t150 = 0 then ((policy_Check.f l1).bind fun t151 => (if t151 = 0 then (if a2 < 1 then (sizarlaw33_PolicyRest.j0 k l0 l1 a2 a3 a4 a5 a6 true) else (sizarlaw33_PolicyRest.j0 k l0 l1 a2 a3 a4 a5 a6 (decide (a2 > 5)))) else (sizarlaw33_PolicyRest.j0 k l0 l1 a2 a3 a4 a5 a6 true))) else (sizarlaw33_PolicyRest.j0 k l0 l1 a2 a3 a4 a5 a6 true)) = some r := H
          have A16 := Aside0.mk A160
          clear A160
          by_cases c17 : t150 = 0
          · rw [if_pos c17] at H
            have c17b0 : (t150 == 0) = true := beq_iff_eq.mpr c17
            have c17b1 : (t150 != 0) = false := bne_eq_false_iff_eq.mpr c17
            clear c17
            (first | rw [c17b0] | (simp only [i64_w, i32_w]; rw [c17b0]) | skip)
            replace H := Option.bind_eq_some_iff.mp H
            obtain ⟨t151, A180, H⟩ := H
            replace H : (if t151 = 0 then (if a2 < 1 then (sizarlaw33_PolicyRest.j0 k l0 l1 a2 a3 a4 a5 a6 true) else (sizarlaw33_PolicyRest.j0 k l0 l1 a2 a3 a4 a5 a6 (decide (a2 > 5)))) else (sizarlaw33_PolicyRest.j0 k l0 l1 a2 a3 a4 a5 a6 true)) = some r := H
            have A18 := Aside0.mk A180
            clear A180
            by_cases c19 : t151 = 0
            · rw [if_pos c19] at H
              have c19b0 : (t151 == 0) = true := beq_iff_eq.mpr c19
              have c19b1 : (t151 != 0) = false := bne_eq_false_iff_eq.mpr c19
              clear c19
              by_cases c20 : a2 < 1
              · rw [if_pos c20] at H
                have c20b0 : decide (a2 < 1) = true := decide_eq_true c20
                clear c20
                have H' := Aside0.mk H
                clear H
                go_wp2_with (first | ((with_reducible refine gate_callee (f := 11) rfl ?_); refine goesL_ (some 32) rfl rfl Try.func11 (by kernel_rfl) rfl #[.slice A0 l0.length c0] rfl (by (try simp only [List.map_toArray, List.map_cons, List.map_nil]); first | done | rfl | (simp only [List.length_drop, List.length_take]; rfl)) ?_; (with_reducible refine (sizarref33_Few.calls _ _ l0 true _ ?side1 ?side2 A12.out).mono ?_); (case side1 => repeat (first | exact (Kd.C_below HR0.out HB.out) | (with_reducible refine Kd.C_alloc ?_ _) | (with_reducible refine Kd.C_drewN ?_ _) | (with_reducible refine Kd.C_drew ?_))); (case side2 => exact HC0.out); rintro e w' ⟨rfl, ⟨nd, rfl⟩⟩; refine ⟨_, rfl, ?_⟩) | (go_at_call 11; (with_reducible refine (sizarref33_Few.calls _ _ l1 true _ ?side1 ?side2 A14.out).mono ?_); (case side1 => repeat (first | exact (Kd.C_below HR1.out (by repeat (first | (with_reducible first | exact HB.out | apply below_alloc | apply pw_below_drewN | apply below_drew1) | exact HB.out))) | (with_reducible refine Kd.C_alloc ?_ _) | (with_reducible refine Kd.C_drewN ?_ _) | (with_reducible refine Kd.C_drew ?_))); (case side2 => exact HC1.out); rintro e w' ⟨rfl, ⟨nd, rfl⟩⟩) | (go_at_call 14; (with_reducible refine (policy_Check.calls _ _ l0 t150 _ ?side1 ?side2 A16.out).mono ?_); (case side1 => repeat (first | exact (Kd.C_below HR0.out (by repeat (first | (with_reducible first | exact HB.out | apply below_alloc | apply pw_below_drewN | apply below_drew1) | exact HB.out))) | (with_reducible refine Kd.C_alloc ?_ _) | (with_reducible refine Kd.C_drewN ?_ _) | (with_reducible refine Kd.C_drew ?_))); (case side2 => exact HC0.out); rintro e w21 ⟨rfl, hb⟩; have n0_ := Aside0.mk (below_step (by repeat (first | (with_reducible first | exact HB.out | apply below_alloc | apply pw_below_drewN | apply below_drew1) | exact HB.out)) hb); clear HB; have HB := n0_; clear n0_; (try clear hb); (try clear hb2); (try clear hk); (try clear hi)) | (go_at_call 14; (with_reducible refine (policy_Check.calls _ _ l1 t151 _ ?side1 ?side2 A18.out).mono ?_); (case side1 => repeat (first | exact (Kd.C_below HR1.out HB.out) | (with_reducible refine Kd.C_alloc ?_ _) | (with_reducible refine Kd.C_drewN ?_ _) | (with_reducible refine Kd.C_drew ?_))); (case side2 => exact HC1.out); rintro e w22 ⟨rfl, hb⟩; have n0_ := Aside0.mk (below_step (by repeat (first | (with_reducible first | exact HB.out | apply below_alloc | apply pw_below_drewN | apply below_drew1) | exact HB.out)) hb); clear HB; have HB := n0_; clear n0_; (try clear hb); (try clear hb2); (try clear hk); (try clear hi)))
                go_meet
                case rel => exact ⟨_, (true), (by first | rfl | (simp; done) | (simp [*]; done)), H', ⟨by first | omega | exact Nat.le_refl _⟩, ⟨by repeat (first | (with_reducible first | exact HB.out | apply below_alloc | apply pw_below_drewN | apply below_drew1) | exact HB.out)⟩⟩
              · rw [if_neg c20] at H
                have c20b0 : decide (a2 < 1) = false := decide_eq_false c20
                clear c20
                have H' := Aside0.mk H
                clear H
                go_wp2_with (first | ((with_reducible refine gate_callee (f := 11) rfl ?_); refine goesL_ (some 32) rfl rfl Try.func11 (by kernel_rfl) rfl #[.slice A0 l0.length c0] rfl (by (try simp only [List.map_toArray, List.map_cons, List.map_nil]); first | done | rfl | (simp only [List.length_drop, List.length_take]; rfl)) ?_; (with_reducible refine (sizarref33_Few.calls _ _ l0 true _ ?side1 ?side2 A12.out).mono ?_); (case side1 => repeat (first | exact (Kd.C_below HR0.out HB.out) | (with_reducible refine Kd.C_alloc ?_ _) | (with_reducible refine Kd.C_drewN ?_ _) | (with_reducible refine Kd.C_drew ?_))); (case side2 => exact HC0.out); rintro e w' ⟨rfl, ⟨nd, rfl⟩⟩; refine ⟨_, rfl, ?_⟩) | (go_at_call 11; (with_reducible refine (sizarref33_Few.calls _ _ l1 true _ ?side1 ?side2 A14.out).mono ?_); (case side1 => repeat (first | exact (Kd.C_below HR1.out (by repeat (first | (with_reducible first | exact HB.out | apply below_alloc | apply pw_below_drewN | apply below_drew1) | exact HB.out))) | (with_reducible refine Kd.C_alloc ?_ _) | (with_reducible refine Kd.C_drewN ?_ _) | (with_reducible refine Kd.C_drew ?_))); (case side2 => exact HC1.out); rintro e w' ⟨rfl, ⟨nd, rfl⟩⟩) | (go_at_call 14; (with_reducible refine (policy_Check.calls _ _ l0 t150 _ ?side1 ?side2 A16.out).mono ?_); (case side1 => repeat (first | exact (Kd.C_below HR0.out (by repeat (first | (with_reducible first | exact HB.out | apply below_alloc | apply pw_below_drewN | apply below_drew1) | exact HB.out))) | (with_reducible refine Kd.C_alloc ?_ _) | (with_reducible refine Kd.C_drewN ?_ _) | (with_reducible refine Kd.C_drew ?_))); (case side2 => exact HC0.out); rintro e w23 ⟨rfl, hb⟩; have n0_ := Aside0.mk (below_step (by repeat (first | (with_reducible first | exact HB.out | apply below_alloc | apply pw_below_drewN | apply below_drew1) | exact HB.out)) hb); clear HB; have HB := n0_; clear n0_; (try clear hb); (try clear hb2); (try clear hk); (try clear hi)) | (go_at_call 14; (with_reducible refine (policy_Check.calls _ _ l1 t151 _ ?side1 ?side2 A18.out).mono ?_); (case side1 => repeat (first | exact (Kd.C_below HR1.out HB.out) | (with_reducible refine Kd.C_alloc ?_ _) | (with_reducible refine Kd.C_drewN ?_ _) | (with_reducible refine Kd.C_drew ?_))); (case side2 => exact HC1.out); rintro e w24 ⟨rfl, hb⟩; have n0_ := Aside0.mk (below_step (by repeat (first | (with_reducible first | exact HB.out | apply below_alloc | apply pw_below_drewN | apply below_drew1) | exact HB.out)) hb); clear HB; have HB := n0_; clear n0_; (try clear hb); (try clear hb2); (try clear hk); (try clear hi)))
                go_meet
                case rel => exact ⟨_, (decide (a2 > 5)), (by first | rfl | (simp; done) | (simp [*]; done)), H', ⟨by first | omega | exact Nat.le_refl _⟩, ⟨by repeat (first | (with_reducible first | exact HB.out | apply below_alloc | apply pw_below_drewN | apply below_drew1) | exact HB.out)⟩⟩
            · rw [if_neg c19] at H
              have c19b0 : (t151 == 0) = false := beq_eq_false_iff_ne.mpr c19
              have c19b1 : (t151 != 0) = true := bne_iff_ne.mpr c19
              have H' := Aside0.mk H
              clear H
              go_wp2_with (first | ((with_reducible refine gate_callee (f := 11) rfl ?_); refine goesL_ (some 32) rfl rfl Try.func11 (by kernel_rfl) rfl #[.slice A0 l0.length c0] rfl (by (try simp only [List.map_toArray, List.map_cons, List.map_nil]); first | done | rfl | (simp only [List.length_drop, List.length_take]; rfl)) ?_; (with_reducible refine (sizarref33_Few.calls _ _ l0 true _ ?side1 ?side2 A12.out).mono ?_); (case side1 => repeat (first | exact (Kd.C_below HR0.out HB.out) | (with_reducible refine Kd.C_alloc ?_ _) | (with_reducible refine Kd.C_drewN ?_ _) | (with_reducible refine Kd.C_drew ?_))); (case side2 => exact HC0.out); rintro e w' ⟨rfl, ⟨nd, rfl⟩⟩; refine ⟨_, rfl, ?_⟩) | (go_at_call 11; (with_reducible refine (sizarref33_Few.calls _ _ l1 true _ ?side1 ?side2 A14.out).mono ?_); (case side1 => repeat (first | exact (Kd.C_below HR1.out (by repeat (first | (with_reducible first | exact HB.out | apply below_alloc | apply pw_below_drewN | apply below_drew1) | exact HB.out))) | (with_reducible refine Kd.C_alloc ?_ _) | (with_reducible refine Kd.C_drewN ?_ _) | (with_reducible refine Kd.C_drew ?_))); (case side2 => exact HC1.out); rintro e w' ⟨rfl, ⟨nd, rfl⟩⟩) | (go_at_call 14; (with_reducible refine (policy_Check.calls _ _ l0 t150 _ ?side1 ?side2 A16.out).mono ?_); (case side1 => repeat (first | exact (Kd.C_below HR0.out (by repeat (first | (with_reducible first | exact HB.out | apply below_alloc | apply pw_below_drewN | apply below_drew1) | exact HB.out))) | (with_reducible refine Kd.C_alloc ?_ _) | (with_reducible refine Kd.C_drewN ?_ _) | (with_reducible refine Kd.C_drew ?_))); (case side2 => exact HC0.out); rintro e w25 ⟨rfl, hb⟩; have n0_ := Aside0.mk (below_step (by repeat (first | (with_reducible first | exact HB.out | apply below_alloc | apply pw_below_drewN | apply below_drew1) | exact HB.out)) hb); clear HB; have HB := n0_; clear n0_; (try clear hb); (try clear hb2); (try clear hk); (try clear hi)) | (go_at_call 14; (with_reducible refine (policy_Check.calls _ _ l1 t151 _ ?side1 ?side2 A18.out).mono ?_); (case side1 => repeat (first | exact (Kd.C_below HR1.out HB.out) | (with_reducible refine Kd.C_alloc ?_ _) | (with_reducible refine Kd.C_drewN ?_ _) | (with_reducible refine Kd.C_drew ?_))); (case side2 => exact HC1.out); rintro e w26 ⟨rfl, hb⟩; have n0_ := Aside0.mk (below_step (by repeat (first | (with_reducible first | exact HB.out | apply below_alloc | apply pw_below_drewN | apply below_drew1) | exact HB.out)) hb); clear HB; have HB := n0_; clear n0_; (try clear hb); (try clear hb2); (try clear hk); (try clear hi)))
              go_meet
              case rel => exact ⟨_, (true), (by first | rfl | (simp; done) | (simp [*]; done)), H', ⟨by first | omega | exact Nat.le_refl _⟩, ⟨by repeat (first | (with_reducible first | exact HB.out | apply below_alloc | apply pw_below_drewN | apply below_drew1) | exact HB.out)⟩⟩
          · rw [if_neg c17] at H
            have c17b0 : (t150 == 0) = false := beq_eq_false_iff_ne.mpr c17
            have c17b1 : (t150 != 0) = true := bne_iff_ne.mpr c17
            (first | rw [c17b0] | (simp only [i64_w, i32_w]; rw [c17b0]) | skip)
            have H' := Aside0.mk H
            clear H
            go_wp2_with (first | ((with_reducible refine gate_callee (f := 11) rfl ?_); refine goesL_ (some 32) rfl rfl Try.func11 (by kernel_rfl) rfl #[.slice A0 l0.length c0] rfl (by (try simp only [List.map_toArray, List.map_cons, List.map_nil]); first | done | rfl | (simp only [List.length_drop, List.length_take]; rfl)) ?_; (with_reducible refine (sizarref33_Few.calls _ _ l0 true _ ?side1 ?side2 A12.out).mono ?_); (case side1 => repeat (first | exact (Kd.C_below HR0.out HB.out) | (with_reducible refine Kd.C_alloc ?_ _) | (with_reducible refine Kd.C_drewN ?_ _) | (with_reducible refine Kd.C_drew ?_))); (case side2 => exact HC0.out); rintro e w' ⟨rfl, ⟨nd, rfl⟩⟩; refine ⟨_, rfl, ?_⟩) | (go_at_call 11; (with_reducible refine (sizarref33_Few.calls _ _ l1 true _ ?side1 ?side2 A14.out).mono ?_); (case side1 => repeat (first | exact (Kd.C_below HR1.out (by repeat (first | (with_reducible first | exact HB.out | apply below_alloc | apply pw_below_drewN | apply below_drew1) | exact HB.out))) | (with_reducible refine Kd.C_alloc ?_ _) | (with_reducible refine Kd.C_drewN ?_ _) | (with_reducible refine Kd.C_drew ?_))); (case side2 => exact HC1.out); rintro e w' ⟨rfl, ⟨nd, rfl⟩⟩) | (go_at_call 14; (with_reducible refine (policy_Check.calls _ _ l0 t150 _ ?side1 ?side2 A16.out).mono ?_); (case side1 => repeat (first | exact (Kd.C_below HR0.out (by repeat (first | (with_reducible first | exact HB.out | apply below_alloc | apply pw_below_drewN | apply below_drew1) | exact HB.out))) | (with_reducible refine Kd.C_alloc ?_ _) | (with_reducible refine Kd.C_drewN ?_ _) | (with_reducible refine Kd.C_drew ?_))); (case side2 => exact HC0.out); rintro e w27 ⟨rfl, hb⟩; have n0_ := Aside0.mk (below_step (by repeat (first | (with_reducible first | exact HB.out | apply below_alloc | apply pw_below_drewN | apply below_drew1) | exact HB.out)) hb); clear HB; have HB := n0_; clear n0_; (try clear hb); (try clear hb2); (try clear hk); (try clear hi)))
            go_meet
            case rel => exact ⟨_, (true), (by first | rfl | (simp; done) | (simp [*]; done)), H', ⟨by first | omega | exact Nat.le_refl _⟩, ⟨by repeat (first | (with_reducible first | exact HB.out | apply below_alloc | apply pw_below_drewN | apply below_drew1) | exact HB.out)⟩⟩
        · replace c15 := Bool.eq_false_iff.mpr c15
          subst c15
          have H1 : (sizarlaw33_PolicyRest.j0 k l0 l1 a2 a3 a4 a5 a6 true) = some r := by rw [if_neg (show ¬ (false = true) by decide)] at H; exact H
          clear H
          have H := H1
          clear H1
          have H' := Aside0.mk H
          clear H
          go_wp2_with (first | ((with_reducible refine gate_callee (f := 11) rfl ?_); refine goesL_ (some 32) rfl rfl Try.func11 (by kernel_rfl) rfl #[.slice A0 l0.length c0] rfl (by (try simp only [List.map_toArray, List.map_cons, List.map_nil]); first | done | rfl | (simp only [List.length_drop, List.length_take]; rfl)) ?_; (with_reducible refine (sizarref33_Few.calls _ _ l0 true _ ?side1 ?side2 A12.out).mono ?_); (case side1 => repeat (first | exact (Kd.C_below HR0.out HB.out) | (with_reducible refine Kd.C_alloc ?_ _) | (with_reducible refine Kd.C_drewN ?_ _) | (with_reducible refine Kd.C_drew ?_))); (case side2 => exact HC0.out); rintro e w' ⟨rfl, ⟨nd, rfl⟩⟩; refine ⟨_, rfl, ?_⟩) | (go_at_call 11; (with_reducible refine (sizarref33_Few.calls _ _ l1 false _ ?side1 ?side2 A14.out).mono ?_); (case side1 => repeat (first | exact (Kd.C_below HR1.out (by repeat (first | (with_reducible first | exact HB.out | apply below_alloc | apply pw_below_drewN | apply below_drew1) | exact HB.out))) | (with_reducible refine Kd.C_alloc ?_ _) | (with_reducible refine Kd.C_drewN ?_ _) | (with_reducible refine Kd.C_drew ?_))); (case side2 => exact HC1.out); rintro e w' ⟨rfl, ⟨nd, rfl⟩⟩))
          go_meet
          case rel => exact ⟨_, (true), (by first | rfl | (simp; done) | (simp [*]; done)), H', ⟨by first | omega | exact Nat.le_refl _⟩, ⟨by repeat (first | (with_reducible first | exact HB.out | apply below_alloc | apply pw_below_drewN | apply below_drew1) | exact HB.out)⟩⟩
      · replace c13 := Bool.eq_false_iff.mpr c13
        subst c13
        have H1 : (sizarlaw33_PolicyRest.j0 k l0 l1 a2 a3 a4 a5 a6 true) = some r := by rw [if_neg (show ¬ (false = true) by decide)] at H; exact H
        clear H
        have H := H1
        clear H1
        have H' := Aside0.mk H
        clear H
        go_wp2_with (first | ((with_reducible refine gate_callee (f := 11) rfl ?_); refine goesL_ (some 32) rfl rfl Try.func11 (by kernel_rfl) rfl #[.slice A0 l0.length c0] rfl (by (try simp only [List.map_toArray, List.map_cons, List.map_nil]); first | done | rfl | (simp only [List.length_drop, List.length_take]; rfl)) ?_; (with_reducible refine (sizarref33_Few.calls _ _ l0 false _ ?side1 ?side2 A12.out).mono ?_); (case side1 => repeat (first | exact (Kd.C_below HR0.out HB.out) | (with_reducible refine Kd.C_alloc ?_ _) | (with_reducible refine Kd.C_drewN ?_ _) | (with_reducible refine Kd.C_drew ?_))); (case side2 => exact HC0.out); rintro e w' ⟨rfl, ⟨nd, rfl⟩⟩; refine ⟨_, rfl, ?_⟩))
        go_meet
        case rel => exact ⟨_, (true), (by first | rfl | (simp; done) | (simp [*]; done)), H', ⟨by first | omega | exact Nat.le_refl _⟩, ⟨by repeat (first | (with_reducible first | exact HB.out | apply below_alloc | apply pw_below_drewN | apply below_drew1) | exact HB.out)⟩⟩
    case rest =>
      clear HC10
      try clear c1
      try clear c2
      try clear p2
      try clear c6
      try clear c9
      try clear c10
      try clear c11
      try clear c13
      try clear c15
      try clear c17
      try clear c17b0
      try clear c17b1
      try clear c19
      try clear c19b0
      try clear c19b1
      try clear c20
      try clear c20b0
      obtain ⟨kq, x56_9, rfl, HA, HJ9, HB⟩ := hcut
      cases kq with
      | zero => exact absurd HA.out (by simp [sizarlaw33_PolicyRest.j0])
      | succ kj9 =>
        have H := HA.out
        clear HA
        simp only [sizarlaw33_PolicyRest.j0] at H
        by_cases c28 : x56_9 = true
        · subst c28
          have H1 : (some true) = some r := by rw [if_pos rfl] at H; exact H
          clear H
          have H := H1
          clear H1
          obtain rfl := Option.some.inj H
          go_wp2
          go_ret
          exact ⟨by first | rfl | (simp [errW_none, errW_some] <;> rfl) | (simp [*, errW_none, errW_some] <;> rfl), by repeat (first | (with_reducible first | exact HB.out | apply below_alloc | apply pw_below_drewN | apply below_drew1) | exact HB.out)⟩
        · replace c28 := Bool.eq_false_iff.mpr c28
          subst c28
          have H1 : ((policy_Action.f l0 a2 a3 a4 (Int.tmod (wrap64 (a5)) 1024) (Int.tmod (wrap64 (a6)) 1024)).bind fun bt152 => ((policy_Action.f l1 a2 a3 a4 (Int.tmod (wrap64 (a5)) 1024) (Int.tmod (wrap64 (a6)) 1024)).bind fun bt154 => ((some (([] : List (S35)) : List (S35))).bind fun y156 => (if y156.length + l0.length < 4398046511104 then ((some (y156 ++ l0 : List (S35))).bind fun y159 => (if y159.length + l1.length < 4398046511104 then ((policy_Action.f (y159 ++ l1) a2 a3 a4 (Int.tmod (wrap64 (a5)) 1024) (Int.tmod (wrap64 (a6)) 1024)).bind fun bt165 => (sizarlaw33_PolicyRest.l0 kj9 a2 a3 a4 (Int.tmod (wrap64 (a5)) 1024) (Int.tmod (wrap64 (a6)) 1024) bt152.1 bt152.2 bt154.1 bt154.2 bt165.1 bt165.2 ([] : List (S35)) false l0 (l0.length : Int) 0)) else (none))) else (none))))) = some r := by rw [if_neg (show ¬ (false = true) by decide)] at H; exact H
          clear H
          have H := H1
          clear H1
          replace H := Option.bind_eq_some_iff.mp H
          obtain ⟨⟨t152, t153⟩, A290, H⟩ := H
          replace H : ((policy_Action.f l1 a2 a3 a4 (Int.tmod (wrap64 (a5)) 1024) (Int.tmod (wrap64 (a6)) 1024)).bind fun bt154 => ((some (([] : List (S35)) : List (S35))).bind fun y156 => (if y156.length + l0.length < 4398046511104 then ((some (y156 ++ l0 : List (S35))).bind fun y159 => (if y159.length + l1.length < 4398046511104 then ((policy_Action.f (y159 ++ l1) a2 a3 a4 (Int.tmod (wrap64 (a5)) 1024) (Int.tmod (wrap64 (a6)) 1024)).bind fun bt165 => (sizarlaw33_PolicyRest.l0 kj9 a2 a3 a4 (Int.tmod (wrap64 (a5)) 1024) (Int.tmod (wrap64 (a6)) 1024) t152 t153 bt154.1 bt154.2 bt165.1 bt165.2 ([] : List (S35)) false l0 (l0.length : Int) 0)) else (none))) else (none)))) = some r := H
          have A29 := Aside0.mk A290
          clear A290
          replace H := Option.bind_eq_some_iff.mp H
          obtain ⟨⟨t154, t155⟩, A300, H⟩ := H
          replace H : ((some (([] : List (S35)) : List (S35))).bind fun y156 => (if y156.length + l0.length < 4398046511104 then ((some (y156 ++ l0 : List (S35))).bind fun y159 => (if y159.length + l1.length < 4398046511104 then ((policy_Action.f (y159 ++ l1) a2 a3 a4 (Int.tmod (wrap64 (a5)) 1024) (Int.tmod (wrap64 (a6)) 1024)).bind fun bt165 => (sizarlaw33_PolicyRest.l0 kj9 a2 a3 a4 (Int.tmod (wrap64 (a5)) 1024) (Int.tmod (wrap64 (a6)) 1024) t152 t153 t154 t155 bt165.1 bt165.2 ([] : List (S35)) false l0 (l0.length : Int) 0)) else (none))) else (none))) = some r := H
          have A30 := Aside0.mk A300
          clear A300
          obtain ⟨y156, hy156⟩ : ∃ y_ : List (S35), y_ = (([] : List (S35))) := ⟨_, rfl⟩
          replace H : (if y156.length + l0.length < 4398046511104 then ((some (y156 ++ l0 : List (S35))).bind fun y159 => (if y159.length + l1.length < 4398046511104 then ((policy_Action.f (y159 ++ l1) a2 a3 a4 (Int.tmod (wrap64 (a5)) 1024) (Int.tmod (wrap64 (a6)) 1024)).bind fun bt165 => (sizarlaw33_PolicyRest.l0 kj9 a2 a3 a4 (Int.tmod (wrap64 (a5)) 1024) (Int.tmod (wrap64 (a6)) 1024) t152 t153 t154 t155 bt165.1 bt165.2 ([] : List (S35)) false l0 (l0.length : Int) 0)) else (none))) else (none)) = some r := by first | (rw [hy156]; with_reducible exact H) | (have H2_ := (Option.bind_some _ _).symm.trans H; rw [hy156]; with_reducible exact H2_) | (have H2_ := (Option.bind_some _ _).symm.trans H; with_reducible exact H2_) | with_reducible exact H | (rw [hy156]; exact H) | exact H
          have Ny156 := Aside0.mk hy156
          clear hy156
          by_cases c31 : y156.length + l0.length < 4398046511104
          · rw [if_pos c31] at H
            have LMc31 := Aside0.mk c31
            clear c31
            obtain ⟨y159, hy159⟩ : ∃ y_ : List (S35), y_ = (y156 ++ l0) := ⟨_, rfl⟩
            replace H : (if y159.length + l1.length < 4398046511104 then ((policy_Action.f (y159 ++ l1) a2 a3 a4 (Int.tmod (wrap64 (a5)) 1024) (Int.tmod (wrap64 (a6)) 1024)).bind fun bt165 => (sizarlaw33_PolicyRest.l0 kj9 a2 a3 a4 (Int.tmod (wrap64 (a5)) 1024) (Int.tmod (wrap64 (a6)) 1024) t152 t153 t154 t155 bt165.1 bt165.2 ([] : List (S35)) false l0 (l0.length : Int) 0)) else (none)) = some r := by first | (rw [hy159]; with_reducible exact H) | (have H2_ := (Option.bind_some _ _).symm.trans H; rw [hy159]; with_reducible exact H2_) | (have H2_ := (Option.bind_some _ _).symm.trans H; with_reducible exact H2_) | with_reducible exact H | (rw [hy159]; exact H) | exact H
            have Ny159 := Aside0.mk hy159
            clear hy159
            by_cases c32 : y159.length + l1.length < 4398046511104
            · rw [if_pos c32] at H
              have LMc32 := Aside0.mk c32
              clear c32
              obtain ⟨y162, hy162⟩ : ∃ y_ : List (S35), y_ = (y159 ++ l1) := ⟨_, rfl⟩
              replace H : ((policy_Action.f y162 a2 a3 a4 (Int.tmod (wrap64 (a5)) 1024) (Int.tmod (wrap64 (a6)) 1024)).bind fun bt165 => (sizarlaw33_PolicyRest.l0 kj9 a2 a3 a4 (Int.tmod (wrap64 (a5)) 1024) (Int.tmod (wrap64 (a6)) 1024) t152 t153 t154 t155 bt165.1 bt165.2 ([] : List (S35)) false l0 (l0.length : Int) 0)) = some r := by first | (rw [hy162]; with_reducible exact H) | (have H2_ := (Option.bind_some _ _).symm.trans H; rw [hy162]; with_reducible exact H2_) | (have H2_ := (Option.bind_some _ _).symm.trans H; with_reducible exact H2_) | with_reducible exact H | (rw [hy162]; exact H) | exact H
              have Ny162 := Aside0.mk hy162
              clear hy162
              replace H := Option.bind_eq_some_iff.mp H
              obtain ⟨⟨t165, t166⟩, A330, H⟩ := H
              replace H : (sizarlaw33_PolicyRest.l0 kj9 a2 a3 a4 (Int.tmod (wrap64 (a5)) 1024) (Int.tmod (wrap64 (a6)) 1024) t152 t153 t154 t155 t165 t166 ([] : List (S35)) false l0 (l0.length : Int) 0) = some r := H
              have A33 := Aside0.mk A330
              clear A330
              have H' := Aside0.mk H
              clear H
              go_wp2_with (first | ((with_reducible refine gate_callee (f := 12) rfl ?_); refine goesL_ (some 70) rfl rfl Try.func12 (by kernel_rfl) rfl #[.slice A0 l0.length c0, .int .i64 a2, .int .i64 a3, .int .i64 a4, .int .i64 (Int.tmod (wrap64 (a5)) 1024), .int .i64 (Int.tmod (wrap64 (a6)) 1024)] rfl (by (try simp only [List.map_toArray, List.map_cons, List.map_nil]); first | done | rfl | (simp only [List.length_drop, List.length_take]; rfl)) ?_; (with_reducible refine (policy_Action.calls _ _ l0 a2 a3 a4 (Int.tmod (wrap64 (a5)) 1024) (Int.tmod (wrap64 (a6)) 1024) t152 t153 _ ?side1 ?side2 A29.out).mono ?_); (case side1 => repeat (first | exact (Kd.C_below HR0.out HB.out) | (with_reducible refine Kd.C_alloc ?_ _) | (with_reducible refine Kd.C_drewN ?_ _) | (with_reducible refine Kd.C_drew ?_))); (case side2 => exact HC0.out); rintro e w34 ⟨rfl, hb⟩; refine ⟨_, rfl, ?_⟩; have n0_ := Aside0.mk (below_step (by repeat (first | (with_reducible first | exact HB.out | apply below_alloc | apply pw_below_drewN | apply below_drew1) | exact HB.out)) hb); clear HB; have HB := n0_; clear n0_; (try clear hb); (try clear hb2); (try clear hk); (try clear hi)) | ((with_reducible refine gate_callee (f := 12) rfl ?_); refine goesL_ (some 80) rfl rfl Try.func12 (by kernel_rfl) rfl #[.slice A1 l1.length c1, .int .i64 a2, .int .i64 a3, .int .i64 a4, .int .i64 (Int.tmod (wrap64 (a5)) 1024), .int .i64 (Int.tmod (wrap64 (a6)) 1024)] rfl (by (try simp only [List.map_toArray, List.map_cons, List.map_nil]); first | done | rfl | (simp only [List.length_drop, List.length_take]; rfl)) ?_; (with_reducible refine (policy_Action.calls _ _ l1 a2 a3 a4 (Int.tmod (wrap64 (a5)) 1024) (Int.tmod (wrap64 (a6)) 1024) t154 t155 _ ?side1 ?side2 A30.out).mono ?_); (case side1 => repeat (first | exact (Kd.C_below HR1.out HB.out) | (with_reducible refine Kd.C_alloc ?_ _) | (with_reducible refine Kd.C_drewN ?_ _) | (with_reducible refine Kd.C_drew ?_))); (case side2 => exact HC1.out); rintro e w35 ⟨rfl, hb⟩; refine ⟨_, rfl, ?_⟩; have n0_ := Aside0.mk (below_step (by repeat (first | (with_reducible first | exact HB.out | apply below_alloc | apply pw_below_drewN | apply below_drew1) | exact HB.out)) hb); clear HB; have HB := n0_; clear n0_; (try clear hb); (try clear hb2); (try clear hk); (try clear hi)) | ((with_reducible refine gate_dst (N := 84) rfl ?_); refine Kd.R_lit k35 _ 35 ?hg (N := 84) ?hd (xs := ([] : List (S35))) (inner := []) (ok := fun _ => True) (okp := fun _ => True) ?hr ?hp (fun _ hk => hk) trivial (Below.refl _ _) (Nat.le_refl _) (by simp) ?_; (case hd => rfl); (case hg => rfl); (case hr => first | (go_simp; done) | (go_simp; rfl)); (case hp => exact (Reps.none _ _)); intro v157 w36 ho37 hb hg_ hnew_; clear hg_ hnew_; (first | rw [← Ny156.out] at ho37 | (simp only [Int.reduceToNat] at ho37; rw [← Ny156.out] at ho37)); have n0_ := Aside0.mk (Kd.R_lower ho37 (below_size (by repeat (first | (with_reducible first | exact HB.out | apply below_alloc | apply pw_below_drewN | apply below_drew1) | exact HB.out)))); have n1_ := Aside0.mk (below_step (by repeat (first | (with_reducible first | exact HB.out | apply below_alloc | apply pw_below_drewN | apply below_drew1) | exact HB.out)) hb); clear HB; have HO158 := n0_; have HB := n1_; clear n0_ n1_; clear hb ho37) | ((with_reducible refine gate_builtin (b := .append) (xs := #[.tmp 84, .tmp 85]) rfl ?_); at_builtin; refine Kd.R_append_rows k35 (w0 := w) w.heap.size rfl (.tmp 84) (.tmp 85) 22 35 (.agg #[(.int .i64 0), (.int .i64 0), (.int .i64 0), (.int .i64 0)]) 32 rfl Try.underlying22 info35 rfl (by decide) (by omega) v157 y156 l0 _ _ _ (fun _ => True) (fun _ => False) rfl rfl ?aO ?aR (fun _ _ h => h) (fun _ h => h.elim) ?aF ?aB ?aS ?aL ?_; (case aR => repeat (first | exact (Kd.C_below HR0.out HB.out) | (with_reducible refine Kd.C_alloc ?_ _) | (with_reducible refine Kd.C_drewN ?_ _) | (with_reducible refine Kd.C_drew ?_))); (case aB => exact (by repeat (first | (with_reducible first | exact HB.out | apply below_alloc | apply pw_below_drewN | apply below_drew1) | exact HB.out))); (case aF => exact (fun _ _ => trivial)); (case aO => exact (by (with_reducible repeat (first | apply Kd.R_alloc | apply Kd.R_drewN | apply Kd.R_drew)); exact HO158.out)); (case aS => exact (below_size (by repeat (first | (with_reducible first | exact HB.out | apply below_alloc | apply pw_below_drewN | apply below_drew1) | exact HB.out)))); (case aL => have := LMc31.out; omega); intro v160 w38 ho hb hg hat; rw [← Ny159.out] at ho; have n0_ := Aside0.mk (hb); have n1_ := Aside0.mk (ho); clear HB; clear HO158; have HB := n0_; have HO161 := n1_; clear n0_ n1_; clear ho hb hg hat) | ((with_reducible refine gate_builtin (b := .append) (xs := #[.tmp 86, .tmp 87]) rfl ?_); at_builtin; refine Kd.R_append_rows k35 (w0 := w) w.heap.size rfl (.tmp 86) (.tmp 87) 22 35 (.agg #[(.int .i64 0), (.int .i64 0), (.int .i64 0), (.int .i64 0)]) 32 rfl Try.underlying22 info35 rfl (by decide) (by omega) v160 y159 l1 _ _ _ (fun _ => True) (fun _ => False) rfl rfl ?aO ?aR (fun _ _ h => h) (fun _ h => h.elim) ?aF ?aB ?aS ?aL ?_; (case aR => repeat (first | exact (Kd.C_below HR1.out HB.out) | (with_reducible refine Kd.C_alloc ?_ _) | (with_reducible refine Kd.C_drewN ?_ _) | (with_reducible refine Kd.C_drew ?_))); (case aB => exact (by repeat (first | (with_reducible first | exact HB.out | apply below_alloc | apply pw_below_drewN | apply below_drew1) | exact HB.out))); (case aF => exact (fun _ _ => trivial)); (case aO => exact (by (with_reducible repeat (first | apply Kd.R_alloc | apply Kd.R_drewN | apply Kd.R_drew)); exact HO161.out)); (case aS => exact (below_size (by repeat (first | (with_reducible first | exact HB.out | apply below_alloc | apply pw_below_drewN | apply below_drew1) | exact HB.out)))); (case aL => have := LMc32.out; omega); intro v163 w39 ho hb hg hat; rw [← Ny162.out] at ho; have n0_ := Aside0.mk (hb); have n1_ := Aside0.mk (ho); clear HB; clear HO161; have HB := n0_; have HO164 := n1_; clear n0_ n1_; clear ho hb hg hat; obtain ⟨Ao40, co40, eo40⟩ := Kd.R_slice HO164.out; subst eo40) | ((with_reducible refine gate_callee (f := 12) rfl ?_); refine goesL_ (some 94) rfl rfl Try.func12 (by kernel_rfl) rfl #[.slice Ao40 y162.length co40, .int .i64 a2, .int .i64 a3, .int .i64 a4, .int .i64 (Int.tmod (wrap64 (a5)) 1024), .int .i64 (Int.tmod (wrap64 (a6)) 1024)] rfl (by (try simp only [List.map_toArray, List.map_cons, List.map_nil]); first | done | rfl | (simp only [List.length_drop, List.length_take]; rfl)) ?_; (with_reducible refine (policy_Action.calls _ _ y162 a2 a3 a4 (Int.tmod (wrap64 (a5)) 1024) (Int.tmod (wrap64 (a6)) 1024) t165 t166 _ ?side1 ?side2 A33.out).mono ?_); (case side1 => repeat (first | exact (Kd.R_reads' HO164.out).2.2 | (with_reducible refine Kd.C_alloc ?_ _) | (with_reducible refine Kd.C_drewN ?_ _) | (with_reducible refine Kd.C_drew ?_))); (case side2 => exact (Kd.R_reads' HO164.out).2.1); rintro e w41 ⟨rfl, hb⟩; refine ⟨_, rfl, ?_⟩; have n0_ := Aside0.mk (Kd.R_below (by (with_reducible repeat (first | apply Kd.R_alloc | apply Kd.R_drewN | apply Kd.R_drew)); exact HO164.out) hb); have n1_ := Aside0.mk (below_step (by repeat (first | (with_reducible first | exact HB.out | apply below_alloc | apply pw_below_drewN | apply below_drew1) | exact HB.out)) hb); clear HO164; clear HB; have HO164 := n0_; have HB := n1_; clear n0_ n1_; (try clear hb); (try clear hb2); (try clear hk); (try clear hi)))
              go_loopg [23, 24, 99] kj9 (fun kq v23 v24 v99 w' => ∃ (x23_2 : List (S35)) (x24_2 : Bool) (x99_2 : Int), v24 = .bool x24_2 ∧ v99 = .int .i64 x99_2 ∧ Aside0 (sizarlaw33_PolicyRest.l0 kq a2 a3 a4 (Int.tmod (wrap64 (a5)) 1024) (Int.tmod (wrap64 (a6)) 1024) t152 t153 t154 t155 t165 t166 x23_2 x24_2 l0 (l0.length : Int) x99_2 = some r) ∧ Aside0 (kq ≤ kj9) ∧ Aside0 (Kd.R k35 35 w' w.heap.size (fun _ => True) v23 x23_2) ∧ Aside0 (Below w.heap.size w w'))
              case atStart => exact ⟨(([] : List (S35))), (false), (0), (by first | rfl | (simp; done) | (simp [*]; done)), (by first | rfl | (simp; done) | (simp [*]; done)), H', ⟨Nat.le_refl _⟩, ⟨by first | exact Kd.R_nil _ _ _ _ _ | exact Kd.N_nil _ _ _ _ _ | exact Kd.V_nil _ _ _ _ _ | exact Kd.Q_nil _ _ _ _ _ | exact Kd.S_nil _ _ _ _ _⟩, ⟨by repeat (first | (with_reducible first | exact HB.out | apply below_alloc | apply pw_below_drewN | apply below_drew1) | exact HB.out)⟩⟩
              case round =>
                clear H'
                try clear c1
                try clear c2
                try clear p2
                try clear c3
                try clear c6
                try clear p6
                try clear c9
                try clear c10
                try clear c11
                try clear c12
                try clear c13
                try clear c15
                try clear c17
                try clear c17b0
                try clear c17b1
                try clear c19
                try clear c19b0
                try clear c19b1
                try clear c20
                try clear c20b0
                try clear c28
                try clear c31
                try clear c32
                try clear p2
                obtain ⟨x23_2, x24_2, x99_2, rfl, rfl, HA, HK2, HO_23, HB⟩ := hrel
                cases gk with
                | zero => exact absurd HA.out (by simp [sizarlaw33_PolicyRest.l0])
                | succ k2 =>
                  have H := HA.out
                  clear HA
                  simp only [sizarlaw33_PolicyRest.l0] at H
                  by_cases c42 : x99_2 < (l0.length : Int)
                  · rw [if_pos c42] at H
                    have c42b0 : decide (x99_2 < (l0.length : Int)) = true := decide_eq_true c42
                    clear c42
                    by_cases c43 : 0 ≤ x99_2
                    · rw [if_pos c43] at H
                      have c43b0 : decide (0 ≤ x99_2) = true := decide_eq_true c43
                      clear c43
                      by_cases c44 : x99_2 < (l0.length : Int)
                      · rw [if_pos c44] at H
                        have c44b0 : decide (x99_2 < (l0.length : Int)) = true := decide_eq_true c44
                        clear c44
                        by_cases c45 : ((rd_T35 l0 x99_2).f0) = a2
                        · rw [if_pos c45] at H
                          have c45b0 : (((rd_T35 l0 x99_2).f0) == a2) = true := beq_iff_eq.mpr c45
                          have c45b1 : (((rd_T35 l0 x99_2).f0) != a2) = false := bne_eq_false_iff_eq.mpr c45
                          clear c45
                          by_cases c46 : x23_2.length < 4398046511104
                          · rw [if_pos c46] at H
                            have LMc46 := Aside0.mk c46
                            clear c46
                            obtain ⟨y169, hy169⟩ : ∃ y_ : List (S35), y_ = (x23_2 ++ [(⟨(rd_T35 l0 x99_2).f0, (rd_T35 l0 x99_2).f1, (rd_T35 l0 x99_2).f2, (rd_T35 l0 x99_2).f3⟩ : S35)]) := ⟨_, rfl⟩
                            replace H : (if x24_2 = true then (sizarlaw33_PolicyRest.l0 k2 a2 a3 a4 (Int.tmod (wrap64 (a5)) 1024) (Int.tmod (wrap64 (a6)) 1024) t152 t153 t154 t155 t165 t166 y169 true l0 (l0.length : Int) (wrap64 (x99_2 + 1))) else ((sizarlaw33_fits.f ((rd_T35 l0 x99_2).f0) ((rd_T35 l0 x99_2).f1) ((rd_T35 l0 x99_2).f2) ((rd_T35 l0 x99_2).f3) a2 a3 a4).bind fun t172 => (if t172 = true then (sizarlaw33_PolicyRest.l0 k2 a2 a3 a4 (Int.tmod (wrap64 (a5)) 1024) (Int.tmod (wrap64 (a6)) 1024) t152 t153 t154 t155 t165 t166 y169 (decide ((Int.tmod (wrap64 (a6)) 1024) ≤ (wrap64 ((Int.tmod (wrap64 (a5)) 1024) + ((rd_T35 l0 x99_2).f3))))) l0 (l0.length : Int) (wrap64 (x99_2 + 1))) else (sizarlaw33_PolicyRest.l0 k2 a2 a3 a4 (Int.tmod (wrap64 (a5)) 1024) (Int.tmod (wrap64 (a6)) 1024) t152 t153 t154 t155 t165 t166 y169 false l0 (l0.length : Int) (wrap64 (x99_2 + 1)))))) = some r := by first | (rw [hy169]; with_reducible exact H) | (have H2_ := (Option.bind_some _ _).symm.trans H; rw [hy169]; with_reducible exact H2_) | (have H2_ := (Option.bind_some _ _).symm.trans H; with_reducible exact H2_) | with_reducible exact H | (rw [hy169]; exact H) | exact H
                            have Ny169 := Aside0.mk hy169
                            clear hy169
                            by_cases c47 : x24_2 = true
                            · subst c47
                              have H1 : (sizarlaw33_PolicyRest.l0 k2 a2 a3 a4 (Int.tmod (wrap64 (a5)) 1024) (Int.tmod (wrap64 (a6)) 1024) t152 t153 t154 t155 t165 t166 y169 true l0 (l0.length : Int) (wrap64 (x99_2 + 1))) = some r := by rw [if_pos rfl] at H; exact H
                              clear H
                              have H := H1
                              clear H1
                              have H' := Aside0.mk H
                              clear H
                              have p167 : 0 ≤ (x99_2 : Int) := of_decide_eq_true (by first | (with_reducible assumption) | assumption)
                              have q167 : x99_2 < (l0.length : Int) := of_decide_eq_true (by first | (with_reducible assumption) | assumption)
                              obtain ⟨ad167, e167, hx167_0, hx167_1, hx167_2, hx167_3⟩ := at_T35 HR0.out x99_2 p167 q167
                              cases e167
                              replace hx167_0 := (HB.out.cell (World.block_lt_of_cell? w _ hx167_0)).trans hx167_0
                              replace hx167_1 := (HB.out.cell (World.block_lt_of_cell? w _ hx167_1)).trans hx167_1
                              replace hx167_2 := (HB.out.cell (World.block_lt_of_cell? w _ hx167_2)).trans hx167_2
                              replace hx167_3 := (HB.out.cell (World.block_lt_of_cell? w _ hx167_3)).trans hx167_3
                              replace p167 := eq_true p167
                              replace q167 := eq_true q167
                              go_wp2_with (first | ((with_reducible refine gate_dst (N := 26) rfl ?_); refine box_event ?hg (N := 26) ?hd (cs := #[.int .i64 0, .int .i64 0, .int .i64 0, .int .i64 0]) (t := 35) ?hr ?_; (case hd => rfl); (case hg => rfl); (case hr => first | (go_simp; done) | (go_simp; rfl)); intro gb168 hg w48 hbox hb; have n0_ := Aside0.mk (Kd.R_below (Kd.R_elderB (by (with_reducible repeat (first | apply Kd.R_alloc | apply Kd.R_drewN | apply Kd.R_drew)); exact HO_23.out) gb168 (Nat.le_of_eq hg.symm)) hb); have n1_ := Aside0.mk (below_step (by repeat (first | (with_reducible first | exact HB.out | apply below_alloc | apply pw_below_drewN | apply below_drew1) | exact HB.out)) hb); have n2_ := Aside0.mk (hbox); have n3_ := Aside0.mk ((by rw [hg]; exact (below_size (by repeat (first | (with_reducible first | exact HB.out | apply below_alloc | apply pw_below_drewN | apply below_drew1) | exact HB.out))) : w.heap.size ≤ gb168)); have n4_ := Aside0.mk ((by rw [hg]; exact (below_size (by repeat (first | (with_reducible first | exact HB.out | apply below_alloc | apply pw_below_drewN | apply below_drew1) | exact HB.out))) : w.heap.size ≤ gb168)); clear HO_23; clear HB; have HO_23 := n0_; have HB := n1_; have BK168 := n2_; have GW168 := n3_; have GE168 := n4_; clear n0_ n1_ n2_ n3_ n4_; clear hb hbox hg; have hcz49_0 : w48.cell? ⟨gb168, 0, none⟩ = some (.int .i64 0) := (blk_cell BK168.out 0).trans rfl; have hcz49_1 : w48.cell? ⟨gb168, 1, none⟩ = some (.int .i64 0) := (blk_cell BK168.out 1).trans rfl; have hcz49_2 : w48.cell? ⟨gb168, 2, none⟩ = some (.int .i64 0) := (blk_cell BK168.out 2).trans rfl; have hcz49_3 : w48.cell? ⟨gb168, 3, none⟩ = some (.int .i64 0) := (blk_cell BK168.out 3).trans rfl; have hfz49_0 := blk_frozen BK168.out 0; have hfz49_1 := blk_frozen BK168.out 1; have hfz49_2 := blk_frozen BK168.out 2; have hfz49_3 := blk_frozen BK168.out 3) | ((with_reducible refine gate_builtin (b := .append) (xs := #[.tmp 107, .tmp 109]) rfl ?_); at_builtin; refine Kd.R_append k35 (w0 := w) w.heap.size rfl (.tmp 107) (.tmp 109) 22 35 (.agg #[(.int .i64 0), (.int .i64 0), (.int .i64 0), (.int .i64 0)]) 32 rfl Try.underlying22 info35 rfl (by decide) (by omega) u23 x23_2 (⟨(rd_T35 l0 x99_2).f0, (rd_T35 l0 x99_2).f1, (rd_T35 l0 x99_2).f2, (rd_T35 l0 x99_2).f3⟩ : S35) [.int .i64 ((rd_T35 l0 x99_2).f0), .int .i64 ((rd_T35 l0 x99_2).f1), .int .i64 ((rd_T35 l0 x99_2).f2), .int .i64 ((rd_T35 l0 x99_2).f3)] (fun k_ => k_ ≠ gb168) (fun _ => False) rfl (by first | (go_simp; done) | (go_simp; rfl)) ?aP (fun _ hk => hk.elim) ?aF ?aO ?aB ?aS ?aL ?_; (case aP => exact k35_mkM _ _ _ (⟨(rd_T35 l0 x99_2).f0, (rd_T35 l0 x99_2).f1, (rd_T35 l0 x99_2).f2, (rd_T35 l0 x99_2).f3⟩ : S35)); (case aB => exact (by repeat (first | (with_reducible first | exact HB.out | apply below_alloc | apply pw_below_drewN | apply below_drew1 | refine below_set ?_ GE168.out) | exact HB.out))); (case aF => exact (fun k_ hk => Kd.freshB (g := gb168) (o := .cells #[.int .i64 ((rd_T35 l0 x99_2).f0), .int .i64 ((rd_T35 l0 x99_2).f1), .int .i64 ((rd_T35 l0 x99_2).f2), .int .i64 ((rd_T35 l0 x99_2).f3)] 35 (0, 0)) (by (with_reducible repeat (first | refine blk_drewN ?_ _ | refine blk_drew ?_ | refine blk_alloc ?_ _)); refine blk_put (cs := #[.int .i64 ((rd_T35 l0 x99_2).f0), .int .i64 ((rd_T35 l0 x99_2).f1), .int .i64 ((rd_T35 l0 x99_2).f2), .int .i64 0]) ?_ 3 _ rfl; (with_reducible repeat (first | refine blk_drewN ?_ _ | refine blk_drew ?_ | refine blk_alloc ?_ _)); refine blk_put (cs := #[.int .i64 ((rd_T35 l0 x99_2).f0), .int .i64 ((rd_T35 l0 x99_2).f1), .int .i64 0, .int .i64 0]) ?_ 2 _ rfl; (with_reducible repeat (first | refine blk_drewN ?_ _ | refine blk_drew ?_ | refine blk_alloc ?_ _)); refine blk_put (cs := #[.int .i64 ((rd_T35 l0 x99_2).f0), .int .i64 0, .int .i64 0, .int .i64 0]) ?_ 1 _ rfl; (with_reducible repeat (first | refine blk_drewN ?_ _ | refine blk_drew ?_ | refine blk_alloc ?_ _)); refine blk_put (cs := #[.int .i64 0, .int .i64 0, .int .i64 0, .int .i64 0]) ?_ 0 _ rfl; (with_reducible repeat (first | refine blk_drewN ?_ _ | refine blk_drew ?_ | refine blk_alloc ?_ _)); exact BK168.out) k_ hk)); (case aO => exact (by (with_reducible repeat (first | apply Kd.R_alloc | apply Kd.R_drewN | apply Kd.R_drew)); exact Kd.R_mono (Kd.R_far (p := ⟨gb168, 3, none⟩) (Kd.R_far (p := ⟨gb168, 2, none⟩) (Kd.R_far (p := ⟨gb168, 1, none⟩) (Kd.R_far (p := ⟨gb168, 0, none⟩) (Kd.R_mono HO_23.out (fun k_ hk => (⟨hk, hk.2⟩ : _ ∧ k_ ≠ gb168))) (fun _ hk => hk.2) (.int .i64 ((rd_T35 l0 x99_2).f0))) (fun _ hk => hk.2) (.int .i64 ((rd_T35 l0 x99_2).f1))) (fun _ hk => hk.2) (.int .i64 ((rd_T35 l0 x99_2).f2))) (fun _ hk => hk.2) (.int .i64 ((rd_T35 l0 x99_2).f3))) (fun _ hk => hk.1.2))); (case aS => exact (below_size (by repeat (first | (with_reducible first | exact HB.out | apply below_alloc | apply pw_below_drewN | apply below_drew1 | refine below_set ?_ GE168.out) | exact HB.out)))); (case aL => have := LMc46.out; omega); intro v170 w50 ho hb hg hat; rw [← Ny169.out] at ho; have n0_ := Aside0.mk (blk_grown (g := gb168) (o := .cells #[.int .i64 ((rd_T35 l0 x99_2).f0), .int .i64 ((rd_T35 l0 x99_2).f1), .int .i64 ((rd_T35 l0 x99_2).f2), .int .i64 ((rd_T35 l0 x99_2).f3)] 35 (0, 0)) (by (with_reducible repeat (first | refine blk_drewN ?_ _ | refine blk_drew ?_ | refine blk_alloc ?_ _)); refine blk_put (cs := #[.int .i64 ((rd_T35 l0 x99_2).f0), .int .i64 ((rd_T35 l0 x99_2).f1), .int .i64 ((rd_T35 l0 x99_2).f2), .int .i64 0]) ?_ 3 _ rfl; (with_reducible repeat (first | refine blk_drewN ?_ _ | refine blk_drew ?_ | refine blk_alloc ?_ _)); refine blk_put (cs := #[.int .i64 ((rd_T35 l0 x99_2).f0), .int .i64 ((rd_T35 l0 x99_2).f1), .int .i64 0, .int .i64 0]) ?_ 2 _ rfl; (with_reducible repeat (first | refine blk_drewN ?_ _ | refine blk_drew ?_ | refine blk_alloc ?_ _)); refine blk_put (cs := #[.int .i64 ((rd_T35 l0 x99_2).f0), .int .i64 0, .int .i64 0, .int .i64 0]) ?_ 1 _ rfl; (with_reducible repeat (first | refine blk_drewN ?_ _ | refine blk_drew ?_ | refine blk_alloc ?_ _)); refine blk_put (cs := #[.int .i64 0, .int .i64 0, .int .i64 0, .int .i64 0]) ?_ 0 _ rfl; (with_reducible repeat (first | refine blk_drewN ?_ _ | refine blk_drew ?_ | refine blk_alloc ?_ _)); exact BK168.out) hg (Kd.R_away HO_23.out (fun _ hk => hk.2))); have n1_ := Aside0.mk (hb); have n2_ := Aside0.mk (ho); clear BK168; clear HB; clear HO_23; have BK168 := n0_; have HB := n1_; have HO171 := n2_; clear n0_ n1_ n2_; clear ho hb hg hat))
                              go_roundg k2
                              case measure => have := HJ9.out; have := HK2.out; omega
                              case rel => exact ⟨(y169), (true), (wrap64 (x99_2 + 1)), (by first | rfl | (simp; done) | (simp [*]; done)), (by first | rfl | (simp; done) | (simp [*]; done)), H', ⟨by have := HJ9.out; have := HK2.out; omega⟩, ⟨by (with_reducible repeat (first | apply Kd.R_alloc | apply Kd.R_drewN | apply Kd.R_drew)); exact Kd.R_mono HO171.out (fun _ hk => trivial)⟩, ⟨by repeat (first | (with_reducible first | exact HB.out | apply below_alloc | apply pw_below_drewN | apply below_drew1 | refine below_set ?_ GE168.out) | exact HB.out)⟩⟩
                            · replace c47 := Bool.eq_false_iff.mpr c47
                              subst c47
                              have H1 : ((sizarlaw33_fits.f ((rd_T35 l0 x99_2).f0) ((rd_T35 l0 x99_2).f1) ((rd_T35 l0 x99_2).f2) ((rd_T35 l0 x99_2).f3) a2 a3 a4).bind fun t172 => (if t172 = true then (sizarlaw33_PolicyRest.l0 k2 a2 a3 a4 (Int.tmod (wrap64 (a5)) 1024) (Int.tmod (wrap64 (a6)) 1024) t152 t153 t154 t155 t165 t166 y169 (decide ((Int.tmod (wrap64 (a6)) 1024) ≤ (wrap64 ((Int.tmod (wrap64 (a5)) 1024) + ((rd_T35 l0 x99_2).f3))))) l0 (l0.length : Int) (wrap64 (x99_2 + 1))) else (sizarlaw33_PolicyRest.l0 k2 a2 a3 a4 (Int.tmod (wrap64 (a5)) 1024) (Int.tmod (wrap64 (a6)) 1024) t152 t153 t154 t155 t165 t166 y169 false l0 (l0.length : Int) (wrap64 (x99_2 + 1))))) = some r := by rw [if_neg (show ¬ (false = true) by decide)] at H; exact H
                              clear H
                              have H := H1
                              clear H1
                              replace H := Option.bind_eq_some_iff.mp H
                              obtain ⟨t172, A510, H⟩ := H
                              replace H : (if t172 = true then (sizarlaw33_PolicyRest.l0 k2 a2 a3 a4 (Int.tmod (wrap64 (a5)) 1024) (Int.tmod (wrap64 (a6)) 1024) t152 t153 t154 t155 t165 t166 y169 (decide ((Int.tmod (wrap64 (a6)) 1024) ≤ (wrap64 ((Int.tmod (wrap64 (a5)) 1024) + ((rd_T35 l0 x99_2).f3))))) l0 (l0.length : Int) (wrap64 (x99_2 + 1))) else (sizarlaw33_PolicyRest.l0 k2 a2 a3 a4 (Int.tmod (wrap64 (a5)) 1024) (Int.tmod (wrap64 (a6)) 1024) t152 t153 t154 t155 t165 t166 y169 false l0 (l0.length : Int) (wrap64 (x99_2 + 1)))) = some r := H
                              have A51 := Aside0.mk A510
                              clear A510
                              by_cases c52 : t172 = true
                              · subst c52
                                have H1 : (sizarlaw33_PolicyRest.l0 k2 a2 a3 a4 (Int.tmod (wrap64 (a5)) 1024) (Int.tmod (wrap64 (a6)) 1024) t152 t153 t154 t155 t165 t166 y169 (decide ((Int.tmod (wrap64 (a6)) 1024) ≤ (wrap64 ((Int.tmod (wrap64 (a5)) 1024) + ((rd_T35 l0 x99_2).f3))))) l0 (l0.length : Int) (wrap64 (x99_2 + 1))) = some r := by rw [if_pos rfl] at H; exact H
                                clear H
                                have H := H1
                                clear H1
                                have H' := Aside0.mk H
                                clear H
                                have p167 : 0 ≤ (x99_2 : Int) := of_decide_eq_true (by first | (with_reducible assumption) | assumption)
                                have q167 : x99_2 < (l0.length : Int) := of_decide_eq_true (by first | (with_reducible assumption) | assumption)
                                obtain ⟨ad167, e167, hx167_0, hx167_1, hx167_2, hx167_3⟩ := at_T35 HR0.out x99_2 p167 q167
                                cases e167
                                replace hx167_0 := (HB.out.cell (World.block_lt_of_cell? w _ hx167_0)).trans hx167_0
                                replace hx167_1 := (HB.out.cell (World.block_lt_of_cell? w _ hx167_1)).trans hx167_1
                                replace hx167_2 := (HB.out.cell (World.block_lt_of_cell? w _ hx167_2)).trans hx167_2
                                replace hx167_3 := (HB.out.cell (World.block_lt_of_cell? w _ hx167_3)).trans hx167_3
                                replace p167 := eq_true p167
                                replace q167 := eq_true q167
                                go_wp2_with (first | ((with_reducible refine gate_dst (N := 26) rfl ?_); refine box_event ?hg (N := 26) ?hd (cs := #[.int .i64 0, .int .i64 0, .int .i64 0, .int .i64 0]) (t := 35) ?hr ?_; (case hd => rfl); (case hg => rfl); (case hr => first | (go_simp; done) | (go_simp; rfl)); intro gb168 hg w53 hbox hb; have n0_ := Aside0.mk (Kd.R_below (Kd.R_elderB (by (with_reducible repeat (first | apply Kd.R_alloc | apply Kd.R_drewN | apply Kd.R_drew)); exact HO_23.out) gb168 (Nat.le_of_eq hg.symm)) hb); have n1_ := Aside0.mk (below_step (by repeat (first | (with_reducible first | exact HB.out | apply below_alloc | apply pw_below_drewN | apply below_drew1) | exact HB.out)) hb); have n2_ := Aside0.mk (hbox); have n3_ := Aside0.mk ((by rw [hg]; exact (below_size (by repeat (first | (with_reducible first | exact HB.out | apply below_alloc | apply pw_below_drewN | apply below_drew1) | exact HB.out))) : w.heap.size ≤ gb168)); have n4_ := Aside0.mk ((by rw [hg]; exact (below_size (by repeat (first | (with_reducible first | exact HB.out | apply below_alloc | apply pw_below_drewN | apply below_drew1) | exact HB.out))) : w.heap.size ≤ gb168)); clear HO_23; clear HB; have HO_23 := n0_; have HB := n1_; have BK168 := n2_; have GW168 := n3_; have GE168 := n4_; clear n0_ n1_ n2_ n3_ n4_; clear hb hbox hg; have hcz54_0 : w53.cell? ⟨gb168, 0, none⟩ = some (.int .i64 0) := (blk_cell BK168.out 0).trans rfl; have hcz54_1 : w53.cell? ⟨gb168, 1, none⟩ = some (.int .i64 0) := (blk_cell BK168.out 1).trans rfl; have hcz54_2 : w53.cell? ⟨gb168, 2, none⟩ = some (.int .i64 0) := (blk_cell BK168.out 2).trans rfl; have hcz54_3 : w53.cell? ⟨gb168, 3, none⟩ = some (.int .i64 0) := (blk_cell BK168.out 3).trans rfl; have hfz54_0 := blk_frozen BK168.out 0; have hfz54_1 := blk_frozen BK168.out 1; have hfz54_2 := blk_frozen BK168.out 2; have hfz54_3 := blk_frozen BK168.out 3) | ((with_reducible refine gate_builtin (b := .append) (xs := #[.tmp 107, .tmp 109]) rfl ?_); at_builtin; refine Kd.R_append k35 (w0 := w) w.heap.size rfl (.tmp 107) (.tmp 109) 22 35 (.agg #[(.int .i64 0), (.int .i64 0), (.int .i64 0), (.int .i64 0)]) 32 rfl Try.underlying22 info35 rfl (by decide) (by omega) u23 x23_2 (⟨(rd_T35 l0 x99_2).f0, (rd_T35 l0 x99_2).f1, (rd_T35 l0 x99_2).f2, (rd_T35 l0 x99_2).f3⟩ : S35) [.int .i64 ((rd_T35 l0 x99_2).f0), .int .i64 ((rd_T35 l0 x99_2).f1), .int .i64 ((rd_T35 l0 x99_2).f2), .int .i64 ((rd_T35 l0 x99_2).f3)] (fun k_ => k_ ≠ gb168) (fun _ => False) rfl (by first | (go_simp; done) | (go_simp; rfl)) ?aP (fun _ hk => hk.elim) ?aF ?aO ?aB ?aS ?aL ?_; (case aP => exact k35_mkM _ _ _ (⟨(rd_T35 l0 x99_2).f0, (rd_T35 l0 x99_2).f1, (rd_T35 l0 x99_2).f2, (rd_T35 l0 x99_2).f3⟩ : S35)); (case aB => exact (by repeat (first | (with_reducible first | exact HB.out | apply below_alloc | apply pw_below_drewN | apply below_drew1 | refine below_set ?_ GE168.out) | exact HB.out))); (case aF => exact (fun k_ hk => Kd.freshB (g := gb168) (o := .cells #[.int .i64 ((rd_T35 l0 x99_2).f0), .int .i64 ((rd_T35 l0 x99_2).f1), .int .i64 ((rd_T35 l0 x99_2).f2), .int .i64 ((rd_T35 l0 x99_2).f3)] 35 (0, 0)) (by (with_reducible repeat (first | refine blk_drewN ?_ _ | refine blk_drew ?_ | refine blk_alloc ?_ _)); refine blk_put (cs := #[.int .i64 ((rd_T35 l0 x99_2).f0), .int .i64 ((rd_T35 l0 x99_2).f1), .int .i64 ((rd_T35 l0 x99_2).f2), .int .i64 0]) ?_ 3 _ rfl; (with_reducible repeat (first | refine blk_drewN ?_ _ | refine blk_drew ?_ | refine blk_alloc ?_ _)); refine blk_put (cs := #[.int .i64 ((rd_T35 l0 x99_2).f0), .int .i64 ((rd_T35 l0 x99_2).f1), .int .i64 0, .int .i64 0]) ?_ 2 _ rfl; (with_reducible repeat (first | refine blk_drewN ?_ _ | refine blk_drew ?_ | refine blk_alloc ?_ _)); refine blk_put (cs := #[.int .i64 ((rd_T35 l0 x99_2).f0), .int .i64 0, .int .i64 0, .int .i64 0]) ?_ 1 _ rfl; (with_reducible repeat (first | refine blk_drewN ?_ _ | refine blk_drew ?_ | refine blk_alloc ?_ _)); refine blk_put (cs := #[.int .i64 0, .int .i64 0, .int .i64 0, .int .i64 0]) ?_ 0 _ rfl; (with_reducible repeat (first | refine blk_drewN ?_ _ | refine blk_drew ?_ | refine blk_alloc ?_ _)); exact BK168.out) k_ hk)); (case aO => exact (by (with_reducible repeat (first | apply Kd.R_alloc | apply Kd.R_drewN | apply Kd.R_drew)); exact Kd.R_mono (Kd.R_far (p := ⟨gb168, 3, none⟩) (Kd.R_far (p := ⟨gb168, 2, none⟩) (Kd.R_far (p := ⟨gb168, 1, none⟩) (Kd.R_far (p := ⟨gb168, 0, none⟩) (Kd.R_mono HO_23.out (fun k_ hk => (⟨hk, hk.2⟩ : _ ∧ k_ ≠ gb168))) (fun _ hk => hk.2) (.int .i64 ((rd_T35 l0 x99_2).f0))) (fun _ hk => hk.2) (.int .i64 ((rd_T35 l0 x99_2).f1))) (fun _ hk => hk.2) (.int .i64 ((rd_T35 l0 x99_2).f2))) (fun _ hk => hk.2) (.int .i64 ((rd_T35 l0 x99_2).f3))) (fun _ hk => hk.1.2))); (case aS => exact (below_size (by repeat (first | (with_reducible first | exact HB.out | apply below_alloc | apply pw_below_drewN | apply below_drew1 | refine below_set ?_ GE168.out) | exact HB.out)))); (case aL => have := LMc46.out; omega); intro v170 w55 ho hb hg hat; rw [← Ny169.out] at ho; have n0_ := Aside0.mk (blk_grown (g := gb168) (o := .cells #[.int .i64 ((rd_T35 l0 x99_2).f0), .int .i64 ((rd_T35 l0 x99_2).f1), .int .i64 ((rd_T35 l0 x99_2).f2), .int .i64 ((rd_T35 l0 x99_2).f3)] 35 (0, 0)) (by (with_reducible repeat (first | refine blk_drewN ?_ _ | refine blk_drew ?_ | refine blk_alloc ?_ _)); refine blk_put (cs := #[.int .i64 ((rd_T35 l0 x99_2).f0), .int .i64 ((rd_T35 l0 x99_2).f1), .int .i64 ((rd_T35 l0 x99_2).f2), .int .i64 0]) ?_ 3 _ rfl; (with_reducible repeat (first | refine blk_drewN ?_ _ | refine blk_drew ?_ | refine blk_alloc ?_ _)); refine blk_put (cs := #[.int .i64 ((rd_T35 l0 x99_2).f0), .int .i64 ((rd_T35 l0 x99_2).f1), .int .i64 0, .int .i64 0]) ?_ 2 _ rfl; (with_reducible repeat (first | refine blk_drewN ?_ _ | refine blk_drew ?_ | refine blk_alloc ?_ _)); refine blk_put (cs := #[.int .i64 ((rd_T35 l0 x99_2).f0), .int .i64 0, .int .i64 0, .int .i64 0]) ?_ 1 _ rfl; (with_reducible repeat (first | refine blk_drewN ?_ _ | refine blk_drew ?_ | refine blk_alloc ?_ _)); refine blk_put (cs := #[.int .i64 0, .int .i64 0, .int .i64 0, .int .i64 0]) ?_ 0 _ rfl; (with_reducible repeat (first | refine blk_drewN ?_ _ | refine blk_drew ?_ | refine blk_alloc ?_ _)); exact BK168.out) hg (Kd.R_away HO_23.out (fun _ hk => hk.2))); have n1_ := Aside0.mk (hb); have n2_ := Aside0.mk (ho); clear BK168; clear HB; clear HO_23; have BK168 := n0_; have HB := n1_; have HO171 := n2_; clear n0_ n1_ n2_; clear ho hb hg hat; have hcz56_0 : w55.cell? ⟨gb168, 0, none⟩ = some (.int .i64 ((rd_T35 l0 x99_2).f0)) := (blk_cell BK168.out 0).trans rfl; have hcz56_1 : w55.cell? ⟨gb168, 1, none⟩ = some (.int .i64 ((rd_T35 l0 x99_2).f1)) := (blk_cell BK168.out 1).trans rfl; have hcz56_2 : w55.cell? ⟨gb168, 2, none⟩ = some (.int .i64 ((rd_T35 l0 x99_2).f2)) := (blk_cell BK168.out 2).trans rfl; have hcz56_3 : w55.cell? ⟨gb168, 3, none⟩ = some (.int .i64 ((rd_T35 l0 x99_2).f3)) := (blk_cell BK168.out 3).trans rfl; have hfz56_0 := blk_frozen BK168.out 0; have hfz56_1 := blk_frozen BK168.out 1; have hfz56_2 := blk_frozen BK168.out 2; have hfz56_3 := blk_frozen BK168.out 3) | (go_at_call 20; (with_reducible refine (sizarlaw33_fits.calls ((rd_T35 l0 x99_2).f0) ((rd_T35 l0 x99_2).f1) ((rd_T35 l0 x99_2).f2) ((rd_T35 l0 x99_2).f3) a2 a3 a4 true _ A51.out).mono ?_); rintro e w57 ⟨rfl, hb⟩; have n0_ := Aside0.mk (Kd.R_below (by (with_reducible repeat (first | apply Kd.R_alloc | apply Kd.R_drewN | apply Kd.R_drew)); exact HO171.out) hb); have n1_ := Aside0.mk (blk_below (g := gb168) (o := .cells #[.int .i64 ((rd_T35 l0 x99_2).f0), .int .i64 ((rd_T35 l0 x99_2).f1), .int .i64 ((rd_T35 l0 x99_2).f2), .int .i64 ((rd_T35 l0 x99_2).f3)] 35 (0, 0)) (by (with_reducible repeat (first | refine blk_drewN ?_ _ | refine blk_drew ?_ | refine blk_alloc ?_ _)); exact BK168.out) hb); have n2_ := Aside0.mk (below_step (by repeat (first | (with_reducible first | exact HB.out | apply below_alloc | apply pw_below_drewN | apply below_drew1 | refine below_set ?_ GE168.out) | exact HB.out)) hb); clear HO171; clear BK168; clear HB; have HO171 := n0_; have BK168 := n1_; have HB := n2_; clear n0_ n1_ n2_; (try clear hb); (try clear hb2); (try clear hk); (try clear hi); have hcz58_0 : w57.cell? ⟨gb168, 0, none⟩ = some (.int .i64 ((rd_T35 l0 x99_2).f0)) := (blk_cell BK168.out 0).trans rfl; have hcz58_1 : w57.cell? ⟨gb168, 1, none⟩ = some (.int .i64 ((rd_T35 l0 x99_2).f1)) := (blk_cell BK168.out 1).trans rfl; have hcz58_2 : w57.cell? ⟨gb168, 2, none⟩ = some (.int .i64 ((rd_T35 l0 x99_2).f2)) := (blk_cell BK168.out 2).trans rfl; have hcz58_3 : w57.cell? ⟨gb168, 3, none⟩ = some (.int .i64 ((rd_T35 l0 x99_2).f3)) := (blk_cell BK168.out 3).trans rfl; have hfz58_0 := blk_frozen BK168.out 0; have hfz58_1 := blk_frozen BK168.out 1; have hfz58_2 := blk_frozen BK168.out 2; have hfz58_3 := blk_frozen BK168.out 3))
                                go_roundg k2
                                case measure => have := HJ9.out; have := HK2.out; omega
                                case rel => exact ⟨(y169), (decide ((Int.tmod (wrap64 (a6)) 1024) ≤ (wrap64 ((Int.tmod (wrap64 (a5)) 1024) + ((rd_T35 l0 x99_2).f3))))), (wrap64 (x99_2 + 1)), (by first | rfl | (simp; done) | (simp [*]; done)), (by first | rfl | (simp; done) | (simp [*]; done)), H', ⟨by have := HJ9.out; have := HK2.out; omega⟩, ⟨by (with_reducible repeat (first | apply Kd.R_alloc | apply Kd.R_drewN | apply Kd.R_drew)); exact Kd.R_mono HO171.out (fun _ hk => trivial)⟩, ⟨by repeat (first | (with_reducible first | exact HB.out | apply below_alloc | apply pw_below_drewN | apply below_drew1 | refine below_set ?_ GE168.out) | exact HB.out)⟩⟩
                              · replace c52 := Bool.eq_false_iff.mpr c52
                                subst c52
                                have H1 : (sizarlaw33_PolicyRest.l0 k2 a2 a3 a4 (Int.tmod (wrap64 (a5)) 1024) (Int.tmod (wrap64 (a6)) 1024) t152 t153 t154 t155 t165 t166 y169 false l0 (l0.length : Int) (wrap64 (x99_2 + 1))) = some r := by rw [if_neg (show ¬ (false = true) by decide)] at H; exact H
                                clear H
                                have H := H1
                                clear H1
                                have H' := Aside0.mk H
                                clear H
                                have p167 : 0 ≤ (x99_2 : Int) := of_decide_eq_true (by first | (with_reducible assumption) | assumption)
                                have q167 : x99_2 < (l0.length : Int) := of_decide_eq_true (by first | (with_reducible assumption) | assumption)
                                obtain ⟨ad167, e167, hx167_0, hx167_1, hx167_2, hx167_3⟩ := at_T35 HR0.out x99_2 p167 q167
                                cases e167
                                replace hx167_0 := (HB.out.cell (World.block_lt_of_cell? w _ hx167_0)).trans hx167_0
                                replace hx167_1 := (HB.out.cell (World.block_lt_of_cell? w _ hx167_1)).trans hx167_1
                                replace hx167_2 := (HB.out.cell (World.block_lt_of_cell? w _ hx167_2)).trans hx167_2
                                replace hx167_3 := (HB.out.cell (World.block_lt_of_cell? w _ hx167_3)).trans hx167_3
                                replace p167 := eq_true p167
                                replace q167 := eq_true q167
                                go_wp2_with (first | ((with_reducible refine gate_dst (N := 26) rfl ?_); refine box_event ?hg (N := 26) ?hd (cs := #[.int .i64 0, .int .i64 0, .int .i64 0, .int .i64 0]) (t := 35) ?hr ?_; (case hd => rfl); (case hg => rfl); (case hr => first | (go_simp; done) | (go_simp; rfl)); intro gb168 hg w59 hbox hb; have n0_ := Aside0.mk (Kd.R_below (Kd.R_elderB (by (with_reducible repeat (first | apply Kd.R_alloc | apply Kd.R_drewN | apply Kd.R_drew)); exact HO_23.out) gb168 (Nat.le_of_eq hg.symm)) hb); have n1_ := Aside0.mk (below_step (by repeat (first | (with_reducible first | exact HB.out | apply below_alloc | apply pw_below_drewN | apply below_drew1) | exact HB.out)) hb); have n2_ := Aside0.mk (hbox); have n3_ := Aside0.mk ((by rw [hg]; exact (below_size (by repeat (first | (with_reducible first | exact HB.out | apply below_alloc | apply pw_below_drewN | apply below_drew1) | exact HB.out))) : w.heap.size ≤ gb168)); have n4_ := Aside0.mk ((by rw [hg]; exact (below_size (by repeat (first | (with_reducible first | exact HB.out | apply below_alloc | apply pw_below_drewN | apply below_drew1) | exact HB.out))) : w.heap.size ≤ gb168)); clear HO_23; clear HB; have HO_23 := n0_; have HB := n1_; have BK168 := n2_; have GW168 := n3_; have GE168 := n4_; clear n0_ n1_ n2_ n3_ n4_; clear hb hbox hg; have hcz60_0 : w59.cell? ⟨gb168, 0, none⟩ = some (.int .i64 0) := (blk_cell BK168.out 0).trans rfl; have hcz60_1 : w59.cell? ⟨gb168, 1, none⟩ = some (.int .i64 0) := (blk_cell BK168.out 1).trans rfl; have hcz60_2 : w59.cell? ⟨gb168, 2, none⟩ = some (.int .i64 0) := (blk_cell BK168.out 2).trans rfl; have hcz60_3 : w59.cell? ⟨gb168, 3, none⟩ = some (.int .i64 0) := (blk_cell BK168.out 3).trans rfl; have hfz60_0 := blk_frozen BK168.out 0; have hfz60_1 := blk_frozen BK168.out 1; have hfz60_2 := blk_frozen BK168.out 2; have hfz60_3 := blk_frozen BK168.out 3) | ((with_reducible refine gate_builtin (b := .append) (xs := #[.tmp 107, .tmp 109]) rfl ?_); at_builtin; refine Kd.R_append k35 (w0 := w) w.heap.size rfl (.tmp 107) (.tmp 109) 22 35 (.agg #[(.int .i64 0), (.int .i64 0), (.int .i64 0), (.int .i64 0)]) 32 rfl Try.underlying22 info35 rfl (by decide) (by omega) u23 x23_2 (⟨(rd_T35 l0 x99_2).f0, (rd_T35 l0 x99_2).f1, (rd_T35 l0 x99_2).f2, (rd_T35 l0 x99_2).f3⟩ : S35) [.int .i64 ((rd_T35 l0 x99_2).f0), .int .i64 ((rd_T35 l0 x99_2).f1), .int .i64 ((rd_T35 l0 x99_2).f2), .int .i64 ((rd_T35 l0 x99_2).f3)] (fun k_ => k_ ≠ gb168) (fun _ => False) rfl (by first | (go_simp; done) | (go_simp; rfl)) ?aP (fun _ hk => hk.elim) ?aF ?aO ?aB ?aS ?aL ?_; (case aP => exact k35_mkM _ _ _ (⟨(rd_T35 l0 x99_2).f0, (rd_T35 l0 x99_2).f1, (rd_T35 l0 x99_2).f2, (rd_T35 l0 x99_2).f3⟩ : S35)); (case aB => exact (by repeat (first | (with_reducible first | exact HB.out | apply below_alloc | apply pw_below_drewN | apply below_drew1 | refine below_set ?_ GE168.out) | exact HB.out))); (case aF => exact (fun k_ hk => Kd.freshB (g := gb168) (o := .cells #[.int .i64 ((rd_T35 l0 x99_2).f0), .int .i64 ((rd_T35 l0 x99_2).f1), .int .i64 ((rd_T35 l0 x99_2).f2), .int .i64 ((rd_T35 l0 x99_2).f3)] 35 (0, 0)) (by (with_reducible repeat (first | refine blk_drewN ?_ _ | refine blk_drew ?_ | refine blk_alloc ?_ _)); refine blk_put (cs := #[.int .i64 ((rd_T35 l0 x99_2).f0), .int .i64 ((rd_T35 l0 x99_2).f1), .int .i64 ((rd_T35 l0 x99_2).f2), .int .i64 0]) ?_ 3 _ rfl; (with_reducible repeat (first | refine blk_drewN ?_ _ | refine blk_drew ?_ | refine blk_alloc ?_ _)); refine blk_put (cs := #[.int .i64 ((rd_T35 l0 x99_2).f0), .int .i64 ((rd_T35 l0 x99_2).f1), .int .i64 0, .int .i64 0]) ?_ 2 _ rfl; (with_reducible repeat (first | refine blk_drewN ?_ _ | refine blk_drew ?_ | refine blk_alloc ?_ _)); refine blk_put (cs := #[.int .i64 ((rd_T35 l0 x99_2).f0), .int .i64 0, .int .i64 0, .int .i64 0]) ?_ 1 _ rfl; (with_reducible repeat (first | refine blk_drewN ?_ _ | refine blk_drew ?_ | refine blk_alloc ?_ _)); refine blk_put (cs := #[.int .i64 0, .int .i64 0, .int .i64 0, .int .i64 0]) ?_ 0 _ rfl; (with_reducible repeat (first | refine blk_drewN ?_ _ | refine blk_drew ?_ | refine blk_alloc ?_ _)); exact BK168.out) k_ hk)); (case aO => exact (by (with_reducible repeat (first | apply Kd.R_alloc | apply Kd.R_drewN | apply Kd.R_drew)); exact Kd.R_mono (Kd.R_far (p := ⟨gb168, 3, none⟩) (Kd.R_far (p := ⟨gb168, 2, none⟩) (Kd.R_far (p := ⟨gb168, 1, none⟩) (Kd.R_far (p := ⟨gb168, 0, none⟩) (Kd.R_mono HO_23.out (fun k_ hk => (⟨hk, hk.2⟩ : _ ∧ k_ ≠ gb168))) (fun _ hk => hk.2) (.int .i64 ((rd_T35 l0 x99_2).f0))) (fun _ hk => hk.2) (.int .i64 ((rd_T35 l0 x99_2).f1))) (fun _ hk => hk.2) (.int .i64 ((rd_T35 l0 x99_2).f2))) (fun _ hk => hk.2) (.int .i64 ((rd_T35 l0 x99_2).f3))) (fun _ hk => hk.1.2))); (case aS => exact (below_size (by repeat (first | (with_reducible first | exact HB.out | apply below_alloc | apply pw_below_drewN | apply below_drew1 | refine below_set ?_ GE168.out) | exact HB.out)))); (case aL => have := LMc46.out; omega); intro v170 w61 ho hb hg hat; rw [← Ny169.out] at ho; have n0_ := Aside0.mk (blk_grown (g := gb168) (o := .cells #[.int .i64 ((rd_T35 l0 x99_2).f0), .int .i64 ((rd_T35 l0 x99_2).f1), .int .i64 ((rd_T35 l0 x99_2).f2), .int .i64 ((rd_T35 l0 x99_2).f3)] 35 (0, 0)) (by (with_reducible repeat (first | refine blk_drewN ?_ _ | refine blk_drew ?_ | refine blk_alloc ?_ _)); refine blk_put (cs := #[.int .i64 ((rd_T35 l0 x99_2).f0), .int .i64 ((rd_T35 l0 x99_2).f1), .int .i64 ((rd_T35 l0 x99_2).f2), .int .i64 0]) ?_ 3 _ rfl; (with_reducible repeat (first | refine blk_drewN ?_ _ | refine blk_drew ?_ | refine blk_alloc ?_ _)); refine blk_put (cs := #[.int .i64 ((rd_T35 l0 x99_2).f0), .int .i64 ((rd_T35 l0 x99_2).f1), .int .i64 0, .int .i64 0]) ?_ 2 _ rfl; (with_reducible repeat (first | refine blk_drewN ?_ _ | refine blk_drew ?_ | refine blk_alloc ?_ _)); refine blk_put (cs := #[.int .i64 ((rd_T35 l0 x99_2).f0), .int .i64 0, .int .i64 0, .int .i64 0]) ?_ 1 _ rfl; (with_reducible repeat (first | refine blk_drewN ?_ _ | refine blk_drew ?_ | refine blk_alloc ?_ _)); refine blk_put (cs := #[.int .i64 0, .int .i64 0, .int .i64 0, .int .i64 0]) ?_ 0 _ rfl; (with_reducible repeat (first | refine blk_drewN ?_ _ | refine blk_drew ?_ | refine blk_alloc ?_ _)); exact BK168.out) hg (Kd.R_away HO_23.out (fun _ hk => hk.2))); have n1_ := Aside0.mk (hb); have n2_ := Aside0.mk (ho); clear BK168; clear HB; clear HO_23; have BK168 := n0_; have HB := n1_; have HO171 := n2_; clear n0_ n1_ n2_; clear ho hb hg hat; have hcz62_0 : w61.cell? ⟨gb168, 0, none⟩ = some (.int .i64 ((rd_T35 l0 x99_2).f0)) := (blk_cell BK168.out 0).trans rfl; have hcz62_1 : w61.cell? ⟨gb168, 1, none⟩ = some (.int .i64 ((rd_T35 l0 x99_2).f1)) := (blk_cell BK168.out 1).trans rfl; have hcz62_2 : w61.cell? ⟨gb168, 2, none⟩ = some (.int .i64 ((rd_T35 l0 x99_2).f2)) := (blk_cell BK168.out 2).trans rfl; have hcz62_3 : w61.cell? ⟨gb168, 3, none⟩ = some (.int .i64 ((rd_T35 l0 x99_2).f3)) := (blk_cell BK168.out 3).trans rfl; have hfz62_0 := blk_frozen BK168.out 0; have hfz62_1 := blk_frozen BK168.out 1; have hfz62_2 := blk_frozen BK168.out 2; have hfz62_3 := blk_frozen BK168.out 3) | (go_at_call 20; (with_reducible refine (sizarlaw33_fits.calls ((rd_T35 l0 x99_2).f0) ((rd_T35 l0 x99_2).f1) ((rd_T35 l0 x99_2).f2) ((rd_T35 l0 x99_2).f3) a2 a3 a4 false _ A51.out).mono ?_); rintro e w63 ⟨rfl, hb⟩; have n0_ := Aside0.mk (Kd.R_below (by (with_reducible repeat (first | apply Kd.R_alloc | apply Kd.R_drewN | apply Kd.R_drew)); exact HO171.out) hb); have n1_ := Aside0.mk (blk_below (g := gb168) (o := .cells #[.int .i64 ((rd_T35 l0 x99_2).f0), .int .i64 ((rd_T35 l0 x99_2).f1), .int .i64 ((rd_T35 l0 x99_2).f2), .int .i64 ((rd_T35 l0 x99_2).f3)] 35 (0, 0)) (by (with_reducible repeat (first | refine blk_drewN ?_ _ | refine blk_drew ?_ | refine blk_alloc ?_ _)); exact BK168.out) hb); have n2_ := Aside0.mk (below_step (by repeat (first | (with_reducible first | exact HB.out | apply below_alloc | apply pw_below_drewN | apply below_drew1 | refine below_set ?_ GE168.out) | exact HB.out)) hb); clear HO171; clear BK168; clear HB; have HO171 := n0_; have BK168 := n1_; have HB := n2_; clear n0_ n1_ n2_; (try clear hb); (try clear hb2); (try clear hk); (try clear hi)))
                                go_roundg k2
                                case measure => have := HJ9.out; have := HK2.out; omega
                                case rel => exact ⟨(y169), (false), (wrap64 (x99_2 + 1)), (by first | rfl | (simp; done) | (simp [*]; done)), (by first | rfl | (simp; done) | (simp [*]; done)), H', ⟨by have := HJ9.out; have := HK2.out; omega⟩, ⟨by (with_reducible repeat (first | apply Kd.R_alloc | apply Kd.R_drewN | apply Kd.R_drew)); exact Kd.R_mono HO171.out (fun _ hk => trivial)⟩, ⟨by repeat (first | (with_reducible first | exact HB.out | apply below_alloc | apply pw_below_drewN | apply below_drew1 | refine below_set ?_ GE168.out) | exact HB.out)⟩⟩
                          · rw [if_neg c46] at H
                            exact absurd H (by simp)
                        · rw [if_neg c45] at H
                          have c45b0 : (((rd_T35 l0 x99_2).f0) == a2) = false := beq_eq_false_iff_ne.mpr c45
                          have c45b1 : (((rd_T35 l0 x99_2).f0) != a2) = true := bne_iff_ne.mpr c45
                          by_cases c64 : x24_2 = true
                          · subst c64
                            have H1 : (sizarlaw33_PolicyRest.l0 k2 a2 a3 a4 (Int.tmod (wrap64 (a5)) 1024) (Int.tmod (wrap64 (a6)) 1024) t152 t153 t154 t155 t165 t166 x23_2 true l0 (l0.length : Int) (wrap64 (x99_2 + 1))) = some r := by rw [if_pos rfl] at H; exact H
                            clear H
                            have H := H1
                            clear H1
                            have H' := Aside0.mk H
                            clear H
                            have p167 : 0 ≤ (x99_2 : Int) := of_decide_eq_true (by first | (with_reducible assumption) | assumption)
                            have q167 : x99_2 < (l0.length : Int) := of_decide_eq_true (by first | (with_reducible assumption) | assumption)
                            obtain ⟨ad167, e167, hx167_0, hx167_1, hx167_2, hx167_3⟩ := at_T35 HR0.out x99_2 p167 q167
                            cases e167
                            replace hx167_0 := (HB.out.cell (World.block_lt_of_cell? w _ hx167_0)).trans hx167_0
                            replace hx167_1 := (HB.out.cell (World.block_lt_of_cell? w _ hx167_1)).trans hx167_1
                            replace hx167_2 := (HB.out.cell (World.block_lt_of_cell? w _ hx167_2)).trans hx167_2
                            replace hx167_3 := (HB.out.cell (World.block_lt_of_cell? w _ hx167_3)).trans hx167_3
                            replace p167 := eq_true p167
                            replace q167 := eq_true q167
                            go_wp2_with (first | ((with_reducible refine gate_dst (N := 26) rfl ?_); refine box_event ?hg (N := 26) ?hd (cs := #[.int .i64 0, .int .i64 0, .int .i64 0, .int .i64 0]) (t := 35) ?hr ?_; (case hd => rfl); (case hg => rfl); (case hr => first | (go_simp; done) | (go_simp; rfl)); intro gb168 hg w65 hbox hb; have n0_ := Aside0.mk (Kd.R_below (Kd.R_elderB (by (with_reducible repeat (first | apply Kd.R_alloc | apply Kd.R_drewN | apply Kd.R_drew)); exact HO_23.out) gb168 (Nat.le_of_eq hg.symm)) hb); have n1_ := Aside0.mk (below_step (by repeat (first | (with_reducible first | exact HB.out | apply below_alloc | apply pw_below_drewN | apply below_drew1) | exact HB.out)) hb); have n2_ := Aside0.mk (hbox); have n3_ := Aside0.mk ((by rw [hg]; exact (below_size (by repeat (first | (with_reducible first | exact HB.out | apply below_alloc | apply pw_below_drewN | apply below_drew1) | exact HB.out))) : w.heap.size ≤ gb168)); have n4_ := Aside0.mk ((by rw [hg]; exact (below_size (by repeat (first | (with_reducible first | exact HB.out | apply below_alloc | apply pw_below_drewN | apply below_drew1) | exact HB.out))) : w.heap.size ≤ gb168)); clear HO_23; clear HB; have HO_23 := n0_; have HB := n1_; have BK168 := n2_; have GW168 := n3_; have GE168 := n4_; clear n0_ n1_ n2_ n3_ n4_; clear hb hbox hg; have hcz66_0 : w65.cell? ⟨gb168, 0, none⟩ = some (.int .i64 0) := (blk_cell BK168.out 0).trans rfl; have hcz66_1 : w65.cell? ⟨gb168, 1, none⟩ = some (.int .i64 0) := (blk_cell BK168.out 1).trans rfl; have hcz66_2 : w65.cell? ⟨gb168, 2, none⟩ = some (.int .i64 0) := (blk_cell BK168.out 2).trans rfl; have hcz66_3 : w65.cell? ⟨gb168, 3, none⟩ = some (.int .i64 0) := (blk_cell BK168.out 3).trans rfl; have hfz66_0 := blk_frozen BK168.out 0; have hfz66_1 := blk_frozen BK168.out 1; have hfz66_2 := blk_frozen BK168.out 2; have hfz66_3 := blk_frozen BK168.out 3))
                            go_roundg k2
                            case measure => have := HJ9.out; have := HK2.out; omega
                            case rel => exact ⟨(x23_2), (true), (wrap64 (x99_2 + 1)), (by first | rfl | (simp; done) | (simp [*]; done)), (by first | rfl | (simp; done) | (simp [*]; done)), H', ⟨by have := HJ9.out; have := HK2.out; omega⟩, ⟨by (with_reducible repeat (first | apply Kd.R_alloc | apply Kd.R_drewN | apply Kd.R_drew)); exact Kd.R_mono (Kd.R_far (p := ⟨gb168, 3, none⟩) (Kd.R_far (p := ⟨gb168, 2, none⟩) (Kd.R_far (p := ⟨gb168, 1, none⟩) (Kd.R_far (p := ⟨gb168, 0, none⟩) (Kd.R_mono HO_23.out (fun k_ hk => (⟨hk, hk.2⟩ : _ ∧ k_ ≠ gb168))) (fun _ hk => hk.2) (.int .i64 ((rd_T35 l0 x99_2).f0))) (fun _ hk => hk.2) (.int .i64 ((rd_T35 l0 x99_2).f1))) (fun _ hk => hk.2) (.int .i64 ((rd_T35 l0 x99_2).f2))) (fun _ hk => hk.2) (.int .i64 ((rd_T35 l0 x99_2).f3))) (fun _ hk => trivial)⟩, ⟨by repeat (first | (with_reducible first | exact HB.out | apply below_alloc | apply pw_below_drewN | apply below_drew1 | refine below_set ?_ GE168.out) | exact HB.out)⟩⟩
                          · replace c64 := Bool.eq_false_iff.mpr c64
                            subst c64
                            have H1 : ((sizarlaw33_fits.f ((rd_T35 l0 x99_2).f0) ((rd_T35 l0 x99_2).f1) ((rd_T35 l0 x99_2).f2) ((rd_T35 l0 x99_2).f3) a2 a3 a4).bind fun t173 => (if t173 = true then (sizarlaw33_PolicyRest.l0 k2 a2 a3 a4 (Int.tmod (wrap64 (a5)) 1024) (Int.tmod (wrap64 (a6)) 1024) t152 t153 t154 t155 t165 t166 x23_2 (decide ((Int.tmod (wrap64 (a6)) 1024) ≤ (wrap64 ((Int.tmod (wrap64 (a5)) 1024) + ((rd_T35 l0 x99_2).f3))))) l0 (l0.length : Int) (wrap64 (x99_2 + 1))) else (sizarlaw33_PolicyRest.l0 k2 a2 a3 a4 (Int.tmod (wrap64 (a5)) 1024) (Int.tmod (wrap64 (a6)) 1024) t152 t153 t154 t155 t165 t166 x23_2 false l0 (l0.length : Int) (wrap64 (x99_2 + 1))))) = some r := by rw [if_neg (show ¬ (false = true) by decide)] at H; exact H
                            clear H
                            have H := H1
                            clear H1
                            replace H := Option.bind_eq_some_iff.mp H
                            obtain ⟨t173, A670, H⟩ := H
                            replace H : (if t173 = true then (sizarlaw33_PolicyRest.l0 k2 a2 a3 a4 (Int.tmod (wrap64 (a5)) 1024) (Int.tmod (wrap64 (a6)) 1024) t152 t153 t154 t155 t165 t166 x23_2 (decide ((Int.tmod (wrap64 (a6)) 1024) ≤ (wrap64 ((Int.tmod (wrap64 (a5)) 1024) + ((rd_T35 l0 x99_2).f3))))) l0 (l0.length : Int) (wrap64 (x99_2 + 1))) else (sizarlaw33_PolicyRest.l0 k2 a2 a3 a4 (Int.tmod (wrap64 (a5)) 1024) (Int.tmod (wrap64 (a6)) 1024) t152 t153 t154 t155 t165 t166 x23_2 false l0 (l0.length : Int) (wrap64 (x99_2 + 1)))) = some r := H
                            have A67 := Aside0.mk A670
                            clear A670
                            by_cases c68 : t173 = true
                            · subst c68
                              have H1 : (sizarlaw33_PolicyRest.l0 k2 a2 a3 a4 (Int.tmod (wrap64 (a5)) 1024) (Int.tmod (wrap64 (a6)) 1024) t152 t153 t154 t155 t165 t166 x23_2 (decide ((Int.tmod (wrap64 (a6)) 1024) ≤ (wrap64 ((Int.tmod (wrap64 (a5)) 1024) + ((rd_T35 l0 x99_2).f3))))) l0 (l0.length : Int) (wrap64 (x99_2 + 1))) = some r := by rw [if_pos rfl] at H; exact H
                              clear H
                              have H := H1
                              clear H1
                              have H' := Aside0.mk H
                              clear H
                              have p167 : 0 ≤ (x99_2 : Int) := of_decide_eq_true (by first | (with_reducible assumption) | assumption)
                              have q167 : x99_2 < (l0.length : Int) := of_decide_eq_true (by first | (with_reducible assumption) | assumption)
                              obtain ⟨ad167, e167, hx167_0, hx167_1, hx167_2, hx167_3⟩ := at_T35 HR0.out x99_2 p167 q167
                              cases e167
                              replace hx167_0 := (HB.out.cell (World.block_lt_of_cell? w _ hx167_0)).trans hx167_0
                              replace hx167_1 := (HB.out.cell (World.block_lt_of_cell? w _ hx167_1)).trans hx167_1
                              replace hx167_2 := (HB.out.cell (World.block_lt_of_cell? w _ hx167_2)).trans hx167_2
                              replace hx167_3 := (HB.out.cell (World.block_lt_of_cell? w _ hx167_3)).trans hx167_3
                              replace p167 := eq_true p167
                              replace q167 := eq_true q167
                              go_wp2_with (first | ((with_reducible refine gate_dst (N := 26) rfl ?_); refine box_event ?hg (N := 26) ?hd (cs := #[.int .i64 0, .int .i64 0, .int .i64 0, .int .i64 0]) (t := 35) ?hr ?_; (case hd => rfl); (case hg => rfl); (case hr => first | (go_simp; done) | (go_simp; rfl)); intro gb168 hg w69 hbox hb; have n0_ := Aside0.mk (Kd.R_below (Kd.R_elderB (by (with_reducible repeat (first | apply Kd.R_alloc | apply Kd.R_drewN | apply Kd.R_drew)); exact HO_23.out) gb168 (Nat.le_of_eq hg.symm)) hb); have n1_ := Aside0.mk (below_step (by repeat (first | (with_reducible first | exact HB.out | apply below_alloc | apply pw_below_drewN | apply below_drew1) | exact HB.out)) hb); have n2_ := Aside0.mk (hbox); have n3_ := Aside0.mk ((by rw [hg]; exact (below_size (by repeat (first | (with_reducible first | exact HB.out | apply below_alloc | apply pw_below_drewN | apply below_drew1) | exact HB.out))) : w.heap.size ≤ gb168)); have n4_ := Aside0.mk ((by rw [hg]; exact (below_size (by repeat (first | (with_reducible first | exact HB.out | apply below_alloc | apply pw_below_drewN | apply below_drew1) | exact HB.out))) : w.heap.size ≤ gb168)); clear HO_23; clear HB; have HO_23 := n0_; have HB := n1_; have BK168 := n2_; have GW168 := n3_; have GE168 := n4_; clear n0_ n1_ n2_ n3_ n4_; clear hb hbox hg; have hcz70_0 : w69.cell? ⟨gb168, 0, none⟩ = some (.int .i64 0) := (blk_cell BK168.out 0).trans rfl; have hcz70_1 : w69.cell? ⟨gb168, 1, none⟩ = some (.int .i64 0) := (blk_cell BK168.out 1).trans rfl; have hcz70_2 : w69.cell? ⟨gb168, 2, none⟩ = some (.int .i64 0) := (blk_cell BK168.out 2).trans rfl; have hcz70_3 : w69.cell? ⟨gb168, 3, none⟩ = some (.int .i64 0) := (blk_cell BK168.out 3).trans rfl; have hfz70_0 := blk_frozen BK168.out 0; have hfz70_1 := blk_frozen BK168.out 1; have hfz70_2 := blk_frozen BK168.out 2; have hfz70_3 := blk_frozen BK168.out 3) | (go_at_call 20; (with_reducible refine (sizarlaw33_fits.calls ((rd_T35 l0 x99_2).f0) ((rd_T35 l0 x99_2).f1) ((rd_T35 l0 x99_2).f2) ((rd_T35 l0 x99_2).f3) a2 a3 a4 true _ A67.out).mono ?_); rintro e w71 ⟨rfl, hb⟩; have n0_ := Aside0.mk (Kd.R_below (by (with_reducible repeat (first | apply Kd.R_alloc | apply Kd.R_drewN | apply Kd.R_drew)); exact (Kd.R_mono (Kd.R_far (p := ⟨gb168, 3, none⟩) (Kd.R_far (p := ⟨gb168, 2, none⟩) (Kd.R_far (p := ⟨gb168, 1, none⟩) (Kd.R_far (p := ⟨gb168, 0, none⟩) (Kd.R_mono HO_23.out (fun k_ hk => (⟨hk, hk.2⟩ : _ ∧ k_ ≠ gb168))) (fun _ hk => hk.2) (.int .i64 ((rd_T35 l0 x99_2).f0))) (fun _ hk => hk.2) (.int .i64 ((rd_T35 l0 x99_2).f1))) (fun _ hk => hk.2) (.int .i64 ((rd_T35 l0 x99_2).f2))) (fun _ hk => hk.2) (.int .i64 ((rd_T35 l0 x99_2).f3))) (fun _ h_ => h_.1))) hb); have n1_ := Aside0.mk (blk_below (g := gb168) (o := .cells #[.int .i64 ((rd_T35 l0 x99_2).f0), .int .i64 ((rd_T35 l0 x99_2).f1), .int .i64 ((rd_T35 l0 x99_2).f2), .int .i64 ((rd_T35 l0 x99_2).f3)] 35 (0, 0)) (by (with_reducible repeat (first | refine blk_drewN ?_ _ | refine blk_drew ?_ | refine blk_alloc ?_ _)); refine blk_put (cs := #[.int .i64 ((rd_T35 l0 x99_2).f0), .int .i64 ((rd_T35 l0 x99_2).f1), .int .i64 ((rd_T35 l0 x99_2).f2), .int .i64 0]) ?_ 3 _ rfl; (with_reducible repeat (first | refine blk_drewN ?_ _ | refine blk_drew ?_ | refine blk_alloc ?_ _)); refine blk_put (cs := #[.int .i64 ((rd_T35 l0 x99_2).f0), .int .i64 ((rd_T35 l0 x99_2).f1), .int .i64 0, .int .i64 0]) ?_ 2 _ rfl; (with_reducible repeat (first | refine blk_drewN ?_ _ | refine blk_drew ?_ | refine blk_alloc ?_ _)); refine blk_put (cs := #[.int .i64 ((rd_T35 l0 x99_2).f0), .int .i64 0, .int .i64 0, .int .i64 0]) ?_ 1 _ rfl; (with_reducible repeat (first | refine blk_drewN ?_ _ | refine blk_drew ?_ | refine blk_alloc ?_ _)); refine blk_put (cs := #[.int .i64 0, .int .i64 0, .int .i64 0, .int .i64 0]) ?_ 0 _ rfl; (with_reducible repeat (first | refine blk_drewN ?_ _ | refine blk_drew ?_ | refine blk_alloc ?_ _)); exact BK168.out) hb); have n2_ := Aside0.mk (below_step (by repeat (first | (with_reducible first | exact HB.out | apply below_alloc | apply pw_below_drewN | apply below_drew1 | refine below_set ?_ GE168.out) | exact HB.out)) hb); clear HO_23; clear BK168; clear HB; have HO_23 := n0_; have BK168 := n1_; have HB := n2_; clear n0_ n1_ n2_; (try clear hb); (try clear hb2); (try clear hk); (try clear hi); have hcz72_0 : w71.cell? ⟨gb168, 0, none⟩ = some (.int .i64 ((rd_T35 l0 x99_2).f0)) := (blk_cell BK168.out 0).trans rfl; have hcz72_1 : w71.cell? ⟨gb168, 1, none⟩ = some (.int .i64 ((rd_T35 l0 x99_2).f1)) := (blk_cell BK168.out 1).trans rfl; have hcz72_2 : w71.cell? ⟨gb168, 2, none⟩ = some (.int .i64 ((rd_T35 l0 x99_2).f2)) := (blk_cell BK168.out 2).trans rfl; have hcz72_3 : w71.cell? ⟨gb168, 3, none⟩ = some (.int .i64 ((rd_T35 l0 x99_2).f3)) := (blk_cell BK168.out 3).trans rfl; have hfz72_0 := blk_frozen BK168.out 0; have hfz72_1 := blk_frozen BK168.out 1; have hfz72_2 := blk_frozen BK168.out 2; have hfz72_3 := blk_frozen BK168.out 3))
                              go_roundg k2
                              case measure => have := HJ9.out; have := HK2.out; omega
                              case rel => exact ⟨(x23_2), (decide ((Int.tmod (wrap64 (a6)) 1024) ≤ (wrap64 ((Int.tmod (wrap64 (a5)) 1024) + ((rd_T35 l0 x99_2).f3))))), (wrap64 (x99_2 + 1)), (by first | rfl | (simp; done) | (simp [*]; done)), (by first | rfl | (simp; done) | (simp [*]; done)), H', ⟨by have := HJ9.out; have := HK2.out; omega⟩, ⟨by (with_reducible repeat (first | apply Kd.R_alloc | apply Kd.R_drewN | apply Kd.R_drew)); exact Kd.R_mono HO_23.out (fun _ hk => trivial)⟩, ⟨by repeat (first | (with_reducible first | exact HB.out | apply below_alloc | apply pw_below_drewN | apply below_drew1 | refine below_set ?_ GE168.out) | exact HB.out)⟩⟩
                            · replace c68 := Bool.eq_false_iff.mpr c68
                              subst c68
                              have H1 : (sizarlaw33_PolicyRest.l0 k2 a2 a3 a4 (Int.tmod (wrap64 (a5)) 1024) (Int.tmod (wrap64 (a6)) 1024) t152 t153 t154 t155 t165 t166 x23_2 false l0 (l0.length : Int) (wrap64 (x99_2 + 1))) = some r := by rw [if_neg (show ¬ (false = true) by decide)] at H; exact H
                              clear H
                              have H := H1
                              clear H1
                              have H' := Aside0.mk H
                              clear H
                              have p167 : 0 ≤ (x99_2 : Int) := of_decide_eq_true (by first | (with_reducible assumption) | assumption)
                              have q167 : x99_2 < (l0.length : Int) := of_decide_eq_true (by first | (with_reducible assumption) | assumption)
                              obtain ⟨ad167, e167, hx167_0, hx167_1, hx167_2, hx167_3⟩ := at_T35 HR0.out x99_2 p167 q167
                              cases e167
                              replace hx167_0 := (HB.out.cell (World.block_lt_of_cell? w _ hx167_0)).trans hx167_0
                              replace hx167_1 := (HB.out.cell (World.block_lt_of_cell? w _ hx167_1)).trans hx167_1
                              replace hx167_2 := (HB.out.cell (World.block_lt_of_cell? w _ hx167_2)).trans hx167_2
                              replace hx167_3 := (HB.out.cell (World.block_lt_of_cell? w _ hx167_3)).trans hx167_3
                              replace p167 := eq_true p167
                              replace q167 := eq_true q167
                              go_wp2_with (first | ((with_reducible refine gate_dst (N := 26) rfl ?_); refine box_event ?hg (N := 26) ?hd (cs := #[.int .i64 0, .int .i64 0, .int .i64 0, .int .i64 0]) (t := 35) ?hr ?_; (case hd => rfl); (case hg => rfl); (case hr => first | (go_simp; done) | (go_simp; rfl)); intro gb168 hg w73 hbox hb; have n0_ := Aside0.mk (Kd.R_below (Kd.R_elderB (by (with_reducible repeat (first | apply Kd.R_alloc | apply Kd.R_drewN | apply Kd.R_drew)); exact HO_23.out) gb168 (Nat.le_of_eq hg.symm)) hb); have n1_ := Aside0.mk (below_step (by repeat (first | (with_reducible first | exact HB.out | apply below_alloc | apply pw_below_drewN | apply below_drew1) | exact HB.out)) hb); have n2_ := Aside0.mk (hbox); have n3_ := Aside0.mk ((by rw [hg]; exact (below_size (by repeat (first | (with_reducible first | exact HB.out | apply below_alloc | apply pw_below_drewN | apply below_drew1) | exact HB.out))) : w.heap.size ≤ gb168)); have n4_ := Aside0.mk ((by rw [hg]; exact (below_size (by repeat (first | (with_reducible first | exact HB.out | apply below_alloc | apply pw_below_drewN | apply below_drew1) | exact HB.out))) : w.heap.size ≤ gb168)); clear HO_23; clear HB; have HO_23 := n0_; have HB := n1_; have BK168 := n2_; have GW168 := n3_; have GE168 := n4_; clear n0_ n1_ n2_ n3_ n4_; clear hb hbox hg; have hcz74_0 : w73.cell? ⟨gb168, 0, none⟩ = some (.int .i64 0) := (blk_cell BK168.out 0).trans rfl; have hcz74_1 : w73.cell? ⟨gb168, 1, none⟩ = some (.int .i64 0) := (blk_cell BK168.out 1).trans rfl; have hcz74_2 : w73.cell? ⟨gb168, 2, none⟩ = some (.int .i64 0) := (blk_cell BK168.out 2).trans rfl; have hcz74_3 : w73.cell? ⟨gb168, 3, none⟩ = some (.int .i64 0) := (blk_cell BK168.out 3).trans rfl; have hfz74_0 := blk_frozen BK168.out 0; have hfz74_1 := blk_frozen BK168.out 1; have hfz74_2 := blk_frozen BK168.out 2; have hfz74_3 := blk_frozen BK168.out 3) | (go_at_call 20; (with_reducible refine (sizarlaw33_fits.calls ((rd_T35 l0 x99_2).f0) ((rd_T35 l0 x99_2).f1) ((rd_T35 l0 x99_2).f2) ((rd_T35 l0 x99_2).f3) a2 a3 a4 false _ A67.out).mono ?_); rintro e w75 ⟨rfl, hb⟩; have n0_ := Aside0.mk (Kd.R_below (by (with_reducible repeat (first | apply Kd.R_alloc | apply Kd.R_drewN | apply Kd.R_drew)); exact (Kd.R_mono (Kd.R_far (p := ⟨gb168, 3, none⟩) (Kd.R_far (p := ⟨gb168, 2, none⟩) (Kd.R_far (p := ⟨gb168, 1, none⟩) (Kd.R_far (p := ⟨gb168, 0, none⟩) (Kd.R_mono HO_23.out (fun k_ hk => (⟨hk, hk.2⟩ : _ ∧ k_ ≠ gb168))) (fun _ hk => hk.2) (.int .i64 ((rd_T35 l0 x99_2).f0))) (fun _ hk => hk.2) (.int .i64 ((rd_T35 l0 x99_2).f1))) (fun _ hk => hk.2) (.int .i64 ((rd_T35 l0 x99_2).f2))) (fun _ hk => hk.2) (.int .i64 ((rd_T35 l0 x99_2).f3))) (fun _ h_ => h_.1))) hb); have n1_ := Aside0.mk (blk_below (g := gb168) (o := .cells #[.int .i64 ((rd_T35 l0 x99_2).f0), .int .i64 ((rd_T35 l0 x99_2).f1), .int .i64 ((rd_T35 l0 x99_2).f2), .int .i64 ((rd_T35 l0 x99_2).f3)] 35 (0, 0)) (by (with_reducible repeat (first | refine blk_drewN ?_ _ | refine blk_drew ?_ | refine blk_alloc ?_ _)); refine blk_put (cs := #[.int .i64 ((rd_T35 l0 x99_2).f0), .int .i64 ((rd_T35 l0 x99_2).f1), .int .i64 ((rd_T35 l0 x99_2).f2), .int .i64 0]) ?_ 3 _ rfl; (with_reducible repeat (first | refine blk_drewN ?_ _ | refine blk_drew ?_ | refine blk_alloc ?_ _)); refine blk_put (cs := #[.int .i64 ((rd_T35 l0 x99_2).f0), .int .i64 ((rd_T35 l0 x99_2).f1), .int .i64 0, .int .i64 0]) ?_ 2 _ rfl; (with_reducible repeat (first | refine blk_drewN ?_ _ | refine blk_drew ?_ | refine blk_alloc ?_ _)); refine blk_put (cs := #[.int .i64 ((rd_T35 l0 x99_2).f0), .int .i64 0, .int .i64 0, .int .i64 0]) ?_ 1 _ rfl; (with_reducible repeat (first | refine blk_drewN ?_ _ | refine blk_drew ?_ | refine blk_alloc ?_ _)); refine blk_put (cs := #[.int .i64 0, .int .i64 0, .int .i64 0, .int .i64 0]) ?_ 0 _ rfl; (with_reducible repeat (first | refine blk_drewN ?_ _ | refine blk_drew ?_ | refine blk_alloc ?_ _)); exact BK168.out) hb); have n2_ := Aside0.mk (below_step (by repeat (first | (with_reducible first | exact HB.out | apply below_alloc | apply pw_below_drewN | apply below_drew1 | refine below_set ?_ GE168.out) | exact HB.out)) hb); clear HO_23; clear BK168; clear HB; have HO_23 := n0_; have BK168 := n1_; have HB := n2_; clear n0_ n1_ n2_; (try clear hb); (try clear hb2); (try clear hk); (try clear hi)))
                              go_roundg k2
                              case measure => have := HJ9.out; have := HK2.out; omega
                              case rel => exact ⟨(x23_2), (false), (wrap64 (x99_2 + 1)), (by first | rfl | (simp; done) | (simp [*]; done)), (by first | rfl | (simp; done) | (simp [*]; done)), H', ⟨by have := HJ9.out; have := HK2.out; omega⟩, ⟨by (with_reducible repeat (first | apply Kd.R_alloc | apply Kd.R_drewN | apply Kd.R_drew)); exact Kd.R_mono HO_23.out (fun _ hk => trivial)⟩, ⟨by repeat (first | (with_reducible first | exact HB.out | apply below_alloc | apply pw_below_drewN | apply below_drew1 | refine below_set ?_ GE168.out) | exact HB.out)⟩⟩
                      · rw [if_neg c44] at H
                        exact absurd H (by simp)
                    · rw [if_neg c43] at H
                      exact absurd H (by simp)
                  · rw [if_neg c42] at H
                    have c42b0 : decide (x99_2 < (l0.length : Int)) = false := decide_eq_false c42
                    clear c42
                    replace H := Option.bind_eq_some_iff.mp H
                    obtain ⟨⟨t174, t175⟩, A760, H⟩ := H
                    replace H : (if t153 = 0 then (if t155 = 0 then (if t166 = 0 then (if t175 = 0 then (sizarlaw33_PolicyRest.j2 k2 t152 t154 t165 x24_2 (t152 != t174)) else (sizarlaw33_PolicyRest.j2 k2 t152 t154 t165 x24_2 true)) else (sizarlaw33_PolicyRest.j2 k2 t152 t154 t165 x24_2 true)) else (sizarlaw33_PolicyRest.j2 k2 t152 t154 t165 x24_2 true)) else (sizarlaw33_PolicyRest.j2 k2 t152 t154 t165 x24_2 true)) = some r := H
                    have A76 := Aside0.mk A760
                    clear A760
                    have HC77 := Aside0.mk H
                    clear H
                    obtain ⟨Ao78, co78, eo78⟩ := Kd.R_slice HO_23.out
                    subst eo78
                    go_upto_region 19 with (first | ((with_reducible refine gate_callee (f := 12) rfl ?_); refine goesL_ (some 135) rfl rfl Try.func12 (by kernel_rfl) rfl #[.slice Ao78 x23_2.length co78, .int .i64 a2, .int .i64 a3, .int .i64 a4, .int .i64 (Int.tmod (wrap64 (a5)) 1024), .int .i64 (Int.tmod (wrap64 (a6)) 1024)] rfl (by (try simp only [List.map_toArray, List.map_cons, List.map_nil]); first | done | rfl | (simp only [List.length_drop, List.length_take]; rfl)) ?_; (with_reducible refine (policy_Action.calls _ _ x23_2 a2 a3 a4 (Int.tmod (wrap64 (a5)) 1024) (Int.tmod (wrap64 (a6)) 1024) t174 t175 _ ?side1 ?side2 A76.out).mono ?_); (case side1 => repeat (first | exact (Kd.R_reads' HO_23.out).2.2 | (with_reducible refine Kd.C_alloc ?_ _) | (with_reducible refine Kd.C_drewN ?_ _) | (with_reducible refine Kd.C_drew ?_))); (case side2 => exact (Kd.R_reads' HO_23.out).2.1); rintro e w79 ⟨rfl, hb⟩; refine ⟨_, rfl, ?_⟩; have n0_ := Aside0.mk (Kd.R_below (by (with_reducible repeat (first | apply Kd.R_alloc | apply Kd.R_drewN | apply Kd.R_drew)); exact HO_23.out) hb); have n1_ := Aside0.mk (below_step (by repeat (first | (with_reducible first | exact HB.out | apply below_alloc | apply pw_below_drewN | apply below_drew1) | exact HB.out)) hb); clear HO_23; clear HB; have HO_23 := n0_; have HB := n1_; clear n0_ n1_; (try clear hb); (try clear hb2); (try clear hk); (try clear hi)))
                    (try simp only [Act.put, List.setIfInBounds_toArray, List.set_cons_zero, List.set_cons_succ])
                    go_cut [156] (fun v156 wc => ∃ (kq : Nat) (x156_76 : Bool), v156 = .bool x156_76 ∧ Aside0 (sizarlaw33_PolicyRest.j2 kq t152 t154 t165 x24_2 x156_76 = some r) ∧ Aside0 (kq ≤ k2) ∧ Aside0 (Below w.heap.size w wc))
                    case first =>
                      have H := HC77.out
                      clear HC77
                      by_cases c80 : t153 = 0
                      · rw [if_pos c80] at H
                        have c80b0 : (t153 == 0) = true := beq_iff_eq.mpr c80
                        have c80b1 : (t153 != 0) = false := bne_eq_false_iff_eq.mpr c80
                        clear c80
                        (first | rw [c80b0] | (simp only [i64_w, i32_w]; rw [c80b0]) | skip)
                        by_cases c81 : t155 = 0
                        · rw [if_pos c81] at H
                          have c81b0 : (t155 == 0) = true := beq_iff_eq.mpr c81
                          have c81b1 : (t155 != 0) = false := bne_eq_false_iff_eq.mpr c81
                          clear c81
                          by_cases c82 : t166 = 0
                          · rw [if_pos c82] at H
                            have c82b0 : (t166 == 0) = true := beq_iff_eq.mpr c82
                            have c82b1 : (t166 != 0) = false := bne_eq_false_iff_eq.mpr c82
                            clear c82
                            by_cases c83 : t175 = 0
                            · rw [if_pos c83] at H
                              have c83b0 : (t175 == 0) = true := beq_iff_eq.mpr c83
                              have c83b1 : (t175 != 0) = false := bne_eq_false_iff_eq.mpr c83
                              clear c83
                              have H' := Aside0.mk H
                              clear H
                              go_wp2
                              go_meet
                              case rel => exact ⟨_, ((t152 != t174)), (by first | rfl | (simp; done) | (simp [*]; done)), H', ⟨by have := HJ9.out; have := HK2.out; first | omega | exact Nat.le_refl _⟩, ⟨by repeat (first | (with_reducible first | exact HB.out | apply below_alloc | apply pw_below_drewN | apply below_drew1) | exact HB.out)⟩⟩
                            · rw [if_neg c83] at H
                              have c83b0 : (t175 == 0) = false := beq_eq_false_iff_ne.mpr c83
                              have c83b1 : (t175 != 0) = true := bne_iff_ne.mpr c83
                              have H' := Aside0.mk H
                              clear H
                              go_wp2
                              go_meet
                              case rel => exact ⟨_, (true), (by first | rfl | (simp; done) | (simp [*]; done)), H', ⟨by have := HJ9.out; have := HK2.out; first | omega | exact Nat.le_refl _⟩, ⟨by repeat (first | (with_reducible first | exact HB.out | apply below_alloc | apply pw_below_drewN | apply below_drew1) | exact HB.out)⟩⟩
                          · rw [if_neg c82] at H
                            have c82b0 : (t166 == 0) = false := beq_eq_false_iff_ne.mpr c82
                            have c82b1 : (t166 != 0) = true := bne_iff_ne.mpr c82
                            have H' := Aside0.mk H
                            clear H
                            go_wp2
                            go_meet
                            case rel => exact ⟨_, (true), (by first | rfl | (simp; done) | (simp [*]; done)), H', ⟨by have := HJ9.out; have := HK2.out; first | omega | exact Nat.le_refl _⟩, ⟨by repeat (first | (with_reducible first | exact HB.out | apply below_alloc | apply pw_below_drewN | apply below_drew1) | exact HB.out)⟩⟩
                        · rw [if_neg c81] at H
                          have c81b0 : (t155 == 0) = false := beq_eq_false_iff_ne.mpr c81
                          have c81b1 : (t155 != 0) = true := bne_iff_ne.mpr c81
                          have H' := Aside0.mk H
                          clear H
                          go_wp2
                          go_meet
                          case rel => exact ⟨_, (true), (by first | rfl | (simp; done) | (simp [*]; done)), H', ⟨by have := HJ9.out; have := HK2.out; first | omega | exact Nat.le_refl _⟩, ⟨by repeat (first | (with_reducible first | exact HB.out | apply below_alloc | apply pw_below_drewN | apply below_drew1) | exact HB.out)⟩⟩
                      · rw [if_neg c80] at H
                        have c80b0 : (t153 == 0) = false := beq_eq_false_iff_ne.mpr c80
                        have c80b1 : (t153 != 0) = true := bne_iff_ne.mpr c80
                        (first | rw [c80b0] | (simp only [i64_w, i32_w]; rw [c80b0]) | skip)
                        have H' := Aside0.mk H
                        clear H
                        go_wp2
                        go_meet
                        case rel => exact ⟨_, (true), (by first | rfl | (simp; done) | (simp [*]; done)), H', ⟨by have := HJ9.out; have := HK2.out; first | omega | exact Nat.le_refl _⟩, ⟨by repeat (first | (with_reducible first | exact HB.out | apply below_alloc | apply pw_below_drewN | apply below_drew1) | exact HB.out)⟩⟩
                    case rest =>
                      clear HC77
                      try clear c1
                      try clear p1
                      try clear q1
                      try clear hx1
                      try clear c2
                      try clear p2
                      try clear c3
                      try clear c4
                      try clear c5
                      try clear c6
                      try clear p6
                      try clear c8
                      try clear c9
                      try clear c10
                      try clear c11
                      try clear c12
                      try clear c13
                      try clear c15
                      try clear p16
                      try clear q16
                      try clear hx16
                      try clear c17
                      try clear c17b0
                      try clear c17b1
                      try clear c19
                      try clear c19b0
                      try clear c19b1
                      try clear c20
                      try clear c20b0
                      try clear c28
                      try clear c31
                      try clear c32
                      try clear c42
                      try clear c42b0
                      try clear c43
                      try clear c43b0
                      try clear c44
                      try clear c44b0
                      try clear c45
                      try clear c45b0
                      try clear c45b1
                      try clear c46
                      try clear c47
                      try clear c52
                      try clear c64
                      try clear p64
                      try clear c68
                      try clear c80
                      try clear c80b0
                      try clear c80b1
                      try clear c81
                      try clear c81b0
                      try clear c81b1
                      try clear c82
                      try clear c82b0
                      try clear c82b1
                      try clear c83
                      try clear c83b0
                      try clear c83b1
                      try clear hcz49_0
                      try clear hcz49_1
                      try clear hcz49_2
                      try clear hcz49_3
                      try clear hcz54_0
                      try clear hcz54_1
                      try clear hcz54_2
                      try clear hcz54_3
                      try clear hcz56_0
                      try clear hcz56_1
                      try clear hcz56_2
                      try clear hcz56_3
                      try clear hcz58_0
                      try clear hcz58_1
                      try clear hcz58_2
                      try clear hcz58_3
                      try clear hcz60_0
                      try clear hcz60_1
                      try clear hcz60_2
                      try clear hcz60_3
                      try clear hcz62_0
                      try clear hcz62_1
                      try clear hcz62_2
                      try clear hcz62_3
                      try clear hcz66_0
                      try clear hcz66_1
                      try clear hcz66_2
                      try clear hcz66_3
                      try clear hcz70_0
                      try clear hcz70_1
                      try clear hcz70_2
                      try clear hcz70_3
                      try clear hcz72_0
                      try clear hcz72_1
                      try clear hcz72_2
                      try clear hcz72_3
                      try clear hcz74_0
                      try clear hcz74_1
                      try clear hcz74_2
                      try clear hcz74_3
                      try clear hfz49_0
                      try clear hfz49_1
                      try clear hfz49_2
                      try clear hfz49_3
                      try clear hfz54_0
                      try clear hfz54_1
                      try clear hfz54_2
                      try clear hfz54_3
                      try clear hfz56_0
                      try clear hfz56_1
                      try clear hfz56_2
                      try clear hfz56_3
                      try clear hfz58_0
                      try clear hfz58_1
                      try clear hfz58_2
                      try clear hfz58_3
                      try clear hfz60_0
                      try clear hfz60_1
                      try clear hfz60_2
                      try clear hfz60_3
                      try clear hfz62_0
                      try clear hfz62_1
                      try clear hfz62_2
                      try clear hfz62_3
                      try clear hfz66_0
                      try clear hfz66_1
                      try clear hfz66_2
                      try clear hfz66_3
                      try clear hfz70_0
                      try clear hfz70_1
                      try clear hfz70_2
                      try clear hfz70_3
                      try clear hfz72_0
                      try clear hfz72_1
                      try clear hfz72_2
                      try clear hfz72_3
                      try clear hfz74_0
                      try clear hfz74_1
                      try clear hfz74_2
                      try clear hfz74_3
                      try clear hx167_0
                      try clear hx167_1
                      try clear hx167_2
                      try clear hx167_3
                      try clear p167
                      try clear p2
                      try clear p6
                      try clear q167
                      obtain ⟨kq, x156_76, rfl, HA, HJ76, HB⟩ := hcut
                      cases kq with
                      | zero => exact absurd HA.out (by simp [sizarlaw33_PolicyRest.j2])
                      | succ kj76 =>
                        have H := HA.out
                        clear HA
                        simp only [sizarlaw33_PolicyRest.j2] at H
                        by_cases c84 : x156_76 = true
                        · subst c84
                          have H1 : (some false) = some r := by rw [if_pos rfl] at H; exact H
                          clear H
                          have H := H1
                          clear H1
                          obtain rfl := Option.some.inj H
                          go_wp2
                          go_ret
                          exact ⟨by first | rfl | (simp [errW_none, errW_some] <;> rfl) | (simp [*, errW_none, errW_some] <;> rfl), by repeat (first | (with_reducible first | exact HB.out | apply below_alloc | apply pw_below_drewN | apply below_drew1) | exact HB.out)⟩
                        · replace c84 := Bool.eq_false_iff.mpr c84
                          subst c84
                          have H1 : (if x24_2 = true then (some (t165 == t152)) else (if t152 = 1 then (some (t165 == t154)) else (some false))) = some r := by rw [if_neg (show ¬ (false = true) by decide)] at H; exact H
                          clear H
                          have H := H1
                          clear H1
                          by_cases c85 : x24_2 = true
                          · subst c85
                            have H1 : (some (t165 == t152)) = some r := by rw [if_pos rfl] at H; exact H
                            clear H
                            have H := H1
                            clear H1
                            obtain rfl := Option.some.inj H
                            go_wp2
                            go_ret
                            exact ⟨by first | rfl | (simp [errW_none, errW_some] <;> rfl) | (simp [*, errW_none, errW_some] <;> rfl), by repeat (first | (with_reducible first | exact HB.out | apply below_alloc | apply pw_below_drewN | apply below_drew1) | exact HB.out)⟩
                          · replace c85 := Bool.eq_false_iff.mpr c85
                            subst c85
                            have H1 : (if t152 = 1 then (some (t165 == t154)) else (some false)) = some r := by rw [if_neg (show ¬ (false = true) by decide)] at H; exact H
                            clear H
                            have H := H1
                            clear H1
                            by_cases c86 : t152 = 1
                            · rw [if_pos c86] at H
                              have c86b0 : (t152 == 1) = true := beq_iff_eq.mpr c86
                              have c86b1 : (t152 != 1) = false := bne_eq_false_iff_eq.mpr c86
                              clear c86
                              obtain rfl := Option.some.inj H
                              go_wp2
                              go_ret
                              exact ⟨by first | rfl | (simp [errW_none, errW_some] <;> rfl) | (simp [*, errW_none, errW_some] <;> rfl), by repeat (first | (with_reducible first | exact HB.out | apply below_alloc | apply pw_below_drewN | apply below_drew1) | exact HB.out)⟩
                            · rw [if_neg c86] at H
                              have c86b0 : (t152 == 1) = false := beq_eq_false_iff_ne.mpr c86
                              have c86b1 : (t152 != 1) = true := bne_iff_ne.mpr c86
                              obtain rfl := Option.some.inj H
                              go_wp2
                              go_ret
                              exact ⟨by first | rfl | (simp [errW_none, errW_some] <;> rfl) | (simp [*, errW_none, errW_some] <;> rfl), by repeat (first | (with_reducible first | exact HB.out | apply below_alloc | apply pw_below_drewN | apply below_drew1) | exact HB.out)⟩
            · rw [if_neg c32] at H
              exact absurd H (by simp)
          · rw [if_neg c31] at H
            exact absurd H (by simp)
  · replace c9 := Bool.eq_false_iff.mpr c9
    subst c9
    have H1 : (some false) = some r := by rw [if_neg (show ¬ (false = true) by decide)] at H; exact H
    clear H
    have H := H1
    clear H1
    obtain rfl := Option.some.inj H
    go_enter Try.func6, Try.ntmps6
    go_wp2_with (first | ((with_reducible refine gate_callee (f := 10) rfl ?_); refine goesL_ (some 29) rfl rfl Try.func10 (by kernel_rfl) rfl #[] rfl (by (try simp only [List.map_toArray, List.map_cons, List.map_nil]); first | done | rfl | (simp only [List.length_drop, List.length_take]; rfl)) ?_; (with_reducible refine (sizarlaw33_sane.calls  false _ A8.out).mono ?_); rintro e w87 ⟨rfl, hb⟩; refine ⟨_, rfl, ?_⟩; have n0_ := Aside0.mk (below_step (by repeat (first | (with_reducible first | exact HB.out | apply below_alloc | apply pw_below_drewN | apply below_drew1) | exact HB.out)) hb); clear HB; have HB := n0_; clear n0_; (try clear hb); (try clear hb2); (try clear hk); (try clear hi)))
    go_ret
    exact ⟨by first | rfl | (simp [errW_none, errW_some] <;> rfl) | (simp [*, errW_none, errW_some] <;> rfl), by repeat (first | (with_reducible first | exact HB.out | apply below_alloc | apply pw_below_drewN | apply below_drew1) | exact HB.out)⟩

end Go.Proofs.Ytmljglbmokmonaa.Print
