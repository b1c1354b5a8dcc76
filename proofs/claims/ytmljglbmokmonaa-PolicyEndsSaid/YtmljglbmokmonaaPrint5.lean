/- Machine contracts: each Go function named below, called over memory that reads as its arguments, returns what the Lean function of its name tells; the one condition is that this function tells something. Written by a program for this claim. -/
import Derived.Test.YtmljglbmokmonaaPrint0
import Derived.Test.YtmljglbmokmonaaPrint1
import Derived.Test.YtmljglbmokmonaaPrint3
import Derived.Test.YtmljglbmokmonaaHand
import Derived.Test.YtmljglbmokmonaaSane
namespace Go.Proofs.Ytmljglbmokmonaa.Print
open Go.RowKit Go.Proofs.YtmljglbmokmonaaW.PrintWords Go.Proofs.YtmljglbmokmonaaW.PrintLast Go.Proofs.YtmljglbmokmonaaW.PrintMore
attribute [local go_sem] max2_int min2_int max_two min_two max_three min_three max_four min_four   -- for this text's walks alone
set_option linter.unusedVariables false
set_option linter.unusedSimpArgs false

/-! ### sizarlaw33_PolicyEnds: function 7 -/
mutual
def sizarlaw33_PolicyEnds.j0 : Nat → List (S35) → Int → Int → Int → Int → Bool → Option (Bool)
  | 0, _, _, _, _, _, _ => none
  | k + 1, x0, x1, x2, x3, x4, x37 => if x37 = true then (some true) else ((policy_Until.f k x0 x1 x2 x3 (Int.tmod (wrap64 (x4)) 1024)).bind fun bt179 => (if bt179.2 = 0 then (if bt179.1 < (-1) then (sizarlaw33_PolicyEnds.j1 k x0 x1 x2 x3 (Int.tmod (wrap64 (x4)) 1024) bt179.1 true) else (if bt179.1 ≥ 1024 then (sizarlaw33_PolicyEnds.j1 k x0 x1 x2 x3 (Int.tmod (wrap64 (x4)) 1024) bt179.1 true) else (sizarlaw33_PolicyEnds.j1 k x0 x1 x2 x3 (Int.tmod (wrap64 (x4)) 1024) bt179.1 (decide (bt179.1 > (wrap64 ((Int.tmod (wrap64 (x4)) 1024) + 12))))))) else (sizarlaw33_PolicyEnds.j1 k x0 x1 x2 x3 (Int.tmod (wrap64 (x4)) 1024) bt179.1 true)))
def sizarlaw33_PolicyEnds.j1 : Nat → List (S35) → Int → Int → Int → Int → Int → Bool → Option (Bool)
  | 0, _, _, _, _, _, _, _ => none
  | k + 1, x0, x1, x2, x3, x11, x12, x65 => if x65 = true then (some false) else (sizarlaw33_PolicyEnds.l0 k x0 x1 x2 x3 x11 x12 0)
def sizarlaw33_PolicyEnds.l0 : Nat → List (S35) → Int → Int → Int → Int → Int → Int → Option (Bool)
  | 0, _, _, _, _, _, _, _ => none
  | k + 1, x0, x1, x2, x3, x11, x12, x14 => if x14 < 1024 then ((policy_Action.f x0 x1 x2 x3 x11 x14).bind fun bt181 => (if bt181.2 = 0 then (if x14 > (wrap64 (x11 + 12)) then (if bt181.1 = 1 then (if x14 > x12 then (if bt181.1 = 3 then (sizarlaw33_PolicyEnds.j3 k x0 x1 x2 x3 x11 x12 x14 bt181.1 true) else (if x14 = x12 then (sizarlaw33_PolicyEnds.j3 k x0 x1 x2 x3 x11 x12 x14 bt181.1 (bt181.1 != 3)) else (sizarlaw33_PolicyEnds.j3 k x0 x1 x2 x3 x11 x12 x14 bt181.1 false))) else (if x14 = x12 then (sizarlaw33_PolicyEnds.j3 k x0 x1 x2 x3 x11 x12 x14 bt181.1 (bt181.1 != 3)) else (sizarlaw33_PolicyEnds.j3 k x0 x1 x2 x3 x11 x12 x14 bt181.1 false))) else (sizarlaw33_PolicyEnds.j3 k x0 x1 x2 x3 x11 x12 x14 bt181.1 true)) else (if x14 > x12 then (if bt181.1 = 3 then (sizarlaw33_PolicyEnds.j3 k x0 x1 x2 x3 x11 x12 x14 bt181.1 true) else (if x14 = x12 then (sizarlaw33_PolicyEnds.j3 k x0 x1 x2 x3 x11 x12 x14 bt181.1 (bt181.1 != 3)) else (sizarlaw33_PolicyEnds.j3 k x0 x1 x2 x3 x11 x12 x14 bt181.1 false))) else (if x14 = x12 then (sizarlaw33_PolicyEnds.j3 k x0 x1 x2 x3 x11 x12 x14 bt181.1 (bt181.1 != 3)) else (sizarlaw33_PolicyEnds.j3 k x0 x1 x2 x3 x11 x12 x14 bt181.1 false)))) else (sizarlaw33_PolicyEnds.j3 k x0 x1 x2 x3 x11 x12 x14 bt181.1 true))) else (some true)
def sizarlaw33_PolicyEnds.j3 : Nat → List (S35) → Int → Int → Int → Int → Int → Int → Int → Bool → Option (Bool)
  | 0, _, _, _, _, _, _, _, _, _ => none
  | k + 1, x0, x1, x2, x3, x11, x12, x14, x15, x109 => if x109 = true then (some false) else (if x14 > x12 then (sizarlaw33_PolicyEnds.j4 k x0 x1 x2 x3 x11 x12 x14 x15 true) else (sizarlaw33_PolicyEnds.j4 k x0 x1 x2 x3 x11 x12 x14 x15 (x15 == 3)))
def sizarlaw33_PolicyEnds.j4 : Nat → List (S35) → Int → Int → Int → Int → Int → Int → Int → Bool → Option (Bool)
  | 0, _, _, _, _, _, _, _, _, _ => none
  | k + 1, x0, x1, x2, x3, x11, x12, x14, x15, x116 => if x116 = true then (sizarlaw33_PolicyEnds.l0 k x0 x1 x2 x3 x11 x12 (wrap64 (x14 + 1))) else (sizarlaw33_PolicyEnds.l1 k x0 x1 x2 x3 x11 x12 x14 x15 false x0 (x0.length : Int) 0)
def sizarlaw33_PolicyEnds.l1 : Nat → List (S35) → Int → Int → Int → Int → Int → Int → Int → Bool → List (S35) → Int → Int → Option (Bool)
  | 0, _, _, _, _, _, _, _, _, _, _, _, _ => none
  | k + 1, x0, x1, x2, x3, x11, x12, x14, x15, x17, x117, x118, x119 => if x119 < x118 then (if 0 ≤ x119 then (if x119 < (x117.length : Int) then (if x17 = true then (sizarlaw33_PolicyEnds.l1 k x0 x1 x2 x3 x11 x12 x14 x15 true x117 x118 (wrap64 (x119 + 1))) else ((sizarlaw33_fits.f ((rd_T35 x117 x119).f0) ((rd_T35 x117 x119).f1) ((rd_T35 x117 x119).f2) ((rd_T35 x117 x119).f3) x1 x2 x3).bind fun t185 => (if t185 = true then (if ((rd_T35 x117 x119).f2) = x15 then (if x14 ≤ (wrap64 (x11 + ((rd_T35 x117 x119).f3))) then (sizarlaw33_PolicyEnds.l1 k x0 x1 x2 x3 x11 x12 x14 x15 (decide ((wrap64 (x11 + ((rd_T35 x117 x119).f3))) < x12)) x117 x118 (wrap64 (x119 + 1))) else (sizarlaw33_PolicyEnds.l1 k x0 x1 x2 x3 x11 x12 x14 x15 false x117 x118 (wrap64 (x119 + 1)))) else (sizarlaw33_PolicyEnds.l1 k x0 x1 x2 x3 x11 x12 x14 x15 false x117 x118 (wrap64 (x119 + 1)))) else (sizarlaw33_PolicyEnds.l1 k x0 x1 x2 x3 x11 x12 x14 x15 false x117 x118 (wrap64 (x119 + 1)))))) else (none)) else (none)) else (if x17 = true then (sizarlaw33_PolicyEnds.l0 k x0 x1 x2 x3 x11 x12 (wrap64 (x14 + 1))) else (some false))
end
def sizarlaw33_PolicyEnds.f (k : Nat) (l0 : List (S35)) (a1 : Int) (a2 : Int) (a3 : Int) (a4 : Int) : Option (Bool) := (sizarlaw33_sane.f).bind fun t176 => (if t176 = true then ((sizarref33_Few.f l0).bind fun t177 => (if t177 = true then ((policy_Check.f l0).bind fun t178 => (if t178 = 0 then (if a1 < 1 then (sizarlaw33_PolicyEnds.j0 k l0 a1 a2 a3 a4 true) else (sizarlaw33_PolicyEnds.j0 k l0 a1 a2 a3 a4 (decide (a1 > 5)))) else (sizarlaw33_PolicyEnds.j0 k l0 a1 a2 a3 a4 true))) else (sizarlaw33_PolicyEnds.j0 k l0 a1 a2 a3 a4 true))) else (some false))
theorem sizarlaw33_PolicyEnds.mono_l : ∀ k, (∀ y0 y1 y2 y3 y4 y5, LeO (sizarlaw33_PolicyEnds.j0 k y0 y1 y2 y3 y4 y5) (sizarlaw33_PolicyEnds.j0 (k + 1) y0 y1 y2 y3 y4 y5)) ∧ (∀ y0 y1 y2 y3 y4 y5 y6, LeO (sizarlaw33_PolicyEnds.j1 k y0 y1 y2 y3 y4 y5 y6) (sizarlaw33_PolicyEnds.j1 (k + 1) y0 y1 y2 y3 y4 y5 y6)) ∧ (∀ y0 y1 y2 y3 y4 y5 y6, LeO (sizarlaw33_PolicyEnds.l0 k y0 y1 y2 y3 y4 y5 y6) (sizarlaw33_PolicyEnds.l0 (k + 1) y0 y1 y2 y3 y4 y5 y6)) ∧ (∀ y0 y1 y2 y3 y4 y5 y6 y7 y8, LeO (sizarlaw33_PolicyEnds.j3 k y0 y1 y2 y3 y4 y5 y6 y7 y8) (sizarlaw33_PolicyEnds.j3 (k + 1) y0 y1 y2 y3 y4 y5 y6 y7 y8)) ∧ (∀ y0 y1 y2 y3 y4 y5 y6 y7 y8, LeO (sizarlaw33_PolicyEnds.j4 k y0 y1 y2 y3 y4 y5 y6 y7 y8) (sizarlaw33_PolicyEnds.j4 (k + 1) y0 y1 y2 y3 y4 y5 y6 y7 y8)) ∧ (∀ y0 y1 y2 y3 y4 y5 y6 y7 y8 y9 y10 y11, LeO (sizarlaw33_PolicyEnds.l1 k y0 y1 y2 y3 y4 y5 y6 y7 y8 y9 y10 y11) (sizarlaw33_PolicyEnds.l1 (k + 1) y0 y1 y2 y3 y4 y5 y6 y7 y8 y9 y10 y11))
  | 0 => ⟨fun _ _ _ _ _ _ r h => by simp [sizarlaw33_PolicyEnds.j0] at h, fun _ _ _ _ _ _ _ r h => by simp [sizarlaw33_PolicyEnds.j1] at h, fun _ _ _ _ _ _ _ r h => by simp [sizarlaw33_PolicyEnds.l0] at h, fun _ _ _ _ _ _ _ _ _ r h => by simp [sizarlaw33_PolicyEnds.j3] at h, fun _ _ _ _ _ _ _ _ _ r h => by simp [sizarlaw33_PolicyEnds.j4] at h, fun _ _ _ _ _ _ _ _ _ _ _ _ r h => by simp [sizarlaw33_PolicyEnds.l1] at h⟩
  | k + 1 => by
    obtain ⟨ih0, ih1, ih2, ih3, ih4, ih5⟩ := sizarlaw33_PolicyEnds.mono_l k
    refine ⟨?_, ?_, ?_, ?_, ?_, ?_⟩
    · intro y0 y1 y2 y3 y4 y5
      unfold sizarlaw33_PolicyEnds.j0
      repeat' first
      | (with_reducible exact ih0 _ _ _ _ _ _)
      | (with_reducible exact ih1 _ _ _ _ _ _ _)
      | (with_reducible exact ih2 _ _ _ _ _ _ _)
      | (with_reducible exact ih3 _ _ _ _ _ _ _ _ _)
      | (with_reducible exact ih4 _ _ _ _ _ _ _ _ _)
      | (with_reducible exact ih5 _ _ _ _ _ _ _ _ _ _ _ _)
      | (with_reducible exact policy_Until.mono _ _ _ _ _ _)
      | (with_reducible exact LeO.refl _)
      | (with_reducible exact LeO.none _)
      | (with_reducible refine LeO.ite ?_ ?_)
      | (with_reducible refine LeO.bind ?_ (fun _ => ?_))
      | exact ih0 _ _ _ _ _ _
      | exact ih1 _ _ _ _ _ _ _
      | exact ih2 _ _ _ _ _ _ _
      | exact ih3 _ _ _ _ _ _ _ _ _
      | exact ih4 _ _ _ _ _ _ _ _ _
      | exact ih5 _ _ _ _ _ _ _ _ _ _ _ _
      | exact policy_Until.mono _ _ _ _ _ _
      | exact LeO.none _
      | refine LeO.ite ?_ ?_
      | refine LeO.bind ?_ (fun _ => ?_)
    · intro y0 y1 y2 y3 y4 y5 y6
      unfold sizarlaw33_PolicyEnds.j1
      repeat' first
      | (with_reducible exact ih0 _ _ _ _ _ _)
      | (with_reducible exact ih1 _ _ _ _ _ _ _)
      | (with_reducible exact ih2 _ _ _ _ _ _ _)
      | (with_reducible exact ih3 _ _ _ _ _ _ _ _ _)
      | (with_reducible exact ih4 _ _ _ _ _ _ _ _ _)
      | (with_reducible exact ih5 _ _ _ _ _ _ _ _ _ _ _ _)
      | (with_reducible exact policy_Until.mono _ _ _ _ _ _)
      | (with_reducible exact LeO.refl _)
      | (with_reducible exact LeO.none _)
      | (with_reducible refine LeO.ite ?_ ?_)
      | (with_reducible refine LeO.bind ?_ (fun _ => ?_))
      | exact ih0 _ _ _ _ _ _
      | exact ih1 _ _ _ _ _ _ _
      | exact ih2 _ _ _ _ _ _ _
      | exact ih3 _ _ _ _ _ _ _ _ _
      | exact ih4 _ _ _ _ _ _ _ _ _
      | exact ih5 _ _ _ _ _ _ _ _ _ _ _ _
      | exact policy_Until.mono _ _ _ _ _ _
      | exact LeO.none _
      | refine LeO.ite ?_ ?_
      | refine LeO.bind ?_ (fun _ => ?_)
    · intro y0 y1 y2 y3 y4 y5 y6
      unfold sizarlaw33_PolicyEnds.l0
      repeat' first
      | (with_reducible exact ih0 _ _ _ _ _ _)
      | (with_reducible exact ih1 _ _ _ _ _ _ _)
      | (with_reducible exact ih2 _ _ _ _ _ _ _)
      | (with_reducible exact ih3 _ _ _ _ _ _ _ _ _)
      | (with_reducible exact ih4 _ _ _ _ _ _ _ _ _)
      | (with_reducible exact ih5 _ _ _ _ _ _ _ _ _ _ _ _)
      | (with_reducible exact policy_Until.mono _ _ _ _ _ _)
      | (with_reducible exact LeO.refl _)
      | (with_reducible exact LeO.none _)
      | (with_reducible refine LeO.ite ?_ ?_)
      | (with_reducible refine LeO.bind ?_ (fun _ => ?_))
      | exact ih0 _ _ _ _ _ _
      | exact ih1 _ _ _ _ _ _ _
      | exact ih2 _ _ _ _ _ _ _
      | exact ih3 _ _ _ _ _ _ _ _ _
      | exact ih4 _ _ _ _ _ _ _ _ _
      | exact ih5 _ _ _ _ _ _ _ _ _ _ _ _
      | exact policy_Until.mono _ _ _ _ _ _
      | exact LeO.none _
      | refine LeO.ite ?_ ?_
      | refine LeO.bind ?_ (fun _ => ?_)
    · intro y0 y1 y2 y3 y4 y5 y6 y7 y8
      unfold sizarlaw33_PolicyEnds.j3
      repeat' first
      | (with_reducible exact ih0 _ _ _ _ _ _)
      | (with_reducible exact ih1 _ _ _ _ _ _ _)
      | (with_reducible exact ih2 _ _ _ _ _ _ _)
      | (with_reducible exact ih3 _ _ _ _ _ _ _ _ _)
      | (with_reducible exact ih4 _ _ _ _ _ _ _ _ _)
      | (with_reducible exact ih5 _ _ _ _ _ _ _ _ _ _ _ _)
      | (with_reducible exact policy_Until.mono _ _ _ _ _ _)
      | (with_reducible exact LeO.refl _)
      | (with_reducible exact LeO.none _)
      | (with_reducible refine LeO.ite ?_ ?_)
      | (with_reducible refine LeO.bind ?_ (fun _ => ?_))
      | exact ih0 _ _ _ _ _ _
      | exact ih1 _ _ _ _ _ _ _
      | exact ih2 _ _ _ _ _ _ _
      | exact ih3 _ _ _ _ _ _ _ _ _
      | exact ih4 _ _ _ _ _ _ _ _ _
      | exact ih5 _ _ _ _ _ _ _ _ _ _ _ _
      | exact policy_Until.mono _ _ _ _ _ _
      | exact LeO.none _
      | refine LeO.ite ?_ ?_
      | refine LeO.bind ?_ (fun _ => ?_)
    · intro y0 y1 y2 y3 y4 y5 y6 y7 y8
      unfold sizarlaw33_PolicyEnds.j4
      repeat' first
      | (with_reducible exact ih0 _ _ _ _ _ _)
      | (with_reducible exact ih1 _ _ _ _ _ _ _)
      | (with_reducible exact ih2 _ _ _ _ _ _ _)
      | (with_reducible exact ih3 _ _ _ _ _ _ _ _ _)
      | (with_reducible exact ih4 _ _ _ _ _ _ _ _ _)
      | (with_reducible exact ih5 _ _ _ _ _ _ _ _ _ _ _ _)
      | (with_reducible exact policy_Until.mono _ _ _ _ _ _)
      | (with_reducible exact LeO.refl _)
      | (with_reducible exact LeO.none _)
      | (with_reducible refine LeO.ite ?_ ?_)
      | (with_reducible refine LeO.bind ?_ (fun _ => ?_))
      | exact ih0 _ _ _ _ _ _
      | exact ih1 _ _ _ _ _ _ _
      | exact ih2 _ _ _ _ _ _ _
      | exact ih3 _ _ _ _ _ _ _ _ _
      | exact ih4 _ _ _ _ _ _ _ _ _
      | exact ih5 _ _ _ _ _ _ _ _ _ _ _ _
      | exact policy_Until.mono _ _ _ _ _ _
      | exact LeO.none _
      | refine LeO.ite ?_ ?_
      | refine LeO.bind ?_ (fun _ => ?_)
    · intro y0 y1 y2 y3 y4 y5 y6 y7 y8 y9 y10 y11
      unfold sizarlaw33_PolicyEnds.l1
      repeat' first
      | (with_reducible exact ih0 _ _ _ _ _ _)
      | (with_reducible exact ih1 _ _ _ _ _ _ _)
      | (with_reducible exact ih2 _ _ _ _ _ _ _)
      | (with_reducible exact ih3 _ _ _ _ _ _ _ _ _)
      | (with_reducible exact ih4 _ _ _ _ _ _ _ _ _)
      | (with_reducible exact ih5 _ _ _ _ _ _ _ _ _ _ _ _)
      | (with_reducible exact policy_Until.mono _ _ _ _ _ _)
      | (with_reducible exact LeO.refl _)
      | (with_reducible exact LeO.none _)
      | (with_reducible refine LeO.ite ?_ ?_)
      | (with_reducible refine LeO.bind ?_ (fun _ => ?_))
      | exact ih0 _ _ _ _ _ _
      | exact ih1 _ _ _ _ _ _ _
      | exact ih2 _ _ _ _ _ _ _
      | exact ih3 _ _ _ _ _ _ _ _ _
      | exact ih4 _ _ _ _ _ _ _ _ _
      | exact ih5 _ _ _ _ _ _ _ _ _ _ _ _
      | exact policy_Until.mono _ _ _ _ _ _
      | exact LeO.none _
      | refine LeO.ite ?_ ?_
      | refine LeO.bind ?_ (fun _ => ?_)
theorem sizarlaw33_PolicyEnds.mono : ∀ a0 a1 a2 a3 a4 k, LeO (sizarlaw33_PolicyEnds.f k a0 a1 a2 a3 a4) (sizarlaw33_PolicyEnds.f (k + 1) a0 a1 a2 a3 a4) := by
  intro a0 a1 a2 a3 a4 k
  obtain ⟨ih0, ih1, ih2, ih3, ih4, ih5⟩ := sizarlaw33_PolicyEnds.mono_l k
  unfold sizarlaw33_PolicyEnds.f
  repeat' first
      | (with_reducible exact ih0 _ _ _ _ _ _)
      | (with_reducible exact ih1 _ _ _ _ _ _ _)
      | (with_reducible exact ih2 _ _ _ _ _ _ _)
      | (with_reducible exact ih3 _ _ _ _ _ _ _ _ _)
      | (with_reducible exact ih4 _ _ _ _ _ _ _ _ _)
      | (with_reducible exact ih5 _ _ _ _ _ _ _ _ _ _ _ _)
      | (with_reducible exact policy_Until.mono _ _ _ _ _ _)
      | (with_reducible exact LeO.refl _)
      | (with_reducible exact LeO.none _)
      | (with_reducible refine LeO.ite ?_ ?_)
      | (with_reducible refine LeO.bind ?_ (fun _ => ?_))
      | exact ih0 _ _ _ _ _ _
      | exact ih1 _ _ _ _ _ _ _
      | exact ih2 _ _ _ _ _ _ _
      | exact ih3 _ _ _ _ _ _ _ _ _
      | exact ih4 _ _ _ _ _ _ _ _ _
      | exact ih5 _ _ _ _ _ _ _ _ _ _ _ _
      | exact policy_Until.mono _ _ _ _ _ _
      | exact LeO.none _
      | refine LeO.ite ?_ ?_
      | refine LeO.bind ?_ (fun _ => ?_)
set_option maxHeartbeats 8000000 in
set_option maxRecDepth 100000 in
theorem sizarlaw33_PolicyEnds.calls (k : Nat) (A0 : Option Addr) (c0 : Nat) (l0 : List (S35)) (a1 : Int) (a2 : Int) (a3 : Int) (a4 : Int) (r : Bool) (w : World) (hr0 : Kd.C k35 w A0 l0.length l0) (hc0 : l0.length ≤ c0) (h : sizarlaw33_PolicyEnds.f k l0 a1 a2 a3 a4 = some r) :
    Calls Try.prog 7 #[.slice A0 l0.length c0, .int .i64 a1, .int .i64 a2, .int .i64 a3, .int .u16 a4] w fun e w' => e = .returned (.bool r) ∧ Below w.heap.size w w' := by
  have hu35 := Try.underlying35
  have HR0 := Aside0.mk hr0
  have HC0 := Aside0.mk hc0
  clear hr0 hc0
  have HB := Aside0.mk (Below.refl w.heap.size w)
  have H : ((sizarlaw33_sane.f).bind fun t176 => (if t176 = true then ((sizarref33_Few.f l0).bind fun t177 => (if t177 = true then ((policy_Check.f l0).bind fun t178 => (if t178 = 0 then (if a1 < 1 then (sizarlaw33_PolicyEnds.j0 k l0 a1 a2 a3 a4 true) else (sizarlaw33_PolicyEnds.j0 k l0 a1 a2 a3 a4 (decide (a1 > 5)))) else (sizarlaw33_PolicyEnds.j0 k l0 a1 a2 a3 a4 true))) else (sizarlaw33_PolicyEnds.j0 k l0 a1 a2 a3 a4 true))) else (some false))) = some r := h
  clear h
  replace H := Option.bind_eq_some_iff.mp H
  obtain ⟨t176, A60, H⟩ := H
  replace H : (if t176 = true then ((sizarref33_Few.f l0).bind fun t177 => (if t177 = true then ((policy_Check.f l0).bind fun t178 => (if t178 = 0 then (if a1 < 1 then (sizarlaw33_PolicyEnds.j0 k l0 a1 a2 a3 a4 true) else (sizarlaw33_PolicyEnds.j0 k l0 a1 a2 a3 a4 (decide (a1 > 5)))) else (sizarlaw33_PolicyEnds.j0 k l0 a1 a2 a3 a4 true))) else (sizarlaw33_PolicyEnds.j0 k l0 a1 a2 a3 a4 true))) else (some false)) = some r := H
  have A6 := Aside0.mk A60
  clear A60
  by_cases c7 : t176 = true
  · subst c7
    have H1 : ((sizarref33_Few.f l0).bind fun t177 => (if t177 = true then ((policy_Check.f l0).bind fun t178 => (if t178 = 0 then (if a1 < 1 then (sizarlaw33_PolicyEnds.j0 k l0 a1 a2 a3 a4 true) else (sizarlaw33_PolicyEnds.j0 k l0 a1 a2 a3 a4 (decide (a1 > 5)))) else (sizarlaw33_PolicyEnds.j0 k l0 a1 a2 a3 a4 true))) else (sizarlaw33_PolicyEnds.j0 k l0 a1 a2 a3 a4 true))) = some r := by rw [if_pos rfl] at H; exact H
    clear H
    have H := H1
    clear H1
    have HC8 := Aside0.mk H
    clear H
    go_enter Try.func7, Try.ntmps7
    go_upto_region 3 with (first | ((with_reducible refine gate_callee (f := 10) rfl ?_); refine goesL_ (some 20) rfl rfl Try.func10 (by kernel_rfl) rfl #[] rfl (by (try simp only [List.map_toArray, List.map_cons, List.map_nil]); first | done | rfl | (simp only [List.length_drop, List.length_take]; rfl)) ?_; (with_reducible refine (sizarlaw33_sane.calls  true _ A6.out).mono ?_); rintro e w9 ⟨rfl, hb⟩; refine ⟨_, rfl, ?_⟩; have n0_ := Aside0.mk (below_step (by repeat (first | (with_reducible first | exact HB.out | apply below_alloc | apply pw_below_drewN | apply below_drew1) | exact HB.out)) hb); clear HB; have HB := n0_; clear n0_; (try clear hb); (try clear hb2); (try clear hk); (try clear hi)))
    (try simp only [Act.put, List.setIfInBounds_toArray, List.set_cons_zero, List.set_cons_succ])
    go_cut [37] (fun v37 wc => ∃ (kq : Nat) (x37_7 : Bool), v37 = .bool x37_7 ∧ Aside0 (sizarlaw33_PolicyEnds.j0 kq l0 a1 a2 a3 a4 x37_7 = some r) ∧ Aside0 (kq ≤ k) ∧ Aside0 (Below w.heap.size w wc))
    case first =>
      have H := HC8.out
      clear HC8
      replace H := Option.bind_eq_some_iff.mp H
      obtain ⟨t177, A100, H⟩ := H
      replace H : (if t177 = true then ((policy_Check.f l0).bind fun t178 => (if t178 = 0 then (if a1 < 1 then (sizarlaw33_PolicyEnds.j0 k l0 a1 a2 a3 a4 true) else (sizarlaw33_PolicyEnds.j0 k l0 a1 a2 a3 a4 (decide (a1 > 5)))) else (sizarlaw33_PolicyEnds.j0 k l0 a1 a2 a3 a4 true))) else (sizarlaw33_PolicyEnds.j0 k l0 a1 a2 a3 a4 true)) = some r := H
      have A10 := Aside0.mk A100
      clear A100
      by_cases c11 : t177 = true
      · subst c11
        have H1 : ((policy_Check.f l0).bind fun t178 => (if t178 = 0 then (if a1 < 1 then (sizarlaw33_PolicyEnds.j0 k l0 a1 a2 a3 a4 true) else (sizarlaw33_PolicyEnds.j0 k l0 a1 a2 a3 a4 (decide (a1 > 5)))) else (sizarlaw33_PolicyEnds.j0 k l0 a1 a2 a3 a4 true))) = some r := by rw [if_pos rfl] at H; exact H
        clear H
        have H := H1
        clear H1
        replace H := Option.bind_eq_some_iff.mp H
        obtain ⟨t178, A120, H⟩ := H
        replace H : (if t178 = 0 then (if a1 < 1 then (sizarlaw33_PolicyEnds.j0 k l0 a1 a2 a3 a4 true) else (sizarlaw33_PolicyEnds.j0 k l0 a1 a2 a3 a4 (decide (a1 > 5)))) else (sizarlaw33_PolicyEnds.j0 k l0 a1 a2 a3 a4 true)) = some r := H
        have A12 := Aside0.mk A120
        clear A120
        by_cases c13 : t178 = 0
        · rw [if_pos c13] at H
          have c13b0 : (t178 == 0) = true := beq_iff_eq.mpr c13
          have c13b1 : (t178 != 0) = false := bne_eq_false_iff_eq.mpr c13
          clear c13
          (first | rw [c13b0] | (simp only [i64_w, i32_w]; rw [c13b0]) | skip)
          by_cases c14 : a1 < 1
          · rw [if_pos c14] at H
            have c14b0 : decide (a1 < 1) = true := decide_eq_true c14
            clear c14
            have H' := Aside0.mk H
            clear H
            go_wp2_with (first | ((with_reducible refine gate_callee (f := 11) rfl ?_); refine goesL_ (some 23) rfl rfl Try.func11 (by kernel_rfl) rfl #[.slice A0 l0.length c0] rfl (by (try simp only [List.map_toArray, List.map_cons, List.map_nil]); first | done | rfl | (simp only [List.length_drop, List.length_take]; rfl)) ?_; (with_reducible refine (sizarref33_Few.calls _ _ l0 true _ ?side1 ?side2 A10.out).mono ?_); (case side1 => repeat (first | exact (Kd.C_below HR0.out HB.out) | (with_reducible refine Kd.C_alloc ?_ _) | (with_reducible refine Kd.C_drewN ?_ _) | (with_reducible refine Kd.C_drew ?_))); (case side2 => exact HC0.out); rintro e w' ⟨rfl, ⟨nd, rfl⟩⟩; refine ⟨_, rfl, ?_⟩) | (go_at_call 14; (with_reducible refine (policy_Check.calls _ _ l0 t178 _ ?side1 ?side2 A12.out).mono ?_); (case side1 => repeat (first | exact (Kd.C_below HR0.out (by repeat (first | (with_reducible first | exact HB.out | apply below_alloc | apply pw_below_drewN | apply below_drew1) | exact HB.out))) | (with_reducible refine Kd.C_alloc ?_ _) | (with_reducible refine Kd.C_drewN ?_ _) | (with_reducible refine Kd.C_drew ?_))); (case side2 => exact HC0.out); rintro e w15 ⟨rfl, hb⟩; have n0_ := Aside0.mk (below_step (by repeat (first | (with_reducible first | exact HB.out | apply below_alloc | apply pw_below_drewN | apply below_drew1) | exact HB.out)) hb); clear HB; have HB := n0_; clear n0_; (try clear hb); (try clear hb2); (try clear hk); (try clear hi)))
            go_meet
            case rel => exact ⟨_, (true), (by first | rfl | (simp; done) | (simp [*]; done)), H', ⟨by first | omega | exact Nat.le_refl _⟩, ⟨by repeat (first | (with_reducible first | exact HB.out | apply below_alloc | apply pw_below_drewN | apply below_drew1) | exact HB.out)⟩⟩
          · rw [if_neg c14] at H
            have c14b0 : decide (a1 < 1) = false := decide_eq_false c14
            clear c14
            have H' := Aside0.mk H
            clear H
            go_wp2_with (first | ((with_reducible refine gate_callee (f := 11) rfl ?_); refine goesL_ (some 23) rfl rfl Try.func11 (by kernel_rfl) rfl #[.slice A0 l0.length c0] rfl (by (try simp only [List.map_toArray, List.map_cons, List.map_nil]); first | done | rfl | (simp only [List.length_drop, List.length_take]; rfl)) ?_; (with_reducible refine (sizarref33_Few.calls _ _ l0 true _ ?side1 ?side2 A10.out).mono ?_); (case side1 => repeat (first | exact (Kd.C_below HR0.out HB.out) | (with_reducible refine Kd.C_alloc ?_ _) | (with_reducible refine Kd.C_drewN ?_ _) | (with_reducible refine Kd.C_drew ?_))); (case side2 => exact HC0.out); rintro e w' ⟨rfl, ⟨nd, rfl⟩⟩; refine ⟨_, rfl, ?_⟩) | (go_at_call 14; (with_reducible refine (policy_Check.calls _ _ l0 t178 _ ?side1 ?side2 A12.out).mono ?_); (case side1 => repeat (first | exact (Kd.C_below HR0.out (by repeat (first | (with_reducible first | exact HB.out | apply below_alloc | apply pw_below_drewN | apply below_drew1) | exact HB.out))) | (with_reducible refine Kd.C_alloc ?_ _) | (with_reducible refine Kd.C_drewN ?_ _) | (with_reducible refine Kd.C_drew ?_))); (case side2 => exact HC0.out); rintro e w16 ⟨rfl, hb⟩; have n0_ := Aside0.mk (below_step (by repeat (first | (with_reducible first | exact HB.out | apply below_alloc | apply pw_below_drewN | apply below_drew1) | exact HB.out)) hb); clear HB; have HB := n0_; clear n0_; (try clear hb); (try clear hb2); (try clear hk); (try clear hi)))
            go_meet
            case rel => exact ⟨_, (decide (a1 > 5)), (by first | rfl | (simp; done) | (simp [*]; done)), H', ⟨by first | omega | exact Nat.le_refl _⟩, ⟨by repeat (first | (with_reducible first | exact HB.out | apply below_alloc | apply pw_below_drewN | apply below_drew1) | exact HB.out)⟩⟩
        · rw [if_neg c13] at H
          have c13b0 : (t178 == 0) = false := beq_eq_false_iff_ne.mpr c13
          have c13b1 : (t178 != 0) = true := bne_iff_ne.mpr c13
          (first | rw [c13b0] | (simp only [i64_w, i32_w]; rw [c13b0]) | skip)
          have H' := Aside0.mk H
          clear H
          go_wp2_with (first | ((with_reducible refine gate_callee (f := 11) rfl ?_); refine goesL_ (some 23) rfl rfl Try.func11 (by kernel_rfl) rfl #[.slice A0 l0.length c0] rfl (by (try simp only [List.map_toArray, List.map_cons, List.map_nil]); first | done | rfl | (simp only [List.length_drop, List.length_take]; rfl)) ?_; (with_reducible refine (sizarref33_Few.calls _ _ l0 true _ ?side1 ?side2 A10.out).mono ?_); (case side1 => repeat (first | exact (Kd.C_below HR0.out HB.out) | (with_reducible refine Kd.C_alloc ?_ _) | (with_reducible refine Kd.C_drewN ?_ _) | (with_reducible refine Kd.C_drew ?_))); (case side2 => exact HC0.out); rintro e w' ⟨rfl, ⟨nd, rfl⟩⟩; refine ⟨_, rfl, ?_⟩) | (go_at_call 14; (with_reducible refine (policy_Check.calls _ _ l0 t178 _ ?side1 ?side2 A12.out).mono ?_); (case side1 => repeat (first | exact (Kd.C_below HR0.out (by repeat (first | (with_reducible first | exact HB.out | apply below_alloc | apply pw_below_drewN | apply below_drew1) | exact HB.out))) | (with_reducible refine Kd.C_alloc ?_ _) | (with_reducible refine Kd.C_drewN ?_ _) | (with_reducible refine Kd.C_drew ?_))); (case side2 => exact HC0.out); rintro e w17 ⟨rfl, hb⟩; have n0_ := Aside0.mk (below_step (by repeat (first | (with_reducible first | exact HB.out | apply below_alloc | apply pw_below_drewN | apply below_drew1) | exact HB.out)) hb); clear HB; have HB := n0_; clear n0_; (try clear hb); (try clear hb2); (try clear hk); (try clear hi)))
          go_meet
          case rel => exact ⟨_, (true), (by first | rfl | (simp; done) | (simp [*]; done)), H', ⟨by first | omega | exact Nat.le_refl _⟩, ⟨by repeat (first | (with_reducible first | exact HB.out | apply below_alloc | apply pw_below_drewN | apply below_drew1) | exact HB.out)⟩⟩
      · replace c11 := Bool.eq_false_iff.mpr c11
        subst c11
        have H1 : (sizarlaw33_PolicyEnds.j0 k l0 a1 a2 a3 a4 true) = some r := by rw [if_neg (show ¬ (false = true) by decide)] at H; exact H
        clear H
        have H := H1
        clear H1
        have H' := Aside0.mk H
        clear H
        go_wp2_with (first | ((with_reducible refine gate_callee (f := 11) rfl ?_); refine goesL_ (some 23) rfl rfl Try.func11 (by kernel_rfl) rfl #[.slice A0 l0.length c0] rfl (by (try simp only [List.map_toArray, List.map_cons, List.map_nil]); first | done | rfl | (simp only [List.length_drop, List.length_take]; rfl)) ?_; (with_reducible refine (sizarref33_Few.calls _ _ l0 false _ ?side1 ?side2 A10.out).mono ?_); (case side1 => repeat (first | exact (Kd.C_below HR0.out HB.out) | (with_reducible refine Kd.C_alloc ?_ _) | (with_reducible refine Kd.C_drewN ?_ _) | (with_reducible refine Kd.C_drew ?_))); (case side2 => exact HC0.out); rintro e w' ⟨rfl, ⟨nd, rfl⟩⟩; refine ⟨_, rfl, ?_⟩))
        go_meet
        case rel => exact ⟨_, (true), (by first | rfl | (simp; done) | (simp [*]; done)), H', ⟨by first | omega | exact Nat.le_refl _⟩, ⟨by repeat (first | (with_reducible first | exact HB.out | apply below_alloc | apply pw_below_drewN | apply below_drew1) | exact HB.out)⟩⟩
    case rest =>
      clear HC8
      try clear c1
      try clear p2
      try clear c7
      try clear c10
      try clear c11
      try clear c13
      try clear c13b0
      try clear c13b1
      try clear c14
      try clear c14b0
      obtain ⟨kq, x37_7, rfl, HA, HJ7, HB⟩ := hcut
      cases kq with
      | zero => exact absurd HA.out (by simp [sizarlaw33_PolicyEnds.j0])
      | succ kj7 =>
        have H := HA.out
        clear HA
        simp only [sizarlaw33_PolicyEnds.j0] at H
        by_cases c18 : x37_7 = true
        · subst c18
          have H1 : (some true) = some r := by rw [if_pos rfl] at H; exact H
          clear H
          have H := H1
          clear H1
          obtain rfl := Option.some.inj H
          go_wp2
          go_ret
          exact ⟨by first | rfl | (simp [errW_none, errW_some] <;> rfl) | (simp [*, errW_none, errW_some] <;> rfl), by repeat (first | (with_reducible first | exact HB.out | apply below_alloc | apply pw_below_drewN | apply below_drew1) | exact HB.out)⟩
        · replace c18 := Bool.eq_false_iff.mpr c18
          subst c18
          have H1 : ((policy_Until.f kj7 l0 a1 a2 a3 (Int.tmod (wrap64 (a4)) 1024)).bind fun bt179 => (if bt179.2 = 0 then (if bt179.1 < (-1) then (sizarlaw33_PolicyEnds.j1 kj7 l0 a1 a2 a3 (Int.tmod (wrap64 (a4)) 1024) bt179.1 true) else (if bt179.1 ≥ 1024 then (sizarlaw33_PolicyEnds.j1 kj7 l0 a1 a2 a3 (Int.tmod (wrap64 (a4)) 1024) bt179.1 true) else (sizarlaw33_PolicyEnds.j1 kj7 l0 a1 a2 a3 (Int.tmod (wrap64 (a4)) 1024) bt179.1 (decide (bt179.1 > (wrap64 ((Int.tmod (wrap64 (a4)) 1024) + 12))))))) else (sizarlaw33_PolicyEnds.j1 kj7 l0 a1 a2 a3 (Int.tmod (wrap64 (a4)) 1024) bt179.1 true))) = some r := by rw [if_neg (show ¬ (false = true) by decide)] at H; exact H
          clear H
          have H := H1
          clear H1
          replace H := Option.bind_eq_some_iff.mp H
          obtain ⟨⟨t179, t180⟩, A190, H⟩ := H
          replace H : (if t180 = 0 then (if t179 < (-1) then (sizarlaw33_PolicyEnds.j1 kj7 l0 a1 a2 a3 (Int.tmod (wrap64 (a4)) 1024) t179 true) else (if t179 ≥ 1024 then (sizarlaw33_PolicyEnds.j1 kj7 l0 a1 a2 a3 (Int.tmod (wrap64 (a4)) 1024) t179 true) else (sizarlaw33_PolicyEnds.j1 kj7 l0 a1 a2 a3 (Int.tmod (wrap64 (a4)) 1024) t179 (decide (t179 > (wrap64 ((Int.tmod (wrap64 (a4)) 1024) + 12))))))) else (sizarlaw33_PolicyEnds.j1 kj7 l0 a1 a2 a3 (Int.tmod (wrap64 (a4)) 1024) t179 true)) = some r := H
          have A19 := Aside0.mk A190
          clear A190
          have HC20 := Aside0.mk H
          clear H
          go_upto_region 7 with (first | ((with_reducible refine gate_callee (f := 16) rfl ?_); refine goesL_ (some 47) rfl rfl Try.func16 (by kernel_rfl) rfl #[.slice A0 l0.length c0, .int .i64 a1, .int .i64 a2, .int .i64 a3, .int .i64 (Int.tmod (wrap64 (a4)) 1024)] rfl (by (try simp only [List.map_toArray, List.map_cons, List.map_nil]); first | done | rfl | (simp only [List.length_drop, List.length_take]; rfl)) ?_; (with_reducible refine (policy_Until.calls kj7 _ _ l0 a1 a2 a3 (Int.tmod (wrap64 (a4)) 1024) t179 t180 _ ?side1 ?side2 A19.out).mono ?_); (case side1 => repeat (first | exact (Kd.C_below HR0.out HB.out) | (with_reducible refine Kd.C_alloc ?_ _) | (with_reducible refine Kd.C_drewN ?_ _) | (with_reducible refine Kd.C_drew ?_))); (case side2 => exact HC0.out); rintro e w21 ⟨rfl, hb⟩; refine ⟨_, rfl, ?_⟩; have n0_ := Aside0.mk (below_step (by repeat (first | (with_reducible first | exact HB.out | apply below_alloc | apply pw_below_drewN | apply below_drew1) | exact HB.out)) hb); clear HB; have HB := n0_; clear n0_; (try clear hb); (try clear hb2); (try clear hk); (try clear hi)))
          (try simp only [Act.put, List.setIfInBounds_toArray, List.set_cons_zero, List.set_cons_succ])
          go_cut [65] (fun v65 wc => ∃ (kq : Nat) (x65_19 : Bool), v65 = .bool x65_19 ∧ Aside0 (sizarlaw33_PolicyEnds.j1 kq l0 a1 a2 a3 (Int.tmod (wrap64 (a4)) 1024) t179 x65_19 = some r) ∧ Aside0 (kq ≤ kj7) ∧ Aside0 (Below w.heap.size w wc))
          case first =>
            have H := HC20.out
            clear HC20
            by_cases c22 : t180 = 0
            · rw [if_pos c22] at H
              have c22b0 : (t180 == 0) = true := beq_iff_eq.mpr c22
              have c22b1 : (t180 != 0) = false := bne_eq_false_iff_eq.mpr c22
              clear c22
              (first | rw [c22b0] | (simp only [i64_w, i32_w]; rw [c22b0]) | skip)
              by_cases c23 : t179 < (-1)
              · rw [if_pos c23] at H
                have c23b0 : decide (t179 < (-1)) = true := decide_eq_true c23
                clear c23
                have H' := Aside0.mk H
                clear H
                go_wp2
                go_meet
                case rel => exact ⟨_, (true), (by first | rfl | (simp; done) | (simp [*]; done)), H', ⟨by have := HJ7.out; first | omega | exact Nat.le_refl _⟩, ⟨by repeat (first | (with_reducible first | exact HB.out | apply below_alloc | apply pw_below_drewN | apply below_drew1) | exact HB.out)⟩⟩
              · rw [if_neg c23] at H
                have c23b0 : decide (t179 < (-1)) = false := decide_eq_false c23
                clear c23
                by_cases c24 : t179 ≥ 1024
                · rw [if_pos c24] at H
                  have c24b0 : decide (1024 ≤ t179) = true := decide_eq_true c24
                  clear c24
                  have H' := Aside0.mk H
                  clear H
                  go_wp2
                  go_meet
                  case rel => exact ⟨_, (true), (by first | rfl | (simp; done) | (simp [*]; done)), H', ⟨by have := HJ7.out; first | omega | exact Nat.le_refl _⟩, ⟨by repeat (first | (with_reducible first | exact HB.out | apply below_alloc | apply pw_below_drewN | apply below_drew1) | exact HB.out)⟩⟩
                · rw [if_neg c24] at H
                  have c24b0 : decide (1024 ≤ t179) = false := decide_eq_false c24
                  clear c24
                  have H' := Aside0.mk H
                  clear H
                  go_wp2
                  go_meet
                  case rel => exact ⟨_, (decide (t179 > (wrap64 ((Int.tmod (wrap64 (a4)) 1024) + 12)))), (by first | rfl | (simp; done) | (simp [*]; done)), H', ⟨by have := HJ7.out; first | omega | exact Nat.le_refl _⟩, ⟨by repeat (first | (with_reducible first | exact HB.out | apply below_alloc | apply pw_below_drewN | apply below_drew1) | exact HB.out)⟩⟩
            · rw [if_neg c22] at H
              have c22b0 : (t180 == 0) = false := beq_eq_false_iff_ne.mpr c22
              have c22b1 : (t180 != 0) = true := bne_iff_ne.mpr c22
              (first | rw [c22b0] | (simp only [i64_w, i32_w]; rw [c22b0]) | skip)
              have H' := Aside0.mk H
              clear H
              go_wp2
              go_meet
              case rel => exact ⟨_, (true), (by first | rfl | (simp; done) | (simp [*]; done)), H', ⟨by have := HJ7.out; first | omega | exact Nat.le_refl _⟩, ⟨by repeat (first | (with_reducible first | exact HB.out | apply below_alloc | apply pw_below_drewN | apply below_drew1) | exact HB.out)⟩⟩
          case rest =>
            clear HC20
            try clear c1
            try clear c2
            try clear p2
            try clear p6
            try clear c7
            try clear c10
            try clear c11
            try clear c13
            try clear c13b0
            try clear c13b1
            try clear c14
            try clear c14b0
            try clear c16
            try clear c18
            try clear c22
            try clear c22b0
            try clear c22b1
            try clear c23
            try clear c23b0
            try clear c24
            try clear c24b0
            try clear p2
            obtain ⟨kq, x65_19, rfl, HA, HJ19, HB⟩ := hcut
            cases kq with
            | zero => exact absurd HA.out (by simp [sizarlaw33_PolicyEnds.j1])
            | succ kj19 =>
              have H := HA.out
              clear HA
              simp only [sizarlaw33_PolicyEnds.j1] at H
              by_cases c25 : x65_19 = true
              · subst c25
                have H1 : (some false) = some r := by rw [if_pos rfl] at H; exact H
                clear H
                have H := H1
                clear H1
                obtain rfl := Option.some.inj H
                go_wp2
                go_ret
                exact ⟨by first | rfl | (simp [errW_none, errW_some] <;> rfl) | (simp [*, errW_none, errW_some] <;> rfl), by repeat (first | (with_reducible first | exact HB.out | apply below_alloc | apply pw_below_drewN | apply below_drew1) | exact HB.out)⟩
              · replace c25 := Bool.eq_false_iff.mpr c25
                subst c25
                have H1 : (sizarlaw33_PolicyEnds.l0 kj19 l0 a1 a2 a3 (Int.tmod (wrap64 (a4)) 1024) t179 0) = some r := by rw [if_neg (show ¬ (false = true) by decide)] at H; exact H
                clear H
                have H := H1
                clear H1
                have H' := Aside0.mk H
                clear H
                go_wp2
                go_loopg [14] kj19 (fun kq v14 w' => ∃ (x14_3 : Int), v14 = .int .i64 x14_3 ∧ Aside0 (sizarlaw33_PolicyEnds.l0 kq l0 a1 a2 a3 (Int.tmod (wrap64 (a4)) 1024) t179 x14_3 = some r) ∧ Aside0 (kq ≤ kj19) ∧ Aside0 (Below w.heap.size w w'))
                case atStart => exact ⟨(0), (by first | rfl | (simp; done) | (simp [*]; done)), H', ⟨Nat.le_refl _⟩, ⟨by repeat (first | (with_reducible first | exact HB.out | apply below_alloc | apply pw_below_drewN | apply below_drew1) | exact HB.out)⟩⟩
                case round =>
                  clear H'
                  try clear c1
                  try clear c2
                  try clear p2
                  try clear p6
                  try clear c7
                  try clear c10
                  try clear c11
                  try clear c13
                  try clear c13b0
                  try clear c13b1
                  try clear c14
                  try clear c14b0
                  try clear c16
                  try clear c18
                  try clear c22
                  try clear c22b0
                  try clear c22b1
                  try clear c23
                  try clear c23b0
                  try clear c24
                  try clear c24b0
                  try clear c25
                  try clear p2
                  try clear p6
                  obtain ⟨x14_3, rfl, HA, HK3, HB⟩ := hrel
                  cases gk with
                  | zero => exact absurd HA.out (by simp [sizarlaw33_PolicyEnds.l0])
                  | succ k3 =>
                    have H := HA.out
                    clear HA
                    simp only [sizarlaw33_PolicyEnds.l0] at H
                    by_cases c26 : x14_3 < 1024
                    · rw [if_pos c26] at H
                      have c26b0 : decide (x14_3 < 1024) = true := decide_eq_true c26
                      clear c26
                      replace H := Option.bind_eq_some_iff.mp H
                      obtain ⟨⟨t181, t182⟩, A270, H⟩ := H
                      replace H : (if t182 = 0 then (if x14_3 > (wrap64 ((Int.tmod (wrap64 (a4)) 1024) + 12)) then (if t181 = 1 then (if x14_3 > t179 then (if t181 = 3 then (sizarlaw33_PolicyEnds.j3 k3 l0 a1 a2 a3 (Int.tmod (wrap64 (a4)) 1024) t179 x14_3 t181 true) else (if x14_3 = t179 then (sizarlaw33_PolicyEnds.j3 k3 l0 a1 a2 a3 (Int.tmod (wrap64 (a4)) 1024) t179 x14_3 t181 (t181 != 3)) else (sizarlaw33_PolicyEnds.j3 k3 l0 a1 a2 a3 (Int.tmod (wrap64 (a4)) 1024) t179 x14_3 t181 false))) else (if x14_3 = t179 then (sizarlaw33_PolicyEnds.j3 k3 l0 a1 a2 a3 (Int.tmod (wrap64 (a4)) 1024) t179 x14_3 t181 (t181 != 3)) else (sizarlaw33_PolicyEnds.j3 k3 l0 a1 a2 a3 (Int.tmod (wrap64 (a4)) 1024) t179 x14_3 t181 false))) else (sizarlaw33_PolicyEnds.j3 k3 l0 a1 a2 a3 (Int.tmod (wrap64 (a4)) 1024) t179 x14_3 t181 true)) else (if x14_3 > t179 then (if t181 = 3 then (sizarlaw33_PolicyEnds.j3 k3 l0 a1 a2 a3 (Int.tmod (wrap64 (a4)) 1024) t179 x14_3 t181 true) else (if x14_3 = t179 then (sizarlaw33_PolicyEnds.j3 k3 l0 a1 a2 a3 (Int.tmod (wrap64 (a4)) 1024) t179 x14_3 t181 (t181 != 3)) else (sizarlaw33_PolicyEnds.j3 k3 l0 a1 a2 a3 (Int.tmod (wrap64 (a4)) 1024) t179 x14_3 t181 false))) else (if x14_3 = t179 then (sizarlaw33_PolicyEnds.j3 k3 l0 a1 a2 a3 (Int.tmod (wrap64 (a4)) 1024) t179 x14_3 t181 (t181 != 3)) else (sizarlaw33_PolicyEnds.j3 k3 l0 a1 a2 a3 (Int.tmod (wrap64 (a4)) 1024) t179 x14_3 t181 false)))) else (sizarlaw33_PolicyEnds.j3 k3 l0 a1 a2 a3 (Int.tmod (wrap64 (a4)) 1024) t179 x14_3 t181 true)) = some r := H
                      have A27 := Aside0.mk A270
                      clear A270
                      have HC28 := Aside0.mk H
                      clear H
                      go_upto_region 13 with (first | ((with_reducible refine gate_callee (f := 12) rfl ?_); refine goesL_ (some 77) rfl rfl Try.func12 (by kernel_rfl) rfl #[.slice A0 l0.length c0, .int .i64 a1, .int .i64 a2, .int .i64 a3, .int .i64 (Int.tmod (wrap64 (a4)) 1024), .int .i64 x14_3] rfl (by (try simp only [List.map_toArray, List.map_cons, List.map_nil]); first | done | rfl | (simp only [List.length_drop, List.length_take]; rfl)) ?_; (with_reducible refine (policy_Action.calls _ _ l0 a1 a2 a3 (Int.tmod (wrap64 (a4)) 1024) x14_3 t181 t182 _ ?side1 ?side2 A27.out).mono ?_); (case side1 => repeat (first | exact (Kd.C_below HR0.out HB.out) | (with_reducible refine Kd.C_alloc ?_ _) | (with_reducible refine Kd.C_drewN ?_ _) | (with_reducible refine Kd.C_drew ?_))); (case side2 => exact HC0.out); rintro e w29 ⟨rfl, hb⟩; refine ⟨_, rfl, ?_⟩; have n0_ := Aside0.mk (below_step (by repeat (first | (with_reducible first | exact HB.out | apply below_alloc | apply pw_below_drewN | apply below_drew1) | exact HB.out)) hb); clear HB; have HB := n0_; clear n0_; (try clear hb); (try clear hb2); (try clear hk); (try clear hi)))
                      (try simp only [Act.put, List.setIfInBounds_toArray, List.set_cons_zero, List.set_cons_succ])
                      go_cut [109] (fun v109 wc => ∃ (kq : Nat) (x109_27 : Bool), v109 = .bool x109_27 ∧ Aside0 (sizarlaw33_PolicyEnds.j3 kq l0 a1 a2 a3 (Int.tmod (wrap64 (a4)) 1024) t179 x14_3 t181 x109_27 = some r) ∧ Aside0 (kq ≤ k3) ∧ Aside0 (Below w.heap.size w wc))
                      case first =>
                        have H := HC28.out
                        clear HC28
                        by_cases c30 : t182 = 0
                        · rw [if_pos c30] at H
                          have c30b0 : (t182 == 0) = true := beq_iff_eq.mpr c30
                          have c30b1 : (t182 != 0) = false := bne_eq_false_iff_eq.mpr c30
                          clear c30
                          (first | rw [c30b0] | (simp only [i64_w, i32_w]; rw [c30b0]) | skip)
                          by_cases c31 : x14_3 > (wrap64 ((Int.tmod (wrap64 (a4)) 1024) + 12))
                          · rw [if_pos c31] at H
                            have c31b0 : decide ((wrap64 ((Int.tmod (wrap64 (a4)) 1024) + 12)) < x14_3) = true := decide_eq_true c31
                            clear c31
                            by_cases c32 : t181 = 1
                            · rw [if_pos c32] at H
                              have c32b0 : (t181 == 1) = true := beq_iff_eq.mpr c32
                              have c32b1 : (t181 != 1) = false := bne_eq_false_iff_eq.mpr c32
                              clear c32
                              by_cases c33 : x14_3 > t179
                              · rw [if_pos c33] at H
                                have c33b0 : decide (t179 < x14_3) = true := decide_eq_true c33
                                clear c33
                                by_cases c34 : t181 = 3
                                · rw [if_pos c34] at H
                                  have c34b0 : (t181 == 3) = true := beq_iff_eq.mpr c34
                                  have c34b1 : (t181 != 3) = false := bne_eq_false_iff_eq.mpr c34
                                  clear c34
                                  have H' := Aside0.mk H
                                  clear H
                                  go_wp2
                                  go_meet
                                  case rel => exact ⟨_, (true), (by first | rfl | (simp; done) | (simp [*]; done)), H', ⟨by have := HJ7.out; have := HJ19.out; have := HK3.out; first | omega | exact Nat.le_refl _⟩, ⟨by repeat (first | (with_reducible first | exact HB.out | apply below_alloc | apply pw_below_drewN | apply below_drew1) | exact HB.out)⟩⟩
                                · rw [if_neg c34] at H
                                  have c34b0 : (t181 == 3) = false := beq_eq_false_iff_ne.mpr c34
                                  have c34b1 : (t181 != 3) = true := bne_iff_ne.mpr c34
                                  by_cases c35 : x14_3 = t179
                                  · rw [if_pos c35] at H
                                    have c35b0 : (x14_3 == t179) = true := beq_iff_eq.mpr c35
                                    have c35b1 : (x14_3 != t179) = false := bne_eq_false_iff_eq.mpr c35
                                    clear c35
                                    have H' := Aside0.mk H
                                    clear H
                                    go_wp2
                                    go_meet
                                    case rel => exact ⟨_, ((t181 != 3)), (by first | rfl | (simp; done) | (simp [*]; done)), H', ⟨by have := HJ7.out; have := HJ19.out; have := HK3.out; first | omega | exact Nat.le_refl _⟩, ⟨by repeat (first | (with_reducible first | exact HB.out | apply below_alloc | apply pw_below_drewN | apply below_drew1) | exact HB.out)⟩⟩
                                  · rw [if_neg c35] at H
                                    have c35b0 : (x14_3 == t179) = false := beq_eq_false_iff_ne.mpr c35
                                    have c35b1 : (x14_3 != t179) = true := bne_iff_ne.mpr c35
                                    have H' := Aside0.mk H
                                    clear H
                                    go_wp2
                                    go_meet
                                    case rel => exact ⟨_, (false), (by first | rfl | (simp; done) | (simp [*]; done)), H', ⟨by have := HJ7.out; have := HJ19.out; have := HK3.out; first | omega | exact Nat.le_refl _⟩, ⟨by repeat (first | (with_reducible first | exact HB.out | apply below_alloc | apply pw_below_drewN | apply below_drew1) | exact HB.out)⟩⟩
                              · rw [if_neg c33] at H
                                have c33b0 : decide (t179 < x14_3) = false := decide_eq_false c33
                                clear c33
                                by_cases c36 : x14_3 = t179
                                · rw [if_pos c36] at H
                                  have c36b0 : (x14_3 == t179) = true := beq_iff_eq.mpr c36
                                  have c36b1 : (x14_3 != t179) = false := bne_eq_false_iff_eq.mpr c36
                                  clear c36
                                  have H' := Aside0.mk H
                                  clear H
                                  go_wp2
                                  go_meet
                                  case rel => exact ⟨_, ((t181 != 3)), (by first | rfl | (simp; done) | (simp [*]; done)), H', ⟨by have := HJ7.out; have := HJ19.out; have := HK3.out; first | omega | exact Nat.le_refl _⟩, ⟨by repeat (first | (with_reducible first | exact HB.out | apply below_alloc | apply pw_below_drewN | apply below_drew1) | exact HB.out)⟩⟩
                                · rw [if_neg c36] at H
                                  have c36b0 : (x14_3 == t179) = false := beq_eq_false_iff_ne.mpr c36
                                  have c36b1 : (x14_3 != t179) = true := bne_iff_ne.mpr c36
                                  have H' := Aside0.mk H
                                  clear H
                                  go_wp2
                                  go_meet
                                  case rel => exact ⟨_, (false), (by first | rfl | (simp; done) | (simp [*]; done)), H', ⟨by have := HJ7.out; have := HJ19.out; have := HK3.out; first | omega | exact Nat.le_refl _⟩, ⟨by repeat (first | (with_reducible first | exact HB.out | apply below_alloc | apply pw_below_drewN | apply below_drew1) | exact HB.out)⟩⟩
                            · rw [if_neg c32] at H
                              have c32b0 : (t181 == 1) = false := beq_eq_false_iff_ne.mpr c32
                              have c32b1 : (t181 != 1) = true := bne_iff_ne.mpr c32
                              have H' := Aside0.mk H
                              clear H
                              go_wp2
                              go_meet
                              case rel => exact ⟨_, (true), (by first | rfl | (simp; done) | (simp [*]; done)), H', ⟨by have := HJ7.out; have := HJ19.out; have := HK3.out; first | omega | exact Nat.le_refl _⟩, ⟨by repeat (first | (with_reducible first | exact HB.out | apply below_alloc | apply pw_below_drewN | apply below_drew1) | exact HB.out)⟩⟩
                          · rw [if_neg c31] at H
                            have c31b0 : decide ((wrap64 ((Int.tmod (wrap64 (a4)) 1024) + 12)) < x14_3) = false := decide_eq_false c31
                            clear c31
                            by_cases c37 : x14_3 > t179
                            · rw [if_pos c37] at H
                              have c37b0 : decide (t179 < x14_3) = true := decide_eq_true c37
                              clear c37
                              by_cases c38 : t181 = 3
                              · rw [if_pos c38] at H
                                have c38b0 : (t181 == 3) = true := beq_iff_eq.mpr c38
                                have c38b1 : (t181 != 3) = false := bne_eq_false_iff_eq.mpr c38
                                clear c38
                                have H' := Aside0.mk H
                                clear H
                                go_wp2
                                go_meet
                                case rel => exact ⟨_, (true), (by first | rfl | (simp; done) | (simp [*]; done)), H', ⟨by have := HJ7.out; have := HJ19.out; have := HK3.out; first | omega | exact Nat.le_refl _⟩, ⟨by repeat (first | (with_reducible first | exact HB.out | apply below_alloc | apply pw_below_drewN | apply below_drew1) | exact HB.out)⟩⟩
                              · rw [if_neg c38] at H
                                have c38b0 : (t181 == 3) = false := beq_eq_false_iff_ne.mpr c38
                                have c38b1 : (t181 != 3) = true := bne_iff_ne.mpr c38
                                by_cases c39 : x14_3 = t179
                                · rw [if_pos c39] at H
                                  have c39b0 : (x14_3 == t179) = true := beq_iff_eq.mpr c39
                                  have c39b1 : (x14_3 != t179) = false := bne_eq_false_iff_eq.mpr c39
                                  clear c39
                                  have H' := Aside0.mk H
                                  clear H
                                  go_wp2
                                  go_meet
                                  case rel => exact ⟨_, ((t181 != 3)), (by first | rfl | (simp; done) | (simp [*]; done)), H', ⟨by have := HJ7.out; have := HJ19.out; have := HK3.out; first | omega | exact Nat.le_refl _⟩, ⟨by repeat (first | (with_reducible first | exact HB.out | apply below_alloc | apply pw_below_drewN | apply below_drew1) | exact HB.out)⟩⟩
                                · rw [if_neg c39] at H
                                  have c39b0 : (x14_3 == t179) = false := beq_eq_false_iff_ne.mpr c39
                                  have c39b1 : (x14_3 != t179) = true := bne_iff_ne.mpr c39
                                  have H' := Aside0.mk H
                                  clear H
                                  go_wp2
                                  go_meet
                                  case rel => exact ⟨_, (false), (by first | rfl | (simp; done) | (simp [*]; done)), H', ⟨by have := HJ7.out; have := HJ19.out; have := HK3.out; first | omega | exact Nat.le_refl _⟩, ⟨by repeat (first | (with_reducible first | exact HB.out | apply below_alloc | apply pw_below_drewN | apply below_drew1) | exact HB.out)⟩⟩
                            · rw [if_neg c37] at H
                              have c37b0 : decide (t179 < x14_3) = false := decide_eq_false c37
                              clear c37
                              by_cases c40 : x14_3 = t179
                              · rw [if_pos c40] at H
                                have c40b0 : (x14_3 == t179) = true := beq_iff_eq.mpr c40
                                have c40b1 : (x14_3 != t179) = false := bne_eq_false_iff_eq.mpr c40
                                clear c40
                                have H' := Aside0.mk H
                                clear H
                                go_wp2
                                go_meet
                                case rel => exact ⟨_, ((t181 != 3)), (by first | rfl | (simp; done) | (simp [*]; done)), H', ⟨by have := HJ7.out; have := HJ19.out; have := HK3.out; first | omega | exact Nat.le_refl _⟩, ⟨by repeat (first | (with_reducible first | exact HB.out | apply below_alloc | apply pw_below_drewN | apply below_drew1) | exact HB.out)⟩⟩
                              · rw [if_neg c40] at H
                                have c40b0 : (x14_3 == t179) = false := beq_eq_false_iff_ne.mpr c40
                                have c40b1 : (x14_3 != t179) = true := bne_iff_ne.mpr c40
                                have H' := Aside0.mk H
                                clear H
                                go_wp2
                                go_meet
                                case rel => exact ⟨_, (false), (by first | rfl | (simp; done) | (simp [*]; done)), H', ⟨by have := HJ7.out; have := HJ19.out; have := HK3.out; first | omega | exact Nat.le_refl _⟩, ⟨by repeat (first | (with_reducible first | exact HB.out | apply below_alloc | apply pw_below_drewN | apply below_drew1) | exact HB.out)⟩⟩
                        · rw [if_neg c30] at H
                          have c30b0 : (t182 == 0) = false := beq_eq_false_iff_ne.mpr c30
                          have c30b1 : (t182 != 0) = true := bne_iff_ne.mpr c30
                          (first | rw [c30b0] | (simp only [i64_w, i32_w]; rw [c30b0]) | skip)
                          have H' := Aside0.mk H
                          clear H
                          go_wp2
                          go_meet
                          case rel => exact ⟨_, (true), (by first | rfl | (simp; done) | (simp [*]; done)), H', ⟨by have := HJ7.out; have := HJ19.out; have := HK3.out; first | omega | exact Nat.le_refl _⟩, ⟨by repeat (first | (with_reducible first | exact HB.out | apply below_alloc | apply pw_below_drewN | apply below_drew1) | exact HB.out)⟩⟩
                      case rest =>
                        clear HC28
                        try clear c1
                        try clear c2
                        try clear p2
                        try clear c3
                        try clear c4
                        try clear p6
                        try clear c7
                        try clear c10
                        try clear c11
                        try clear c12
                        try clear c13
                        try clear c13b0
                        try clear c13b1
                        try clear c14
                        try clear c14b0
                        try clear c16
                        try clear c18
                        try clear c22
                        try clear c22b0
                        try clear c22b1
                        try clear c23
                        try clear c23b0
                        try clear c24
                        try clear c24b0
                        try clear c25
                        try clear c26
                        try clear c26b0
                        try clear c30
                        try clear c30b0
                        try clear c30b1
                        try clear c31
                        try clear c31b0
                        try clear c32
                        try clear c32b0
                        try clear c32b1
                        try clear c33
                        try clear c33b0
                        try clear c34
                        try clear c34b0
                        try clear c34b1
                        try clear c35
                        try clear c35b0
                        try clear c35b1
                        try clear c36
                        try clear c36b0
                        try clear c36b1
                        try clear c37
                        try clear c37b0
                        try clear c38
                        try clear c38b0
                        try clear c38b1
                        try clear c39
                        try clear c39b0
                        try clear c39b1
                        try clear c40
                        try clear c40b0
                        try clear c40b1
                        try clear p2
                        try clear p6
                        obtain ⟨kq, x109_27, rfl, HA, HJ27, HB⟩ := hcut
                        cases kq with
                        | zero => exact absurd HA.out (by simp [sizarlaw33_PolicyEnds.j3])
                        | succ kj27 =>
                          have H := HA.out
                          clear HA
                          simp only [sizarlaw33_PolicyEnds.j3] at H
                          by_cases c41 : x109_27 = true
                          · subst c41
                            have H1 : (some false) = some r := by rw [if_pos rfl] at H; exact H
                            clear H
                            have H := H1
                            clear H1
                            obtain rfl := Option.some.inj H
                            go_wp2
                            go_ret
                            exact ⟨by first | rfl | (simp [errW_none, errW_some] <;> rfl) | (simp [*, errW_none, errW_some] <;> rfl), by repeat (first | (with_reducible first | exact HB.out | apply below_alloc | apply pw_below_drewN | apply below_drew1) | exact HB.out)⟩
                          · replace c41 := Bool.eq_false_iff.mpr c41
                            subst c41
                            have H1 : (if x14_3 > t179 then (sizarlaw33_PolicyEnds.j4 kj27 l0 a1 a2 a3 (Int.tmod (wrap64 (a4)) 1024) t179 x14_3 t181 true) else (sizarlaw33_PolicyEnds.j4 kj27 l0 a1 a2 a3 (Int.tmod (wrap64 (a4)) 1024) t179 x14_3 t181 (t181 == 3))) = some r := by rw [if_neg (show ¬ (false = true) by decide)] at H; exact H
                            clear H
                            have H := H1
                            clear H1
                            have HC42 := Aside0.mk H
                            clear H
                            go_upto_region 15 with (fail)
                            go_cut [116] (fun v116 wc => ∃ (kq : Nat) (x116_41 : Bool), v116 = .bool x116_41 ∧ Aside0 (sizarlaw33_PolicyEnds.j4 kq l0 a1 a2 a3 (Int.tmod (wrap64 (a4)) 1024) t179 x14_3 t181 x116_41 = some r) ∧ Aside0 (kq ≤ kj27) ∧ Aside0 (Below w.heap.size w wc))
                            case first =>
                              have H := HC42.out
                              clear HC42
                              by_cases c43 : x14_3 > t179
                              · rw [if_pos c43] at H
                                have c43b0 : decide (t179 < x14_3) = true := decide_eq_true c43
                                clear c43
                                (first | rw [c43b0] | (simp only [i64_w, i32_w]; rw [c43b0]) | skip)
                                have H' := Aside0.mk H
                                clear H
                                go_wp2
                                go_meet
                                case rel => exact ⟨_, (true), (by first | rfl | (simp; done) | (simp [*]; done)), H', ⟨by have := HJ7.out; have := HJ19.out; have := HK3.out; have := HJ27.out; first | omega | exact Nat.le_refl _⟩, ⟨by repeat (first | (with_reducible first | exact HB.out | apply below_alloc | apply pw_below_drewN | apply below_drew1) | exact HB.out)⟩⟩
                              · rw [if_neg c43] at H
                                have c43b0 : decide (t179 < x14_3) = false := decide_eq_false c43
                                clear c43
                                (first | rw [c43b0] | (simp only [i64_w, i32_w]; rw [c43b0]) | skip)
                                have H' := Aside0.mk H
                                clear H
                                go_wp2
                                go_meet
                                case rel => exact ⟨_, ((t181 == 3)), (by first | rfl | (simp; done) | (simp [*]; done)), H', ⟨by have := HJ7.out; have := HJ19.out; have := HK3.out; have := HJ27.out; first | omega | exact Nat.le_refl _⟩, ⟨by repeat (first | (with_reducible first | exact HB.out | apply below_alloc | apply pw_below_drewN | apply below_drew1) | exact HB.out)⟩⟩
                            case rest =>
                              clear HC42
                              try clear c1
                              try clear c2
                              try clear p2
                              try clear c3
                              try clear c4
                              try clear p6
                              try clear c7
                              try clear c10
                              try clear c11
                              try clear c12
                              try clear c13
                              try clear c13b0
                              try clear c13b1
                              try clear c14
                              try clear c14b0
                              try clear c16
                              try clear c18
                              try clear c22
                              try clear c22b0
                              try clear c22b1
                              try clear c23
                              try clear c23b0
                              try clear c24
                              try clear c24b0
                              try clear c25
                              try clear c26
                              try clear c26b0
                              try clear c30
                              try clear c30b0
                              try clear c30b1
                              try clear c31
                              try clear c31b0
                              try clear c32
                              try clear c32b0
                              try clear c32b1
                              try clear c33
                              try clear c33b0
                              try clear c34
                              try clear c34b0
                              try clear c34b1
                              try clear c35
                              try clear c35b0
                              try clear c35b1
                              try clear c36
                              try clear c36b0
                              try clear c36b1
                              try clear c37
                              try clear c37b0
                              try clear c38
                              try clear c38b0
                              try clear c38b1
                              try clear c39
                              try clear c39b0
                              try clear c39b1
                              try clear c40
                              try clear c40b0
                              try clear c40b1
                              try clear c41
                              try clear c43
                              try clear c43b0
                              try clear p2
                              try clear p6
                              obtain ⟨kq, x116_41, rfl, HA, HJ41, HB⟩ := hcut
                              cases kq with
                              | zero => exact absurd HA.out (by simp [sizarlaw33_PolicyEnds.j4])
                              | succ kj41 =>
                                have H := HA.out
                                clear HA
                                simp only [sizarlaw33_PolicyEnds.j4] at H
                                by_cases c44 : x116_41 = true
                                · subst c44
                                  have H1 : (sizarlaw33_PolicyEnds.l0 kj41 l0 a1 a2 a3 (Int.tmod (wrap64 (a4)) 1024) t179 (wrap64 (x14_3 + 1))) = some r := by rw [if_pos rfl] at H; exact H
                                  clear H
                                  have H := H1
                                  clear H1
                                  have H' := Aside0.mk H
                                  clear H
                                  go_wp2
                                  go_roundg kj41
                                  case measure => have := HJ7.out; have := HJ19.out; have := HK3.out; have := HJ27.out; have := HJ41.out; omega
                                  case rel => exact ⟨(wrap64 (x14_3 + 1)), (by first | rfl | (simp; done) | (simp [*]; done)), H', ⟨by have := HJ7.out; have := HJ19.out; have := HK3.out; have := HJ27.out; have := HJ41.out; omega⟩, ⟨by repeat (first | (with_reducible first | exact HB.out | apply below_alloc | apply pw_below_drewN | apply below_drew1) | exact HB.out)⟩⟩
                                · replace c44 := Bool.eq_false_iff.mpr c44
                                  subst c44
                                  have H1 : (sizarlaw33_PolicyEnds.l1 kj41 l0 a1 a2 a3 (Int.tmod (wrap64 (a4)) 1024) t179 x14_3 t181 false l0 (l0.length : Int) 0) = some r := by rw [if_neg (show ¬ (false = true) by decide)] at H; exact H
                                  clear H
                                  have H := H1
                                  clear H1
                                  have H' := Aside0.mk H
                                  clear H
                                  go_wp2
                                  go_loopg [17, 119] kj41 (fun kq v17 v119 w' => ∃ (x17_6 : Bool) (x119_6 : Int), v17 = .bool x17_6 ∧ v119 = .int .i64 x119_6 ∧ Aside0 (sizarlaw33_PolicyEnds.l1 kq l0 a1 a2 a3 (Int.tmod (wrap64 (a4)) 1024) t179 x14_3 t181 x17_6 l0 (l0.length : Int) x119_6 = some r) ∧ Aside0 (kq ≤ kj41) ∧ Aside0 (Below w.heap.size w w'))
                                  case atStart => exact ⟨(false), (0), (by first | rfl | (simp; done) | (simp [*]; done)), (by first | rfl | (simp; done) | (simp [*]; done)), H', ⟨Nat.le_refl _⟩, ⟨by repeat (first | (with_reducible first | exact HB.out | apply below_alloc | apply pw_below_drewN | apply below_drew1) | exact HB.out)⟩⟩
                                  case round =>
                                    clear H'
                                    try clear c1
                                    try clear c2
                                    try clear p2
                                    try clear c3
                                    try clear c4
                                    try clear p6
                                    try clear c7
                                    try clear c10
                                    try clear c11
                                    try clear c12
                                    try clear c13
                                    try clear c13b0
                                    try clear c13b1
                                    try clear c14
                                    try clear c14b0
                                    try clear c16
                                    try clear c18
                                    try clear c22
                                    try clear c22b0
                                    try clear c22b1
                                    try clear c23
                                    try clear c23b0
                                    try clear c24
                                    try clear c24b0
                                    try clear c25
                                    try clear c26
                                    try clear c26b0
                                    try clear c30
                                    try clear c30b0
                                    try clear c30b1
                                    try clear c31
                                    try clear c31b0
                                    try clear c32
                                    try clear c32b0
                                    try clear c32b1
                                    try clear c33
                                    try clear c33b0
                                    try clear c34
                                    try clear c34b0
                                    try clear c34b1
                                    try clear c35
                                    try clear c35b0
                                    try clear c35b1
                                    try clear c36
                                    try clear c36b0
                                    try clear c36b1
                                    try clear c37
                                    try clear c37b0
                                    try clear c38
                                    try clear c38b0
                                    try clear c38b1
                                    try clear c39
                                    try clear c39b0
                                    try clear c39b1
                                    try clear c40
                                    try clear c40b0
                                    try clear c40b1
                                    try clear c41
                                    try clear c43
                                    try clear c43b0
                                    try clear c44
                                    try clear p2
                                    try clear p6
                                    obtain ⟨x17_6, x119_6, rfl, rfl, HA, HK6, HB⟩ := hrel
                                    cases gk with
                                    | zero => exact absurd HA.out (by simp [sizarlaw33_PolicyEnds.l1])
                                    | succ k6 =>
                                      have H := HA.out
                                      clear HA
                                      simp only [sizarlaw33_PolicyEnds.l1] at H
                                      by_cases c45 : x119_6 < (l0.length : Int)
                                      · rw [if_pos c45] at H
                                        have c45b0 : decide (x119_6 < (l0.length : Int)) = true := decide_eq_true c45
                                        clear c45
                                        by_cases c46 : 0 ≤ x119_6
                                        · rw [if_pos c46] at H
                                          have c46b0 : decide (0 ≤ x119_6) = true := decide_eq_true c46
                                          clear c46
                                          by_cases c47 : x119_6 < (l0.length : Int)
                                          · rw [if_pos c47] at H
                                            have c47b0 : decide (x119_6 < (l0.length : Int)) = true := decide_eq_true c47
                                            clear c47
                                            by_cases c48 : x17_6 = true
                                            · subst c48
                                              have H1 : (sizarlaw33_PolicyEnds.l1 k6 l0 a1 a2 a3 (Int.tmod (wrap64 (a4)) 1024) t179 x14_3 t181 true l0 (l0.length : Int) (wrap64 (x119_6 + 1))) = some r := by rw [if_pos rfl] at H; exact H
                                              clear H
                                              have H := H1
                                              clear H1
                                              have H' := Aside0.mk H
                                              clear H
                                              have p183 : 0 ≤ (x119_6 : Int) := of_decide_eq_true (by first | (with_reducible assumption) | assumption)
                                              have q183 : x119_6 < (l0.length : Int) := of_decide_eq_true (by first | (with_reducible assumption) | assumption)
                                              obtain ⟨ad183, e183, hx183_0, hx183_1, hx183_2, hx183_3⟩ := at_T35 HR0.out x119_6 p183 q183
                                              cases e183
                                              replace hx183_0 := (HB.out.cell (World.block_lt_of_cell? w _ hx183_0)).trans hx183_0
                                              replace hx183_1 := (HB.out.cell (World.block_lt_of_cell? w _ hx183_1)).trans hx183_1
                                              replace hx183_2 := (HB.out.cell (World.block_lt_of_cell? w _ hx183_2)).trans hx183_2
                                              replace hx183_3 := (HB.out.cell (World.block_lt_of_cell? w _ hx183_3)).trans hx183_3
                                              replace p183 := eq_true p183
                                              replace q183 := eq_true q183
                                              go_wp2_with (first | ((with_reducible refine gate_dst (N := 19) rfl ?_); refine box_event ?hg (N := 19) ?hd (cs := #[.int .i64 0, .int .i64 0, .int .i64 0, .int .i64 0]) (t := 35) ?hr ?_; (case hd => rfl); (case hg => rfl); (case hr => first | (go_simp; done) | (go_simp; rfl)); intro gb184 hg w49 hbox hb; have n0_ := Aside0.mk (below_step (by repeat (first | (with_reducible first | exact HB.out | apply below_alloc | apply pw_below_drewN | apply below_drew1) | exact HB.out)) hb); have n1_ := Aside0.mk (hbox); have n2_ := Aside0.mk ((by rw [hg]; exact (below_size (by repeat (first | (with_reducible first | exact HB.out | apply below_alloc | apply pw_below_drewN | apply below_drew1) | exact HB.out))) : w.heap.size ≤ gb184)); have n3_ := Aside0.mk ((by rw [hg]; exact (below_size (by repeat (first | (with_reducible first | exact HB.out | apply below_alloc | apply pw_below_drewN | apply below_drew1) | exact HB.out))) : w.heap.size ≤ gb184)); clear HB; have HB := n0_; have BK184 := n1_; have GW184 := n2_; have GE184 := n3_; clear n0_ n1_ n2_ n3_; clear hb hbox hg; have hcz50_0 : w49.cell? ⟨gb184, 0, none⟩ = some (.int .i64 0) := (blk_cell BK184.out 0).trans rfl; have hcz50_1 : w49.cell? ⟨gb184, 1, none⟩ = some (.int .i64 0) := (blk_cell BK184.out 1).trans rfl; have hcz50_2 : w49.cell? ⟨gb184, 2, none⟩ = some (.int .i64 0) := (blk_cell BK184.out 2).trans rfl; have hcz50_3 : w49.cell? ⟨gb184, 3, none⟩ = some (.int .i64 0) := (blk_cell BK184.out 3).trans rfl; have hfz50_0 := blk_frozen BK184.out 0; have hfz50_1 := blk_frozen BK184.out 1; have hfz50_2 := blk_frozen BK184.out 2; have hfz50_3 := blk_frozen BK184.out 3))
                                              go_roundg k6
                                              case measure => have := HJ7.out; have := HJ19.out; have := HK3.out; have := HJ27.out; have := HJ41.out; have := HK6.out; omega
                                              case rel => exact ⟨(true), (wrap64 (x119_6 + 1)), (by first | rfl | (simp; done) | (simp [*]; done)), (by first | rfl | (simp; done) | (simp [*]; done)), H', ⟨by have := HJ7.out; have := HJ19.out; have := HK3.out; have := HJ27.out; have := HJ41.out; have := HK6.out; omega⟩, ⟨by repeat (first | (with_reducible first | exact HB.out | apply below_alloc | apply pw_below_drewN | apply below_drew1 | refine below_set ?_ GE184.out) | exact HB.out)⟩⟩
                                            · replace c48 := Bool.eq_false_iff.mpr c48
                                              subst c48
                                              have H1 : ((sizarlaw33_fits.f ((rd_T35 l0 x119_6).f0) ((rd_T35 l0 x119_6).f1) ((rd_T35 l0 x119_6).f2) ((rd_T35 l0 x119_6).f3) a1 a2 a3).bind fun t185 => (if t185 = true then (if ((rd_T35 l0 x119_6).f2) = t181 then (if x14_3 ≤ (wrap64 ((Int.tmod (wrap64 (a4)) 1024) + ((rd_T35 l0 x119_6).f3))) then (sizarlaw33_PolicyEnds.l1 k6 l0 a1 a2 a3 (Int.tmod (wrap64 (a4)) 1024) t179 x14_3 t181 (decide ((wrap64 ((Int.tmod (wrap64 (a4)) 1024) + ((rd_T35 l0 x119_6).f3))) < t179)) l0 (l0.length : Int) (wrap64 (x119_6 + 1))) else (sizarlaw33_PolicyEnds.l1 k6 l0 a1 a2 a3 (Int.tmod (wrap64 (a4)) 1024) t179 x14_3 t181 false l0 (l0.length : Int) (wrap64 (x119_6 + 1)))) else (sizarlaw33_PolicyEnds.l1 k6 l0 a1 a2 a3 (Int.tmod (wrap64 (a4)) 1024) t179 x14_3 t181 false l0 (l0.length : Int) (wrap64 (x119_6 + 1)))) else (sizarlaw33_PolicyEnds.l1 k6 l0 a1 a2 a3 (Int.tmod (wrap64 (a4)) 1024) t179 x14_3 t181 false l0 (l0.length : Int) (wrap64 (x119_6 + 1))))) = some r := by rw [if_neg (show ¬ (false = true) by decide)] at H; exact H
                                              clear H
                                              have H := H1
                                              clear H1
                                              replace H := Option.bind_eq_some_iff.mp H
                                              obtain ⟨t185, A510, H⟩ := H
                                              replace H : (if t185 = true then (if ((rd_T35 l0 x119_6).f2) = t181 then (if x14_3 ≤ (wrap64 ((Int.tmod (wrap64 (a4)) 1024) + ((rd_T35 l0 x119_6).f3))) then (sizarlaw33_PolicyEnds.l1 k6 l0 a1 a2 a3 (Int.tmod (wrap64 (a4)) 1024) t179 x14_3 t181 (decide ((wrap64 ((Int.tmod (wrap64 (a4)) 1024) + ((rd_T35 l0 x119_6).f3))) < t179)) l0 (l0.length : Int) (wrap64 (x119_6 + 1))) else (sizarlaw33_PolicyEnds.l1 k6 l0 a1 a2 a3 (Int.tmod (wrap64 (a4)) 1024) t179 x14_3 t181 false l0 (l0.length : Int) (wrap64 (x119_6 + 1)))) else (sizarlaw33_PolicyEnds.l1 k6 l0 a1 a2 a3 (Int.tmod (wrap64 (a4)) 1024) t179 x14_3 t181 false l0 (l0.length : Int) (wrap64 (x119_6 + 1)))) else (sizarlaw33_PolicyEnds.l1 k6 l0 a1 a2 a3 (Int.tmod (wrap64 (a4)) 1024) t179 x14_3 t181 false l0 (l0.length : Int) (wrap64 (x119_6 + 1)))) = some r := H
                                              have A51 := Aside0.mk A510
                                              clear A510
                                              by_cases c52 : t185 = true
                                              · subst c52
                                                have H1 : (if ((rd_T35 l0 x119_6).f2) = t181 then (if x14_3 ≤ (wrap64 ((Int.tmod (wrap64 (a4)) 1024) + ((rd_T35 l0 x119_6).f3))) then (sizarlaw33_PolicyEnds.l1 k6 l0 a1 a2 a3 (Int.tmod (wrap64 (a4)) 1024) t179 x14_3 t181 (decide ((wrap64 ((Int.tmod (wrap64 (a4)) 1024) + ((rd_T35 l0 x119_6).f3))) < t179)) l0 (l0.length : Int) (wrap64 (x119_6 + 1))) else (sizarlaw33_PolicyEnds.l1 k6 l0 a1 a2 a3 (Int.tmod (wrap64 (a4)) 1024) t179 x14_3 t181 false l0 (l0.length : Int) (wrap64 (x119_6 + 1)))) else (sizarlaw33_PolicyEnds.l1 k6 l0 a1 a2 a3 (Int.tmod (wrap64 (a4)) 1024) t179 x14_3 t181 false l0 (l0.length : Int) (wrap64 (x119_6 + 1)))) = some r := by rw [if_pos rfl] at H; exact H
                                                clear H
                                                have H := H1
                                                clear H1
                                                by_cases c53 : ((rd_T35 l0 x119_6).f2) = t181
                                                · rw [if_pos c53] at H
                                                  have c53b0 : (((rd_T35 l0 x119_6).f2) == t181) = true := beq_iff_eq.mpr c53
                                                  have c53b1 : (((rd_T35 l0 x119_6).f2) != t181) = false := bne_eq_false_iff_eq.mpr c53
                                                  clear c53
                                                  by_cases c54 : x14_3 ≤ (wrap64 ((Int.tmod (wrap64 (a4)) 1024) + ((rd_T35 l0 x119_6).f3)))
                                                  · rw [if_pos c54] at H
                                                    have c54b0 : decide (x14_3 ≤ (wrap64 ((Int.tmod (wrap64 (a4)) 1024) + ((rd_T35 l0 x119_6).f3)))) = true := decide_eq_true c54
                                                    clear c54
                                                    have H' := Aside0.mk H
                                                    clear H
                                                    have p183 : 0 ≤ (x119_6 : Int) := of_decide_eq_true (by first | (with_reducible assumption) | assumption)
                                                    have q183 : x119_6 < (l0.length : Int) := of_decide_eq_true (by first | (with_reducible assumption) | assumption)
                                                    obtain ⟨ad183, e183, hx183_0, hx183_1, hx183_2, hx183_3⟩ := at_T35 HR0.out x119_6 p183 q183
                                                    cases e183
                                                    replace hx183_0 := (HB.out.cell (World.block_lt_of_cell? w _ hx183_0)).trans hx183_0
                                                    replace hx183_1 := (HB.out.cell (World.block_lt_of_cell? w _ hx183_1)).trans hx183_1
                                                    replace hx183_2 := (HB.out.cell (World.block_lt_of_cell? w _ hx183_2)).trans hx183_2
                                                    replace hx183_3 := (HB.out.cell (World.block_lt_of_cell? w _ hx183_3)).trans hx183_3
                                                    replace p183 := eq_true p183
                                                    replace q183 := eq_true q183
                                                    go_wp2_with (first | ((with_reducible refine gate_dst (N := 19) rfl ?_); refine box_event ?hg (N := 19) ?hd (cs := #[.int .i64 0, .int .i64 0, .int .i64 0, .int .i64 0]) (t := 35) ?hr ?_; (case hd => rfl); (case hg => rfl); (case hr => first | (go_simp; done) | (go_simp; rfl)); intro gb184 hg w55 hbox hb; have n0_ := Aside0.mk (below_step (by repeat (first | (with_reducible first | exact HB.out | apply below_alloc | apply pw_below_drewN | apply below_drew1) | exact HB.out)) hb); have n1_ := Aside0.mk (hbox); have n2_ := Aside0.mk ((by rw [hg]; exact (below_size (by repeat (first | (with_reducible first | exact HB.out | apply below_alloc | apply pw_below_drewN | apply below_drew1) | exact HB.out))) : w.heap.size ≤ gb184)); have n3_ := Aside0.mk ((by rw [hg]; exact (below_size (by repeat (first | (with_reducible first | exact HB.out | apply below_alloc | apply pw_below_drewN | apply below_drew1) | exact HB.out))) : w.heap.size ≤ gb184)); clear HB; have HB := n0_; have BK184 := n1_; have GW184 := n2_; have GE184 := n3_; clear n0_ n1_ n2_ n3_; clear hb hbox hg; have hcz56_0 : w55.cell? ⟨gb184, 0, none⟩ = some (.int .i64 0) := (blk_cell BK184.out 0).trans rfl; have hcz56_1 : w55.cell? ⟨gb184, 1, none⟩ = some (.int .i64 0) := (blk_cell BK184.out 1).trans rfl; have hcz56_2 : w55.cell? ⟨gb184, 2, none⟩ = some (.int .i64 0) := (blk_cell BK184.out 2).trans rfl; have hcz56_3 : w55.cell? ⟨gb184, 3, none⟩ = some (.int .i64 0) := (blk_cell BK184.out 3).trans rfl; have hfz56_0 := blk_frozen BK184.out 0; have hfz56_1 := blk_frozen BK184.out 1; have hfz56_2 := blk_frozen BK184.out 2; have hfz56_3 := blk_frozen BK184.out 3) | (go_at_call 20; (with_reducible refine (sizarlaw33_fits.calls ((rd_T35 l0 x119_6).f0) ((rd_T35 l0 x119_6).f1) ((rd_T35 l0 x119_6).f2) ((rd_T35 l0 x119_6).f3) a1 a2 a3 true _ A51.out).mono ?_); rintro e w57 ⟨rfl, hb⟩; have n0_ := Aside0.mk (blk_below (g := gb184) (o := .cells #[.int .i64 ((rd_T35 l0 x119_6).f0), .int .i64 ((rd_T35 l0 x119_6).f1), .int .i64 ((rd_T35 l0 x119_6).f2), .int .i64 ((rd_T35 l0 x119_6).f3)] 35 (0, 0)) (by (with_reducible repeat (first | refine blk_drewN ?_ _ | refine blk_drew ?_ | refine blk_alloc ?_ _)); refine blk_put (cs := #[.int .i64 ((rd_T35 l0 x119_6).f0), .int .i64 ((rd_T35 l0 x119_6).f1), .int .i64 ((rd_T35 l0 x119_6).f2), .int .i64 0]) ?_ 3 _ rfl; (with_reducible repeat (first | refine blk_drewN ?_ _ | refine blk_drew ?_ | refine blk_alloc ?_ _)); refine blk_put (cs := #[.int .i64 ((rd_T35 l0 x119_6).f0), .int .i64 ((rd_T35 l0 x119_6).f1), .int .i64 0, .int .i64 0]) ?_ 2 _ rfl; (with_reducible repeat (first | refine blk_drewN ?_ _ | refine blk_drew ?_ | refine blk_alloc ?_ _)); refine blk_put (cs := #[.int .i64 ((rd_T35 l0 x119_6).f0), .int .i64 0, .int .i64 0, .int .i64 0]) ?_ 1 _ rfl; (with_reducible repeat (first | refine blk_drewN ?_ _ | refine blk_drew ?_ | refine blk_alloc ?_ _)); refine blk_put (cs := #[.int .i64 0, .int .i64 0, .int .i64 0, .int .i64 0]) ?_ 0 _ rfl; (with_reducible repeat (first | refine blk_drewN ?_ _ | refine blk_drew ?_ | refine blk_alloc ?_ _)); exact BK184.out) hb); have n1_ := Aside0.mk (below_step (by repeat (first | (with_reducible first | exact HB.out | apply below_alloc | apply pw_below_drewN | apply below_drew1 | refine below_set ?_ GE184.out) | exact HB.out)) hb); clear BK184; clear HB; have BK184 := n0_; have HB := n1_; clear n0_ n1_; (try clear hb); (try clear hb2); (try clear hk); (try clear hi); have hcz58_0 : w57.cell? ⟨gb184, 0, none⟩ = some (.int .i64 ((rd_T35 l0 x119_6).f0)) := (blk_cell BK184.out 0).trans rfl; have hcz58_1 : w57.cell? ⟨gb184, 1, none⟩ = some (.int .i64 ((rd_T35 l0 x119_6).f1)) := (blk_cell BK184.out 1).trans rfl; have hcz58_2 : w57.cell? ⟨gb184, 2, none⟩ = some (.int .i64 ((rd_T35 l0 x119_6).f2)) := (blk_cell BK184.out 2).trans rfl; have hcz58_3 : w57.cell? ⟨gb184, 3, none⟩ = some (.int .i64 ((rd_T35 l0 x119_6).f3)) := (blk_cell BK184.out 3).trans rfl; have hfz58_0 := blk_frozen BK184.out 0; have hfz58_1 := blk_frozen BK184.out 1; have hfz58_2 := blk_frozen BK184.out 2; have hfz58_3 := blk_frozen BK184.out 3))
                                                    go_roundg k6
                                                    case measure => have := HJ7.out; have := HJ19.out; have := HK3.out; have := HJ27.out; have := HJ41.out; have := HK6.out; omega
                                                    case rel => exact ⟨(decide ((wrap64 ((Int.tmod (wrap64 (a4)) 1024) + ((rd_T35 l0 x119_6).f3))) < t179)), (wrap64 (x119_6 + 1)), (by first | rfl | (simp; done) | (simp [*]; done)), (by first | rfl | (simp; done) | (simp [*]; done)), H', ⟨by have := HJ7.out; have := HJ19.out; have := HK3.out; have := HJ27.out; have := HJ41.out; have := HK6.out; omega⟩, ⟨by repeat (first | (with_reducible first | exact HB.out | apply below_alloc | apply pw_below_drewN | apply below_drew1 | refine below_set ?_ GE184.out) | exact HB.out)⟩⟩
                                                  · rw [if_neg c54] at H
                                                    have c54b0 : decide (x14_3 ≤ (wrap64 ((Int.tmod (wrap64 (a4)) 1024) + ((rd_T35 l0 x119_6).f3)))) = false := decide_eq_false c54
                                                    clear c54
                                                    have H' := Aside0.mk H
                                                    clear H
                                                    have p183 : 0 ≤ (x119_6 : Int) := of_decide_eq_true (by first | (with_reducible assumption) | assumption)
                                                    have q183 : x119_6 < (l0.length : Int) := of_decide_eq_true (by first | (with_reducible assumption) | assumption)
                                                    obtain ⟨ad183, e183, hx183_0, hx183_1, hx183_2, hx183_3⟩ := at_T35 HR0.out x119_6 p183 q183
                                                    cases e183
                                                    replace hx183_0 := (HB.out.cell (World.block_lt_of_cell? w _ hx183_0)).trans hx183_0
                                                    replace hx183_1 := (HB.out.cell (World.block_lt_of_cell? w _ hx183_1)).trans hx183_1
                                                    replace hx183_2 := (HB.out.cell (World.block_lt_of_cell? w _ hx183_2)).trans hx183_2
                                                    replace hx183_3 := (HB.out.cell (World.block_lt_of_cell? w _ hx183_3)).trans hx183_3
                                                    replace p183 := eq_true p183
                                                    replace q183 := eq_true q183
                                                    go_wp2_with (first | ((with_reducible refine gate_dst (N := 19) rfl ?_); refine box_event ?hg (N := 19) ?hd (cs := #[.int .i64 0, .int .i64 0, .int .i64 0, .int .i64 0]) (t := 35) ?hr ?_; (case hd => rfl); (case hg => rfl); (case hr => first | (go_simp; done) | (go_simp; rfl)); intro gb184 hg w59 hbox hb; have n0_ := Aside0.mk (below_step (by repeat (first | (with_reducible first | exact HB.out | apply below_alloc | apply pw_below_drewN | apply below_drew1) | exact HB.out)) hb); have n1_ := Aside0.mk (hbox); have n2_ := Aside0.mk ((by rw [hg]; exact (below_size (by repeat (first | (with_reducible first | exact HB.out | apply below_alloc | apply pw_below_drewN | apply below_drew1) | exact HB.out))) : w.heap.size ≤ gb184)); have n3_ := Aside0.mk ((by rw [hg]; exact (below_size (by repeat (first | (with_reducible first | exact HB.out | apply below_alloc | apply pw_below_drewN | apply below_drew1) | exact HB.out))) : w.heap.size ≤ gb184)); clear HB; have HB := n0_; have BK184 := n1_; have GW184 := n2_; have GE184 := n3_; clear n0_ n1_ n2_ n3_; clear hb hbox hg; have hcz60_0 : w59.cell? ⟨gb184, 0, none⟩ = some (.int .i64 0) := (blk_cell BK184.out 0).trans rfl; have hcz60_1 : w59.cell? ⟨gb184, 1, none⟩ = some (.int .i64 0) := (blk_cell BK184.out 1).trans rfl; have hcz60_2 : w59.cell? ⟨gb184, 2, none⟩ = some (.int .i64 0) := (blk_cell BK184.out 2).trans rfl; have hcz60_3 : w59.cell? ⟨gb184, 3, none⟩ = some (.int .i64 0) := (blk_cell BK184.out 3).trans rfl; have hfz60_0 := blk_frozen BK184.out 0; have hfz60_1 := blk_frozen BK184.out 1; have hfz60_2 := blk_frozen BK184.out 2; have hfz60_3 := blk_frozen BK184.out 3) | (go_at_call 20; (with_reducible refine (sizarlaw33_fits.calls ((rd_T35 l0 x119_6).f0) ((rd_T35 l0 x119_6).f1) ((rd_T35 l0 x119_6).f2) ((rd_T35 l0 x119_6).f3) a1 a2 a3 true _ A51.out).mono ?_); rintro e w61 ⟨rfl, hb⟩; have n0_ := Aside0.mk (blk_below (g := gb184) (o := .cells #[.int .i64 ((rd_T35 l0 x119_6).f0), .int .i64 ((rd_T35 l0 x119_6).f1), .int .i64 ((rd_T35 l0 x119_6).f2), .int .i64 ((rd_T35 l0 x119_6).f3)] 35 (0, 0)) (by (with_reducible repeat (first | refine blk_drewN ?_ _ | refine blk_drew ?_ | refine blk_alloc ?_ _)); refine blk_put (cs := #[.int .i64 ((rd_T35 l0 x119_6).f0), .int .i64 ((rd_T35 l0 x119_6).f1), .int .i64 ((rd_T35 l0 x119_6).f2), .int .i64 0]) ?_ 3 _ rfl; (with_reducible repeat (first | refine blk_drewN ?_ _ | refine blk_drew ?_ | refine blk_alloc ?_ _)); refine blk_put (cs := #[.int .i64 ((rd_T35 l0 x119_6).f0), .int .i64 ((rd_T35 l0 x119_6).f1), .int .i64 0, .int .i64 0]) ?_ 2 _ rfl; (with_reducible repeat (first | refine blk_drewN ?_ _ | refine blk_drew ?_ | refine blk_alloc ?_ _)); refine blk_put (cs := #[.int .i64 ((rd_T35 l0 x119_6).f0), .int .i64 0, .int .i64 0, .int .i64 0]) ?_ 1 _ rfl; (with_reducible repeat (first | refine blk_drewN ?_ _ | refine blk_drew ?_ | refine blk_alloc ?_ _)); refine blk_put (cs := #[.int .i64 0, .int .i64 0, .int .i64 0, .int .i64 0]) ?_ 0 _ rfl; (with_reducible repeat (first | refine blk_drewN ?_ _ | refine blk_drew ?_ | refine blk_alloc ?_ _)); exact BK184.out) hb); have n1_ := Aside0.mk (below_step (by repeat (first | (with_reducible first | exact HB.out | apply below_alloc | apply pw_below_drewN | apply below_drew1 | refine below_set ?_ GE184.out) | exact HB.out)) hb); clear BK184; clear HB; have BK184 := n0_; have HB := n1_; clear n0_ n1_; (try clear hb); (try clear hb2); (try clear hk); (try clear hi); have hcz62_0 : w61.cell? ⟨gb184, 0, none⟩ = some (.int .i64 ((rd_T35 l0 x119_6).f0)) := (blk_cell BK184.out 0).trans rfl; have hcz62_1 : w61.cell? ⟨gb184, 1, none⟩ = some (.int .i64 ((rd_T35 l0 x119_6).f1)) := (blk_cell BK184.out 1).trans rfl; have hcz62_2 : w61.cell? ⟨gb184, 2, none⟩ = some (.int .i64 ((rd_T35 l0 x119_6).f2)) := (blk_cell BK184.out 2).trans rfl; have hcz62_3 : w61.cell? ⟨gb184, 3, none⟩ = some (.int .i64 ((rd_T35 l0 x119_6).f3)) := (blk_cell BK184.out 3).trans rfl; have hfz62_0 := blk_frozen BK184.out 0; have hfz62_1 := blk_frozen BK184.out 1; have hfz62_2 := blk_frozen BK184.out 2; have hfz62_3 := blk_frozen BK184.out 3))
                                                    go_roundg k6
                                                    case measure => have := HJ7.out; have := HJ19.out; have := HK3.out; have := HJ27.out; have := HJ41.out; have := HK6.out; omega
                                                    case rel => exact ⟨(false), (wrap64 (x119_6 + 1)), (by first | rfl | (simp; done) | (simp [*]; done)), (by first | rfl | (simp; done) | (simp [*]; done)), H', ⟨by have := HJ7.out; have := HJ19.out; have := HK3.out; have := HJ27.out; have := HJ41.out; have := HK6.out; omega⟩, ⟨by repeat (first | (with_reducible first | exact HB.out | apply below_alloc | apply pw_below_drewN | apply below_drew1 | refine below_set ?_ GE184.out) | exact HB.out)⟩⟩
                                                · rw [if_neg c53] at H
                                                  have c53b0 : (((rd_T35 l0 x119_6).f2) == t181) = false := beq_eq_false_iff_ne.mpr c53
                                                  have c53b1 : (((rd_T35 l0 x119_6).f2) != t181) = true := bne_iff_ne.mpr c53
                                                  have H' := Aside0.mk H
                                                  clear H
                                                  have p183 : 0 ≤ (x119_6 : Int) := of_decide_eq_true (by first | (with_reducible assumption) | assumption)
                                                  have q183 : x119_6 < (l0.length : Int) := of_decide_eq_true (by first | (with_reducible assumption) | assumption)
                                                  obtain ⟨ad183, e183, hx183_0, hx183_1, hx183_2, hx183_3⟩ := at_T35 HR0.out x119_6 p183 q183
                                                  cases e183
                                                  replace hx183_0 := (HB.out.cell (World.block_lt_of_cell? w _ hx183_0)).trans hx183_0
                                                  replace hx183_1 := (HB.out.cell (World.block_lt_of_cell? w _ hx183_1)).trans hx183_1
                                                  replace hx183_2 := (HB.out.cell (World.block_lt_of_cell? w _ hx183_2)).trans hx183_2
                                                  replace hx183_3 := (HB.out.cell (World.block_lt_of_cell? w _ hx183_3)).trans hx183_3
                                                  replace p183 := eq_true p183
                                                  replace q183 := eq_true q183
                                                  go_wp2_with (first | ((with_reducible refine gate_dst (N := 19) rfl ?_); refine box_event ?hg (N := 19) ?hd (cs := #[.int .i64 0, .int .i64 0, .int .i64 0, .int .i64 0]) (t := 35) ?hr ?_; (case hd => rfl); (case hg => rfl); (case hr => first | (go_simp; done) | (go_simp; rfl)); intro gb184 hg w63 hbox hb; have n0_ := Aside0.mk (below_step (by repeat (first | (with_reducible first | exact HB.out | apply below_alloc | apply pw_below_drewN | apply below_drew1) | exact HB.out)) hb); have n1_ := Aside0.mk (hbox); have n2_ := Aside0.mk ((by rw [hg]; exact (below_size (by repeat (first | (with_reducible first | exact HB.out | apply below_alloc | apply pw_below_drewN | apply below_drew1) | exact HB.out))) : w.heap.size ≤ gb184)); have n3_ := Aside0.mk ((by rw [hg]; exact (below_size (by repeat (first | (with_reducible first | exact HB.out | apply below_alloc | apply pw_below_drewN | apply below_drew1) | exact HB.out))) : w.heap.size ≤ gb184)); clear HB; have HB := n0_; have BK184 := n1_; have GW184 := n2_; have GE184 := n3_; clear n0_ n1_ n2_ n3_; clear hb hbox hg; have hcz64_0 : w63.cell? ⟨gb184, 0, none⟩ = some (.int .i64 0) := (blk_cell BK184.out 0).trans rfl; have hcz64_1 : w63.cell? ⟨gb184, 1, none⟩ = some (.int .i64 0) := (blk_cell BK184.out 1).trans rfl; have hcz64_2 : w63.cell? ⟨gb184, 2, none⟩ = some (.int .i64 0) := (blk_cell BK184.out 2).trans rfl; have hcz64_3 : w63.cell? ⟨gb184, 3, none⟩ = some (.int .i64 0) := (blk_cell BK184.out 3).trans rfl; have hfz64_0 := blk_frozen BK184.out 0; have hfz64_1 := blk_frozen BK184.out 1; have hfz64_2 := blk_frozen BK184.out 2; have hfz64_3 := blk_frozen BK184.out 3) | (go_at_call 20; (with_reducible refine (sizarlaw33_fits.calls ((rd_T35 l0 x119_6).f0) ((rd_T35 l0 x119_6).f1) ((rd_T35 l0 x119_6).f2) ((rd_T35 l0 x119_6).f3) a1 a2 a3 true _ A51.out).mono ?_); rintro e w65 ⟨rfl, hb⟩; have n0_ := Aside0.mk (blk_below (g := gb184) (o := .cells #[.int .i64 ((rd_T35 l0 x119_6).f0), .int .i64 ((rd_T35 l0 x119_6).f1), .int .i64 ((rd_T35 l0 x119_6).f2), .int .i64 ((rd_T35 l0 x119_6).f3)] 35 (0, 0)) (by (with_reducible repeat (first | refine blk_drewN ?_ _ | refine blk_drew ?_ | refine blk_alloc ?_ _)); refine blk_put (cs := #[.int .i64 ((rd_T35 l0 x119_6).f0), .int .i64 ((rd_T35 l0 x119_6).f1), .int .i64 ((rd_T35 l0 x119_6).f2), .int .i64 0]) ?_ 3 _ rfl; (with_reducible repeat (first | refine blk_drewN ?_ _ | refine blk_drew ?_ | refine blk_alloc ?_ _)); refine blk_put (cs := #[.int .i64 ((rd_T35 l0 x119_6).f0), .int .i64 ((rd_T35 l0 x119_6).f1), .int .i64 0, .int .i64 0]) ?_ 2 _ rfl; (with_reducible repeat (first | refine blk_drewN ?_ _ | refine blk_drew ?_ | refine blk_alloc ?_ _)); refine blk_put (cs := #[.int .i64 ((rd_T35 l0 x119_6).f0), .int .i64 0, .int .i64 0, .int .i64 0]) ?_ 1 _ rfl; (with_reducible repeat (first | refine blk_drewN ?_ _ | refine blk_drew ?_ | refine blk_alloc ?_ _)); refine blk_put (cs := #[.int .i64 0, .int .i64 0, .int .i64 0, .int .i64 0]) ?_ 0 _ rfl; (with_reducible repeat (first | refine blk_drewN ?_ _ | refine blk_drew ?_ | refine blk_alloc ?_ _)); exact BK184.out) hb); have n1_ := Aside0.mk (below_step (by repeat (first | (with_reducible first | exact HB.out | apply below_alloc | apply pw_below_drewN | apply below_drew1 | refine below_set ?_ GE184.out) | exact HB.out)) hb); clear BK184; clear HB; have BK184 := n0_; have HB := n1_; clear n0_ n1_; (try clear hb); (try clear hb2); (try clear hk); (try clear hi); have hcz66_0 : w65.cell? ⟨gb184, 0, none⟩ = some (.int .i64 ((rd_T35 l0 x119_6).f0)) := (blk_cell BK184.out 0).trans rfl; have hcz66_1 : w65.cell? ⟨gb184, 1, none⟩ = some (.int .i64 ((rd_T35 l0 x119_6).f1)) := (blk_cell BK184.out 1).trans rfl; have hcz66_2 : w65.cell? ⟨gb184, 2, none⟩ = some (.int .i64 ((rd_T35 l0 x119_6).f2)) := (blk_cell BK184.out 2).trans rfl; have hcz66_3 : w65.cell? ⟨gb184, 3, none⟩ = some (.int .i64 ((rd_T35 l0 x119_6).f3)) := (blk_cell BK184.out 3).trans rfl; have hfz66_0 := blk_frozen BK184.out 0; have hfz66_1 := blk_frozen BK184.out 1; have hfz66_2 := blk_frozen BK184.out 2; have hfz66_3 := blk_frozen BK184.out 3))
                                                  go_roundg k6
                                                  case measure => have := HJ7.out; have := HJ19.out; have := HK3.out; have := HJ27.out; have := HJ41.out; have := HK6.out; omega
                                                  case rel => exact ⟨(false), (wrap64 (x119_6 + 1)), (by first | rfl | (simp; done) | (simp [*]; done)), (by first | rfl | (simp; done) | (simp [*]; done)), H', ⟨by have := HJ7.out; have := HJ19.out; have := HK3.out; have := HJ27.out; have := HJ41.out; have := HK6.out; omega⟩, ⟨by repeat (first | (with_reducible first | exact HB.out | apply below_alloc | apply pw_below_drewN | apply below_drew1 | refine below_set ?_ GE184.out) | exact HB.out)⟩⟩
                                              · replace c52 := Bool.eq_false_iff.mpr c52
                                                subst c52
                                                have H1 : (sizarlaw33_PolicyEnds.l1 k6 l0 a1 a2 a3 (Int.tmod (wrap64 (a4)) 1024) t179 x14_3 t181 false l0 (l0.length : Int) (wrap64 (x119_6 + 1))) = some r := by rw [if_neg (show ¬ (false = true) by decide)] at H; exact H
                                                clear H
                                                have H := H1
                                                clear H1
                                                have H' := Aside0.mk H
                                                clear H
                                                have p183 : 0 ≤ (x119_6 : Int) := of_decide_eq_true (by first | (with_reducible assumption) | assumption)
                                                have q183 : x119_6 < (l0.length : Int) := of_decide_eq_true (by first | (with_reducible assumption) | assumption)
                                                obtain ⟨ad183, e183, hx183_0, hx183_1, hx183_2, hx183_3⟩ := at_T35 HR0.out x119_6 p183 q183
                                                cases e183
                                                replace hx183_0 := (HB.out.cell (World.block_lt_of_cell? w _ hx183_0)).trans hx183_0
                                                replace hx183_1 := (HB.out.cell (World.block_lt_of_cell? w _ hx183_1)).trans hx183_1
                                                replace hx183_2 := (HB.out.cell (World.block_lt_of_cell? w _ hx183_2)).trans hx183_2
                                                replace hx183_3 := (HB.out.cell (World.block_lt_of_cell? w _ hx183_3)).trans hx183_3
                                                replace p183 := eq_true p183
                                                replace q183 := eq_true q183
                                                go_wp2_with (first | ((with_reducible refine gate_dst (N := 19) rfl ?_); refine box_event ?hg (N := 19) ?hd (cs := #[.int .i64 0, .int .i64 0, .int .i64 0, .int .i64 0]) (t := 35) ?hr ?_; (case hd => rfl); (case hg => rfl); (case hr => first | (go_simp; done) | (go_simp; rfl)); intro gb184 hg w67 hbox hb; have n0_ := Aside0.mk (below_step (by repeat (first | (with_reducible first | exact HB.out | apply below_alloc | apply pw_below_drewN | apply below_drew1) | exact HB.out)) hb); have n1_ := Aside0.mk (hbox); have n2_ := Aside0.mk ((by rw [hg]; exact (below_size (by repeat (first | (with_reducible first | exact HB.out | apply below_alloc | apply pw_below_drewN | apply below_drew1) | exact HB.out))) : w.heap.size ≤ gb184)); have n3_ := Aside0.mk ((by rw [hg]; exact (below_size (by repeat (first | (with_reducible first | exact HB.out | apply below_alloc | apply pw_below_drewN | apply below_drew1) | exact HB.out))) : w.heap.size ≤ gb184)); clear HB; have HB := n0_; have BK184 := n1_; have GW184 := n2_; have GE184 := n3_; clear n0_ n1_ n2_ n3_; clear hb hbox hg; have hcz68_0 : w67.cell? ⟨gb184, 0, none⟩ = some (.int .i64 0) := (blk_cell BK184.out 0).trans rfl; have hcz68_1 : w67.cell? ⟨gb184, 1, none⟩ = some (.int .i64 0) := (blk_cell BK184.out 1).trans rfl; have hcz68_2 : w67.cell? ⟨gb184, 2, none⟩ = some (.int .i64 0) := (blk_cell BK184.out 2).trans rfl; have hcz68_3 : w67.cell? ⟨gb184, 3, none⟩ = some (.int .i64 0) := (blk_cell BK184.out 3).trans rfl; have hfz68_0 := blk_frozen BK184.out 0; have hfz68_1 := blk_frozen BK184.out 1; have hfz68_2 := blk_frozen BK184.out 2; have hfz68_3 := blk_frozen BK184.out 3) | (go_at_call 20; (with_reducible refine (sizarlaw33_fits.calls ((rd_T35 l0 x119_6).f0) ((rd_T35 l0 x119_6).f1) ((rd_T35 l0 x119_6).f2) ((rd_T35 l0 x119_6).f3) a1 a2 a3 false _ A51.out).mono ?_); rintro e w69 ⟨rfl, hb⟩; have n0_ := Aside0.mk (blk_below (g := gb184) (o := .cells #[.int .i64 ((rd_T35 l0 x119_6).f0), .int .i64 ((rd_T35 l0 x119_6).f1), .int .i64 ((rd_T35 l0 x119_6).f2), .int .i64 ((rd_T35 l0 x119_6).f3)] 35 (0, 0)) (by (with_reducible repeat (first | refine blk_drewN ?_ _ | refine blk_drew ?_ | refine blk_alloc ?_ _)); refine blk_put (cs := #[.int .i64 ((rd_T35 l0 x119_6).f0), .int .i64 ((rd_T35 l0 x119_6).f1), .int .i64 ((rd_T35 l0 x119_6).f2), .int .i64 0]) ?_ 3 _ rfl; (with_reducible repeat (first | refine blk_drewN ?_ _ | refine blk_drew ?_ | refine blk_alloc ?_ _)); refine blk_put (cs := #[.int .i64 ((rd_T35 l0 x119_6).f0), .int .i64 ((rd_T35 l0 x119_6).f1), .int .i64 0, .int .i64 0]) ?_ 2 _ rfl; (with_reducible repeat (first | refine blk_drewN ?_ _ | refine blk_drew ?_ | refine blk_alloc ?_ _)); refine blk_put (cs := #[.int .i64 ((rd_T35 l0 x119_6).f0), .int .i64 0, .int .i64 0, .int .i64 0]) ?_ 1 _ rfl; (with_reducible repeat (first | refine blk_drewN ?_ _ | refine blk_drew ?_ | refine blk_alloc ?_ _)); refine blk_put (cs := #[.int .i64 0, .int .i64 0, .int .i64 0, .int .i64 0]) ?_ 0 _ rfl; (with_reducible repeat (first | refine blk_drewN ?_ _ | refine blk_drew ?_ | refine blk_alloc ?_ _)); exact BK184.out) hb); have n1_ := Aside0.mk (below_step (by repeat (first | (with_reducible first | exact HB.out | apply below_alloc | apply pw_below_drewN | apply below_drew1 | refine below_set ?_ GE184.out) | exact HB.out)) hb); clear BK184; clear HB; have BK184 := n0_; have HB := n1_; clear n0_ n1_; (try clear hb); (try clear hb2); (try clear hk); (try clear hi)))
                                                go_roundg k6
                                                case measure => have := HJ7.out; have := HJ19.out; have := HK3.out; have := HJ27.out; have := HJ41.out; have := HK6.out; omega
                                                case rel => exact ⟨(false), (wrap64 (x119_6 + 1)), (by first | rfl | (simp; done) | (simp [*]; done)), (by first | rfl | (simp; done) | (simp [*]; done)), H', ⟨by have := HJ7.out; have := HJ19.out; have := HK3.out; have := HJ27.out; have := HJ41.out; have := HK6.out; omega⟩, ⟨by repeat (first | (with_reducible first | exact HB.out | apply below_alloc | apply pw_below_drewN | apply below_drew1 | refine below_set ?_ GE184.out) | exact HB.out)⟩⟩
                                          · rw [if_neg c47] at H
                                            exact absurd H (by simp)
                                        · rw [if_neg c46] at H
                                          exact absurd H (by simp)
                                      · rw [if_neg c45] at H
                                        have c45b0 : decide (x119_6 < (l0.length : Int)) = false := decide_eq_false c45
                                        clear c45
                                        by_cases c70 : x17_6 = true
                                        · subst c70
                                          have H1 : (sizarlaw33_PolicyEnds.l0 k6 l0 a1 a2 a3 (Int.tmod (wrap64 (a4)) 1024) t179 (wrap64 (x14_3 + 1))) = some r := by rw [if_pos rfl] at H; exact H
                                          clear H
                                          have H := H1
                                          clear H1
                                          have H' := Aside0.mk H
                                          clear H
                                          go_wp2
                                          go_roundg k6
                                          case measure => have := HJ7.out; have := HJ19.out; have := HK3.out; have := HJ27.out; have := HJ41.out; have := HK6.out; omega
                                          case rel => exact ⟨(wrap64 (x14_3 + 1)), (by first | rfl | (simp; done) | (simp [*]; done)), H', ⟨by have := HJ7.out; have := HJ19.out; have := HK3.out; have := HJ27.out; have := HJ41.out; have := HK6.out; omega⟩, ⟨by repeat (first | (with_reducible first | exact HB.out | apply below_alloc | apply pw_below_drewN | apply below_drew1) | exact HB.out)⟩⟩
                                        · replace c70 := Bool.eq_false_iff.mpr c70
                                          subst c70
                                          have H1 : (some false) = some r := by rw [if_neg (show ¬ (false = true) by decide)] at H; exact H
                                          clear H
                                          have H := H1
                                          clear H1
                                          obtain rfl := Option.some.inj H
                                          go_wp2
                                          go_ret
                                          exact ⟨by first | rfl | (simp [errW_none, errW_some] <;> rfl) | (simp [*, errW_none, errW_some] <;> rfl), by repeat (first | (with_reducible first | exact HB.out | apply below_alloc | apply pw_below_drewN | apply below_drew1) | exact HB.out)⟩
                    · rw [if_neg c26] at H
                      have c26b0 : decide (x14_3 < 1024) = false := decide_eq_false c26
                      clear c26
                      obtain rfl := Option.some.inj H
                      go_wp2
                      go_ret
                      exact ⟨by first | rfl | (simp [errW_none, errW_some] <;> rfl) | (simp [*, errW_none, errW_some] <;> rfl), by repeat (first | (with_reducible first | exact HB.out | apply below_alloc | apply pw_below_drewN | apply below_drew1) | exact HB.out)⟩
  · replace c7 := Bool.eq_false_iff.mpr c7
    subst c7
    have H1 : (some false) = some r := by rw [if_neg (show ¬ (false = true) by decide)] at H; exact H
    clear H
    have H := H1
    clear H1
    obtain rfl := Option.some.inj H
    go_enter Try.func7, Try.ntmps7
    go_wp2_with (first | ((with_reducible refine gate_callee (f := 10) rfl ?_); refine goesL_ (some 20) rfl rfl Try.func10 (by kernel_rfl) rfl #[] rfl (by (try simp only [List.map_toArray, List.map_cons, List.map_nil]); first | done | rfl | (simp only [List.length_drop, List.length_take]; rfl)) ?_; (with_reducible refine (sizarlaw33_sane.calls  false _ A6.out).mono ?_); rintro e w71 ⟨rfl, hb⟩; refine ⟨_, rfl, ?_⟩; have n0_ := Aside0.mk (below_step (by repeat (first | (with_reducible first | exact HB.out | apply below_alloc | apply pw_below_drewN | apply below_drew1) | exact HB.out)) hb); clear HB; have HB := n0_; clear n0_; (try clear hb); (try clear hb2); (try clear hk); (try clear hi)))
    go_ret
    exact ⟨by first | rfl | (simp [errW_none, errW_some] <;> rfl) | (simp [*, errW_none, errW_some] <;> rfl), by repeat (first | (with_reducible first | exact HB.out | apply below_alloc | apply pw_below_drewN | apply below_drew1) | exact HB.out)⟩

end Go.Proofs.Ytmljglbmokmonaa.Print
