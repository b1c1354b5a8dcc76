/- Machine contracts: each Go function named below, called over memory that reads as its arguments, returns what the Lean function of its name tells; the one condition is that this function tells something. Written by a program for this claim. -/
import Derived.Test.YtmljglbmokmonaaPrint0
import Derived.Test.YtmljglbmokmonaaHand
import Derived.Test.YtmljglbmokmonaaSane
namespace Go.Proofs.Ytmljglbmokmonaa.Print
open Go.RowKit Go.Proofs.YtmljglbmokmonaaW.PrintWords Go.Proofs.YtmljglbmokmonaaW.PrintLast Go.Proofs.YtmljglbmokmonaaW.PrintMore
attribute [local go_sem] max2_int min2_int max_two min_two max_three min_three max_four min_four   -- for this text's walks alone
set_option linter.unusedVariables false
set_option linter.unusedSimpArgs false

/-! ### sizarlaw33_PolicyWorse: function 8 -/
def sizarlaw33_PolicyWorse.j0 : Nat → Int → Int → Int → Int → Int → Int → Int → Int → Int → Int → Int → Bool → Option (Bool)
  | 0, _, _, _, _, _, _, _, _, _, _, _, _ => none
  | k + 1, x0, x1, x2, x9, x10, x11, x12, x13, x14, x15, x16, x54 => if x54 = true then (if x10 = 1 then (if x12 = x10 then (if x14 = x10 then (if x16 = x10 then (some (x9 == 0)) else (some false)) else (some false)) else (some false)) else (some false)) else ((policy_Worse.f 3 x1 x2).bind fun bt195 => (if x10 = 0 then (if x12 = 0 then (if x14 = 0 then (if x16 = 0 then (if bt195.2 = 0 then (if x9 = (wrap64 (-x11)) then (if x9 < (-1) then (some false) else (if x9 > 1 then (some false) else (if ((x9 == 0) != (x1 == x2)) = true then (some false) else (if x9 < 0 then (if x13 < 0 then (if x15 ≥ 0 then (some false) else (if x0 = 3 then (some true) else (some (bt195.1 == (wrap64 (-x9)))))) else (if x0 = 3 then (some true) else (some (bt195.1 == (wrap64 (-x9)))))) else (if x0 = 3 then (some true) else (some (bt195.1 == (wrap64 (-x9))))))))) else (some false)) else (some false)) else (some false)) else (some false)) else (some false)) else (some false)))
def sizarlaw33_PolicyWorse.f (k : Nat) (a0 : Int) (a1 : Int) (a2 : Int) (a3 : Int) : Option (Bool) := (sizarlaw33_sane.f).bind fun t186 => (if t186 = true then ((policy_Worse.f a0 a1 a2).bind fun bt187 => ((policy_Worse.f a0 a2 a1).bind fun bt189 => ((policy_Worse.f a0 a2 a3).bind fun bt191 => ((policy_Worse.f a0 a1 a3).bind fun bt193 => (if a0 < 1 then (sizarlaw33_PolicyWorse.j0 k a0 a1 a2 bt187.1 bt187.2 bt189.1 bt189.2 bt191.1 bt191.2 bt193.1 bt193.2 true) else (sizarlaw33_PolicyWorse.j0 k a0 a1 a2 bt187.1 bt187.2 bt189.1 bt189.2 bt191.1 bt191.2 bt193.1 bt193.2 (decide (a0 > 5)))))))) else (some false))
theorem sizarlaw33_PolicyWorse.mono_l : ∀ k, (∀ y0 y1 y2 y3 y4 y5 y6 y7 y8 y9 y10 y11, LeO (sizarlaw33_PolicyWorse.j0 k y0 y1 y2 y3 y4 y5 y6 y7 y8 y9 y10 y11) (sizarlaw33_PolicyWorse.j0 (k + 1) y0 y1 y2 y3 y4 y5 y6 y7 y8 y9 y10 y11))
  | 0 => fun _ _ _ _ _ _ _ _ _ _ _ _ r h => by simp [sizarlaw33_PolicyWorse.j0] at h
  | k + 1 => by
    have ih0 := sizarlaw33_PolicyWorse.mono_l k
    · intro y0 y1 y2 y3 y4 y5 y6 y7 y8 y9 y10 y11
      unfold sizarlaw33_PolicyWorse.j0
      repeat' first
      | (with_reducible exact ih0 _ _ _ _ _ _ _ _ _ _ _ _)
      | (with_reducible exact LeO.refl _)
      | (with_reducible exact LeO.none _)
      | (with_reducible refine LeO.ite ?_ ?_)
      | (with_reducible refine LeO.bind ?_ (fun _ => ?_))
      | exact ih0 _ _ _ _ _ _ _ _ _ _ _ _
      | exact LeO.none _
      | refine LeO.ite ?_ ?_
      | refine LeO.bind ?_ (fun _ => ?_)
theorem sizarlaw33_PolicyWorse.mono : ∀ a0 a1 a2 a3 k, LeO (sizarlaw33_PolicyWorse.f k a0 a1 a2 a3) (sizarlaw33_PolicyWorse.f (k + 1) a0 a1 a2 a3) := by
  intro a0 a1 a2 a3 k
  have ih0 := sizarlaw33_PolicyWorse.mono_l k
  unfold sizarlaw33_PolicyWorse.f
  repeat' first
      | (with_reducible exact ih0 _ _ _ _ _ _ _ _ _ _ _ _)
      | (with_reducible exact LeO.refl _)
      | (with_reducible exact LeO.none _)
      | (with_reducible refine LeO.ite ?_ ?_)
      | (with_reducible refine LeO.bind ?_ (fun _ => ?_))
      | exact ih0 _ _ _ _ _ _ _ _ _ _ _ _
      | exact LeO.none _
      | refine LeO.ite ?_ ?_
      | refine LeO.bind ?_ (fun _ => ?_)
set_option maxHeartbeats 8000000 in
set_option maxRecDepth 100000 in
theorem sizarlaw33_PolicyWorse.calls (k : Nat) (a0 : Int) (a1 : Int) (a2 : Int) (a3 : Int) (r : Bool) (w : World) (h : sizarlaw33_PolicyWorse.f k a0 a1 a2 a3 = some r) :
    Calls Try.prog 8 #[.int .i64 a0, .int .i64 a1, .int .i64 a2, .int .i64 a3] w fun e w' => e = .returned (.bool r) ∧ Below w.heap.size w w' := by
  have HB := Aside0.mk (Below.refl w.heap.size w)
  have H : ((sizarlaw33_sane.f).bind fun t186 => (if t186 = true then ((policy_Worse.f a0 a1 a2).bind fun bt187 => ((policy_Worse.f a0 a2 a1).bind fun bt189 => ((policy_Worse.f a0 a2 a3).bind fun bt191 => ((policy_Worse.f a0 a1 a3).bind fun bt193 => (if a0 < 1 then (sizarlaw33_PolicyWorse.j0 k a0 a1 a2 bt187.1 bt187.2 bt189.1 bt189.2 bt191.1 bt191.2 bt193.1 bt193.2 true) else (sizarlaw33_PolicyWorse.j0 k a0 a1 a2 bt187.1 bt187.2 bt189.1 bt189.2 bt191.1 bt191.2 bt193.1 bt193.2 (decide (a0 > 5)))))))) else (some false))) = some r := h
  clear h
  replace H := Option.bind_eq_some_iff.mp H
  obtain ⟨t186, A50, H⟩ := H
  replace H : (if t186 = true then ((policy_Worse.f a0 a1 a2).bind fun bt187 => ((policy_Worse.f a0 a2 a1).bind fun bt189 => ((policy_Worse.f a0 a2 a3).bind fun bt191 => ((policy_Worse.f a0 a1 a3).bind fun bt193 => (if a0 < 1 then (sizarlaw33_PolicyWorse.j0 k a0 a1 a2 bt187.1 bt187.2 bt189.1 bt189.2 bt191.1 bt191.2 bt193.1 bt193.2 true) else (sizarlaw33_PolicyWorse.j0 k a0 a1 a2 bt187.1 bt187.2 bt189.1 bt189.2 bt191.1 bt191.2 bt193.1 bt193.2 (decide (a0 > 5)))))))) else (some false)) = some r := H
  have A5 := Aside0.mk A50
  clear A50
  by_cases c6 : t186 = true
  · subst c6
    have H1 : ((policy_Worse.f a0 a1 a2).bind fun bt187 => ((policy_Worse.f a0 a2 a1).bind fun bt189 => ((policy_Worse.f a0 a2 a3).bind fun bt191 => ((policy_Worse.f a0 a1 a3).bind fun bt193 => (if a0 < 1 then (sizarlaw33_PolicyWorse.j0 k a0 a1 a2 bt187.1 bt187.2 bt189.1 bt189.2 bt191.1 bt191.2 bt193.1 bt193.2 true) else (sizarlaw33_PolicyWorse.j0 k a0 a1 a2 bt187.1 bt187.2 bt189.1 bt189.2 bt191.1 bt191.2 bt193.1 bt193.2 (decide (a0 > 5)))))))) = some r := by rw [if_pos rfl] at H; exact H
    clear H
    have H := H1
    clear H1
    replace H := Option.bind_eq_some_iff.mp H
    obtain ⟨⟨t187, t188⟩, A70, H⟩ := H
    replace H : ((policy_Worse.f a0 a2 a1).bind fun bt189 => ((policy_Worse.f a0 a2 a3).bind fun bt191 => ((policy_Worse.f a0 a1 a3).bind fun bt193 => (if a0 < 1 then (sizarlaw33_PolicyWorse.j0 k a0 a1 a2 t187 t188 bt189.1 bt189.2 bt191.1 bt191.2 bt193.1 bt193.2 true) else (sizarlaw33_PolicyWorse.j0 k a0 a1 a2 t187 t188 bt189.1 bt189.2 bt191.1 bt191.2 bt193.1 bt193.2 (decide (a0 > 5))))))) = some r := H
    have A7 := Aside0.mk A70
    clear A70
    replace H := Option.bind_eq_some_iff.mp H
    obtain ⟨⟨t189, t190⟩, A80, H⟩ := H
    replace H : ((policy_Worse.f a0 a2 a3).bind fun bt191 => ((policy_Worse.f a0 a1 a3).bind fun bt193 => (if a0 < 1 then (sizarlaw33_PolicyWorse.j0 k a0 a1 a2 t187 t188 t189 t190 bt191.1 bt191.2 bt193.1 bt193.2 true) else (sizarlaw33_PolicyWorse.j0 k a0 a1 a2 t187 t188 t189 t190 bt191.1 bt191.2 bt193.1 bt193.2 (decide (a0 > 5)))))) = some r := H
    have A8 := Aside0.mk A80
    clear A80
    replace H := Option.bind_eq_some_iff.mp H
    obtain ⟨⟨t191, t192⟩, A90, H⟩ := H
    replace H : ((policy_Worse.f a0 a1 a3).bind fun bt193 => (if a0 < 1 then (sizarlaw33_PolicyWorse.j0 k a0 a1 a2 t187 t188 t189 t190 t191 t192 bt193.1 bt193.2 true) else (sizarlaw33_PolicyWorse.j0 k a0 a1 a2 t187 t188 t189 t190 t191 t192 bt193.1 bt193.2 (decide (a0 > 5))))) = some r := H
    have A9 := Aside0.mk A90
    clear A90
    replace H := Option.bind_eq_some_iff.mp H
    obtain ⟨⟨t193, t194⟩, A100, H⟩ := H
    replace H : (if a0 < 1 then (sizarlaw33_PolicyWorse.j0 k a0 a1 a2 t187 t188 t189 t190 t191 t192 t193 t194 true) else (sizarlaw33_PolicyWorse.j0 k a0 a1 a2 t187 t188 t189 t190 t191 t192 t193 t194 (decide (a0 > 5)))) = some r := H
    have A10 := Aside0.mk A100
    clear A100
    have HC11 := Aside0.mk H
    clear H
    go_enter Try.func8, Try.ntmps8
    go_upto_region 7 with (first | ((with_reducible refine gate_callee (f := 10) rfl ?_); refine goesL_ (some 19) rfl rfl Try.func10 (by kernel_rfl) rfl #[] rfl (by (try simp only [List.map_toArray, List.map_cons, List.map_nil]); first | done | rfl | (simp only [List.length_drop, List.length_take]; rfl)) ?_; (with_reducible refine (sizarlaw33_sane.calls  true _ A5.out).mono ?_); rintro e w12 ⟨rfl, hb⟩; refine ⟨_, rfl, ?_⟩; have n0_ := Aside0.mk (below_step (by repeat (first | (with_reducible first | exact HB.out | apply below_alloc | apply pw_below_drewN | apply below_drew1) | exact HB.out)) hb); clear HB; have HB := n0_; clear n0_; (try clear hb); (try clear hb2); (try clear hk); (try clear hi)) | ((with_reducible refine gate_callee (f := 18) rfl ?_); refine goesL_ (some 25) rfl rfl Try.func18 (by kernel_rfl) rfl #[.int .i64 a0, .int .i64 a1, .int .i64 a2] rfl (by (try simp only [List.map_toArray, List.map_cons, List.map_nil]); first | done | rfl | (simp only [List.length_drop, List.length_take]; rfl)) ?_; (with_reducible refine (policy_Worse.calls a0 a1 a2 t187 t188 _ A7.out).mono ?_); rintro e w13 ⟨rfl, hb⟩; refine ⟨_, rfl, ?_⟩; have n0_ := Aside0.mk (below_step (by repeat (first | (with_reducible first | exact HB.out | apply below_alloc | apply pw_below_drewN | apply below_drew1) | exact HB.out)) hb); clear HB; have HB := n0_; clear n0_; (try clear hb); (try clear hb2); (try clear hk); (try clear hi)) | ((with_reducible refine gate_callee (f := 18) rfl ?_); refine goesL_ (some 32) rfl rfl Try.func18 (by kernel_rfl) rfl #[.int .i64 a0, .int .i64 a2, .int .i64 a1] rfl (by (try simp only [List.map_toArray, List.map_cons, List.map_nil]); first | done | rfl | (simp only [List.length_drop, List.length_take]; rfl)) ?_; (with_reducible refine (policy_Worse.calls a0 a2 a1 t189 t190 _ A8.out).mono ?_); rintro e w14 ⟨rfl, hb⟩; refine ⟨_, rfl, ?_⟩; have n0_ := Aside0.mk (below_step (by repeat (first | (with_reducible first | exact HB.out | apply below_alloc | apply pw_below_drewN | apply below_drew1) | exact HB.out)) hb); clear HB; have HB := n0_; clear n0_; (try clear hb); (try clear hb2); (try clear hk); (try clear hi)) | ((with_reducible refine gate_callee (f := 18) rfl ?_); refine goesL_ (some 39) rfl rfl Try.func18 (by kernel_rfl) rfl #[.int .i64 a0, .int .i64 a2, .int .i64 a3] rfl (by (try simp only [List.map_toArray, List.map_cons, List.map_nil]); first | done | rfl | (simp only [List.length_drop, List.length_take]; rfl)) ?_; (with_reducible refine (policy_Worse.calls a0 a2 a3 t191 t192 _ A9.out).mono ?_); rintro e w15 ⟨rfl, hb⟩; refine ⟨_, rfl, ?_⟩; have n0_ := Aside0.mk (below_step (by repeat (first | (with_reducible first | exact HB.out | apply below_alloc | apply pw_below_drewN | apply below_drew1) | exact HB.out)) hb); clear HB; have HB := n0_; clear n0_; (try clear hb); (try clear hb2); (try clear hk); (try clear hi)) | ((with_reducible refine gate_callee (f := 18) rfl ?_); refine goesL_ (some 46) rfl rfl Try.func18 (by kernel_rfl) rfl #[.int .i64 a0, .int .i64 a1, .int .i64 a3] rfl (by (try simp only [List.map_toArray, List.map_cons, List.map_nil]); first | done | rfl | (simp only [List.length_drop, List.length_take]; rfl)) ?_; (with_reducible refine (policy_Worse.calls a0 a1 a3 t193 t194 _ A10.out).mono ?_); rintro e w16 ⟨rfl, hb⟩; refine ⟨_, rfl, ?_⟩; have n0_ := Aside0.mk (below_step (by repeat (first | (with_reducible first | exact HB.out | apply below_alloc | apply pw_below_drewN | apply below_drew1) | exact HB.out)) hb); clear HB; have HB := n0_; clear n0_; (try clear hb); (try clear hb2); (try clear hk); (try clear hi)))
    (try simp only [Act.put, List.setIfInBounds_toArray, List.set_cons_zero, List.set_cons_succ])
    go_cut [54] (fun v54 wc => ∃ (kq : Nat) (x54_10 : Bool), v54 = .bool x54_10 ∧ Aside0 (sizarlaw33_PolicyWorse.j0 kq a0 a1 a2 t187 t188 t189 t190 t191 t192 t193 t194 x54_10 = some r) ∧ Aside0 (kq ≤ k) ∧ Aside0 (Below w.heap.size w wc))
    case first =>
      have H := HC11.out
      clear HC11
      by_cases c17 : a0 < 1
      · rw [if_pos c17] at H
        have c17b0 : decide (a0 < 1) = true := decide_eq_true c17
        clear c17
        (first | rw [c17b0] | (simp only [i64_w, i32_w]; rw [c17b0]) | skip)
        have H' := Aside0.mk H
        clear H
        go_wp2
        go_meet
        case rel => exact ⟨_, (true), (by first | rfl | (simp; done) | (simp [*]; done)), H', ⟨by first | omega | exact Nat.le_refl _⟩, ⟨by repeat (first | (with_reducible first | exact HB.out | apply below_alloc | apply pw_below_drewN | apply below_drew1) | exact HB.out)⟩⟩
      · rw [if_neg c17] at H
        have c17b0 : decide (a0 < 1) = false := decide_eq_false c17
        clear c17
        (first | rw [c17b0] | (simp only [i64_w, i32_w]; rw [c17b0]) | skip)
        have H' := Aside0.mk H
        clear H
        go_wp2
        go_meet
        case rel => exact ⟨_, (decide (a0 > 5)), (by first | rfl | (simp; done) | (simp [*]; done)), H', ⟨by first | omega | exact Nat.le_refl _⟩, ⟨by repeat (first | (with_reducible first | exact HB.out | apply below_alloc | apply pw_below_drewN | apply below_drew1) | exact HB.out)⟩⟩
    case rest =>
      clear HC11
      try clear c1
      try clear p2
      try clear c6
      try clear c8
      try clear c10
      try clear c17
      try clear c17b0
      obtain ⟨kq, x54_10, rfl, HA, HJ10, HB⟩ := hcut
      cases kq with
      | zero => exact absurd HA.out (by simp [sizarlaw33_PolicyWorse.j0])
      | succ kj10 =>
        have H := HA.out
        clear HA
        simp only [sizarlaw33_PolicyWorse.j0] at H
        by_cases c18 : x54_10 = true
        · subst c18
          have H1 : (if t188 = 1 then (if t190 = t188 then (if t192 = t188 then (if t194 = t188 then (some (t187 == 0)) else (some false)) else (some false)) else (some false)) else (some false)) = some r := by rw [if_pos rfl] at H; exact H
          clear H
          have H := H1
          clear H1
          by_cases c19 : t188 = 1
          · rw [if_pos c19] at H
            have c19b0 : (t188 == 1) = true := beq_iff_eq.mpr c19
            have c19b1 : (t188 != 1) = false := bne_eq_false_iff_eq.mpr c19
            clear c19
            by_cases c20 : t190 = t188
            · rw [if_pos c20] at H
              have c20b0 : (t190 == t188) = true := beq_iff_eq.mpr c20
              have c20b1 : (t190 != t188) = false := bne_eq_false_iff_eq.mpr c20
              clear c20
              by_cases c21 : t192 = t188
              · rw [if_pos c21] at H
                have c21b0 : (t192 == t188) = true := beq_iff_eq.mpr c21
                have c21b1 : (t192 != t188) = false := bne_eq_false_iff_eq.mpr c21
                clear c21
                by_cases c22 : t194 = t188
                · rw [if_pos c22] at H
                  have c22b0 : (t194 == t188) = true := beq_iff_eq.mpr c22
                  have c22b1 : (t194 != t188) = false := bne_eq_false_iff_eq.mpr c22
                  clear c22
                  obtain rfl := Option.some.inj H
                  go_wp2
                  go_ret
                  exact ⟨by first | rfl | (simp [errW_none, errW_some] <;> rfl) | (simp [*, errW_none, errW_some] <;> rfl), by repeat (first | (with_reducible first | exact HB.out | apply below_alloc | apply pw_below_drewN | apply below_drew1) | exact HB.out)⟩
                · rw [if_neg c22] at H
                  have c22b0 : (t194 == t188) = false := beq_eq_false_iff_ne.mpr c22
                  have c22b1 : (t194 != t188) = true := bne_iff_ne.mpr c22
                  obtain rfl := Option.some.inj H
                  go_wp2
                  go_ret
                  exact ⟨by first | rfl | (simp [errW_none, errW_some] <;> rfl) | (simp [*, errW_none, errW_some] <;> rfl), by repeat (first | (with_reducible first | exact HB.out | apply below_alloc | apply pw_below_drewN | apply below_drew1) | exact HB.out)⟩
              · rw [if_neg c21] at H
                have c21b0 : (t192 == t188) = false := beq_eq_false_iff_ne.mpr c21
                have c21b1 : (t192 != t188) = true := bne_iff_ne.mpr c21
                obtain rfl := Option.some.inj H
                go_wp2
                go_ret
                exact ⟨by first | rfl | (simp [errW_none, errW_some] <;> rfl) | (simp [*, errW_none, errW_some] <;> rfl), by repeat (first | (with_reducible first | exact HB.out | apply below_alloc | apply pw_below_drewN | apply below_drew1) | exact HB.out)⟩
            · rw [if_neg c20] at H
              have c20b0 : (t190 == t188) = false := beq_eq_false_iff_ne.mpr c20
              have c20b1 : (t190 != t188) = true := bne_iff_ne.mpr c20
              obtain rfl := Option.some.inj H
              go_wp2
              go_ret
              exact ⟨by first | rfl | (simp [errW_none, errW_some] <;> rfl) | (simp [*, errW_none, errW_some] <;> rfl), by repeat (first | (with_reducible first | exact HB.out | apply below_alloc | apply pw_below_drewN | apply below_drew1) | exact HB.out)⟩
          · rw [if_neg c19] at H
            have c19b0 : (t188 == 1) = false := beq_eq_false_iff_ne.mpr c19
            have c19b1 : (t188 != 1) = true := bne_iff_ne.mpr c19
            obtain rfl := Option.some.inj H
            go_wp2
            go_ret
            exact ⟨by first | rfl | (simp [errW_none, errW_some] <;> rfl) | (simp [*, errW_none, errW_some] <;> rfl), by repeat (first | (with_reducible first | exact HB.out | apply below_alloc | apply pw_below_drewN | apply below_drew1) | exact HB.out)⟩
        · replace c18 := Bool.eq_false_iff.mpr c18
          subst c18
          have H1 : ((policy_Worse.f 3 a1 a2).bind fun bt195 => (if t188 = 0 then (if t190 = 0 then (if t192 = 0 then (if t194 = 0 then (if bt195.2 = 0 then (if t187 = (wrap64 (-t189)) then (if t187 < (-1) then (some false) else (if t187 > 1 then (some false) else (if ((t187 == 0) != (a1 == a2)) = true then (some false) else (if t187 < 0 then (if t191 < 0 then (if t193 ≥ 0 then (some false) else (if a0 = 3 then (some true) else (some (bt195.1 == (wrap64 (-t187)))))) else (if a0 = 3 then (some true) else (some (bt195.1 == (wrap64 (-t187)))))) else (if a0 = 3 then (some true) else (some (bt195.1 == (wrap64 (-t187))))))))) else (some false)) else (some false)) else (some false)) else (some false)) else (some false)) else (some false))) = some r := by rw [if_neg (show ¬ (false = true) by decide)] at H; exact H
          clear H
          have H := H1
          clear H1
          replace H := Option.bind_eq_some_iff.mp H
          obtain ⟨⟨t195, t196⟩, A230, H⟩ := H
          replace H : (if t188 = 0 then (if t190 = 0 then (if t192 = 0 then (if t194 = 0 then (if t196 = 0 then (if t187 = (wrap64 (-t189)) then (if t187 < (-1) then (some false) else (if t187 > 1 then (some false) else (if ((t187 == 0) != (a1 == a2)) = true then (some false) else (if t187 < 0 then (if t191 < 0 then (if t193 ≥ 0 then (some false) else (if a0 = 3 then (some true) else (some (t195 == (wrap64 (-t187)))))) else (if a0 = 3 then (some true) else (some (t195 == (wrap64 (-t187)))))) else (if a0 = 3 then (some true) else (some (t195 == (wrap64 (-t187))))))))) else (some false)) else (some false)) else (some false)) else (some false)) else (some false)) else (some false)) = some r := H
          have A23 := Aside0.mk A230
          clear A230
          by_cases c24 : t188 = 0
          · rw [if_pos c24] at H
            have c24b0 : (t188 == 0) = true := beq_iff_eq.mpr c24
            have c24b1 : (t188 != 0) = false := bne_eq_false_iff_eq.mpr c24
            clear c24
            by_cases c25 : t190 = 0
            · rw [if_pos c25] at H
              have c25b0 : (t190 == 0) = true := beq_iff_eq.mpr c25
              have c25b1 : (t190 != 0) = false := bne_eq_false_iff_eq.mpr c25
              clear c25
              by_cases c26 : t192 = 0
              · rw [if_pos c26] at H
                have c26b0 : (t192 == 0) = true := beq_iff_eq.mpr c26
                have c26b1 : (t192 != 0) = false := bne_eq_false_iff_eq.mpr c26
                clear c26
                by_cases c27 : t194 = 0
                · rw [if_pos c27] at H
                  have c27b0 : (t194 == 0) = true := beq_iff_eq.mpr c27
                  have c27b1 : (t194 != 0) = false := bne_eq_false_iff_eq.mpr c27
                  clear c27
                  by_cases c28 : t196 = 0
                  · rw [if_pos c28] at H
                    have c28b0 : (t196 == 0) = true := beq_iff_eq.mpr c28
                    have c28b1 : (t196 != 0) = false := bne_eq_false_iff_eq.mpr c28
                    clear c28
                    by_cases c29 : t187 = (wrap64 (-t189))
                    · rw [if_pos c29] at H
                      have c29b0 : (t187 == (wrap64 (-t189))) = true := beq_iff_eq.mpr c29
                      have c29b1 : (t187 != (wrap64 (-t189))) = false := bne_eq_false_iff_eq.mpr c29
                      clear c29
                      by_cases c30 : t187 < (-1)
                      · rw [if_pos c30] at H
                        have c30b0 : decide (t187 < (-1)) = true := decide_eq_true c30
                        clear c30
                        obtain rfl := Option.some.inj H
                        go_wp2_with (first | ((with_reducible refine gate_callee (f := 18) rfl ?_); refine goesL_ (some 79) rfl rfl Try.func18 (by kernel_rfl) rfl #[.int .i64 3, .int .i64 a1, .int .i64 a2] rfl (by (try simp only [List.map_toArray, List.map_cons, List.map_nil]); first | done | rfl | (simp only [List.length_drop, List.length_take]; rfl)) ?_; (with_reducible refine (policy_Worse.calls 3 a1 a2 t195 t196 _ A23.out).mono ?_); rintro e w31 ⟨rfl, hb⟩; refine ⟨_, rfl, ?_⟩; have n0_ := Aside0.mk (below_step (by repeat (first | (with_reducible first | exact HB.out | apply below_alloc | apply pw_below_drewN | apply below_drew1) | exact HB.out)) hb); clear HB; have HB := n0_; clear n0_; (try clear hb); (try clear hb2); (try clear hk); (try clear hi)))
                        go_ret
                        exact ⟨by first | rfl | (simp [errW_none, errW_some] <;> rfl) | (simp [*, errW_none, errW_some] <;> rfl), by repeat (first | (with_reducible first | exact HB.out | apply below_alloc | apply pw_below_drewN | apply below_drew1) | exact HB.out)⟩
                      · rw [if_neg c30] at H
                        have c30b0 : decide (t187 < (-1)) = false := decide_eq_false c30
                        clear c30
                        by_cases c32 : t187 > 1
                        · rw [if_pos c32] at H
                          have c32b0 : decide (1 < t187) = true := decide_eq_true c32
                          clear c32
                          obtain rfl := Option.some.inj H
                          go_wp2_with (first | ((with_reducible refine gate_callee (f := 18) rfl ?_); refine goesL_ (some 79) rfl rfl Try.func18 (by kernel_rfl) rfl #[.int .i64 3, .int .i64 a1, .int .i64 a2] rfl (by (try simp only [List.map_toArray, List.map_cons, List.map_nil]); first | done | rfl | (simp only [List.length_drop, List.length_take]; rfl)) ?_; (with_reducible refine (policy_Worse.calls 3 a1 a2 t195 t196 _ A23.out).mono ?_); rintro e w33 ⟨rfl, hb⟩; refine ⟨_, rfl, ?_⟩; have n0_ := Aside0.mk (below_step (by repeat (first | (with_reducible first | exact HB.out | apply below_alloc | apply pw_below_drewN | apply below_drew1) | exact HB.out)) hb); clear HB; have HB := n0_; clear n0_; (try clear hb); (try clear hb2); (try clear hk); (try clear hi)))
                          go_ret
                          exact ⟨by first | rfl | (simp [errW_none, errW_some] <;> rfl) | (simp [*, errW_none, errW_some] <;> rfl), by repeat (first | (with_reducible first | exact HB.out | apply below_alloc | apply pw_below_drewN | apply below_drew1) | exact HB.out)⟩
                        · rw [if_neg c32] at H
                          have c32b0 : decide (1 < t187) = false := decide_eq_false c32
                          clear c32
                          by_cases c34 : ((t187 == 0) != (a1 == a2)) = true
                          · rw [if_pos c34] at H
                            have c34b0 : ((t187 == 0) != (a1 == a2)) = true := c34
                            (try (have c34b1 : decide ((t187 == 0) = (a1 == a2)) = false := by simpa using c34))
                            (try (have c34b2 : ((t187 == 0) == (a1 == a2)) = false := by simpa using c34))
                            (try (have c34b3 : ¬ ((t187 == 0) = (a1 == a2)) := by simpa using c34))
                            clear c34
                            obtain rfl := Option.some.inj H
                            go_wp2_with (first | ((with_reducible refine gate_callee (f := 18) rfl ?_); refine goesL_ (some 79) rfl rfl Try.func18 (by kernel_rfl) rfl #[.int .i64 3, .int .i64 a1, .int .i64 a2] rfl (by (try simp only [List.map_toArray, List.map_cons, List.map_nil]); first | done | rfl | (simp only [List.length_drop, List.length_take]; rfl)) ?_; (with_reducible refine (policy_Worse.calls 3 a1 a2 t195 t196 _ A23.out).mono ?_); rintro e w35 ⟨rfl, hb⟩; refine ⟨_, rfl, ?_⟩; have n0_ := Aside0.mk (below_step (by repeat (first | (with_reducible first | exact HB.out | apply below_alloc | apply pw_below_drewN | apply below_drew1) | exact HB.out)) hb); clear HB; have HB := n0_; clear n0_; (try clear hb); (try clear hb2); (try clear hk); (try clear hi)))
                            go_ret
                            exact ⟨by first | rfl | (simp [errW_none, errW_some] <;> rfl) | (simp [*, errW_none, errW_some] <;> rfl), by repeat (first | (with_reducible first | exact HB.out | apply below_alloc | apply pw_below_drewN | apply below_drew1) | exact HB.out)⟩
                          · rw [if_neg c34] at H
                            have c34b0 : ((t187 == 0) != (a1 == a2)) = false := by simpa using c34
                            (try (have c34b1 : decide ((t187 == 0) = (a1 == a2)) = true := by simpa using c34))
                            (try (have c34b2 : ((t187 == 0) == (a1 == a2)) = true := by simpa using c34))
                            clear c34
                            by_cases c36 : t187 < 0
                            · rw [if_pos c36] at H
                              have c36b0 : decide (t187 < 0) = true := decide_eq_true c36
                              clear c36
                              by_cases c37 : t191 < 0
                              · rw [if_pos c37] at H
                                have c37b0 : decide (t191 < 0) = true := decide_eq_true c37
                                clear c37
                                by_cases c38 : t193 ≥ 0
                                · rw [if_pos c38] at H
                                  have c38b0 : decide (0 ≤ t193) = true := decide_eq_true c38
                                  clear c38
                                  obtain rfl := Option.some.inj H
                                  go_wp2_with (first | ((with_reducible refine gate_callee (f := 18) rfl ?_); refine goesL_ (some 79) rfl rfl Try.func18 (by kernel_rfl) rfl #[.int .i64 3, .int .i64 a1, .int .i64 a2] rfl (by (try simp only [List.map_toArray, List.map_cons, List.map_nil]); first | done | rfl | (simp only [List.length_drop, List.length_take]; rfl)) ?_; (with_reducible refine (policy_Worse.calls 3 a1 a2 t195 t196 _ A23.out).mono ?_); rintro e w39 ⟨rfl, hb⟩; refine ⟨_, rfl, ?_⟩; have n0_ := Aside0.mk (below_step (by repeat (first | (with_reducible first | exact HB.out | apply below_alloc | apply pw_below_drewN | apply below_drew1) | exact HB.out)) hb); clear HB; have HB := n0_; clear n0_; (try clear hb); (try clear hb2); (try clear hk); (try clear hi)))
                                  go_ret
                                  exact ⟨by first | rfl | (simp [errW_none, errW_some] <;> rfl) | (simp [*, errW_none, errW_some] <;> rfl), by repeat (first | (with_reducible first | exact HB.out | apply below_alloc | apply pw_below_drewN | apply below_drew1) | exact HB.out)⟩
                                · rw [if_neg c38] at H
                                  have c38b0 : decide (0 ≤ t193) = false := decide_eq_false c38
                                  clear c38
                                  by_cases c40 : a0 = 3
                                  · rw [if_pos c40] at H
                                    have c40b0 : (a0 == 3) = true := beq_iff_eq.mpr c40
                                    have c40b1 : (a0 != 3) = false := bne_eq_false_iff_eq.mpr c40
                                    clear c40
                                    obtain rfl := Option.some.inj H
                                    go_wp2_with (first | ((with_reducible refine gate_callee (f := 18) rfl ?_); refine goesL_ (some 79) rfl rfl Try.func18 (by kernel_rfl) rfl #[.int .i64 3, .int .i64 a1, .int .i64 a2] rfl (by (try simp only [List.map_toArray, List.map_cons, List.map_nil]); first | done | rfl | (simp only [List.length_drop, List.length_take]; rfl)) ?_; (with_reducible refine (policy_Worse.calls 3 a1 a2 t195 t196 _ A23.out).mono ?_); rintro e w41 ⟨rfl, hb⟩; refine ⟨_, rfl, ?_⟩; have n0_ := Aside0.mk (below_step (by repeat (first | (with_reducible first | exact HB.out | apply below_alloc | apply pw_below_drewN | apply below_drew1) | exact HB.out)) hb); clear HB; have HB := n0_; clear n0_; (try clear hb); (try clear hb2); (try clear hk); (try clear hi)))
                                    go_ret
                                    exact ⟨by first | rfl | (simp [errW_none, errW_some] <;> rfl) | (simp [*, errW_none, errW_some] <;> rfl), by repeat (first | (with_reducible first | exact HB.out | apply below_alloc | apply pw_below_drewN | apply below_drew1) | exact HB.out)⟩
                                  · rw [if_neg c40] at H
                                    have c40b0 : (a0 == 3) = false := beq_eq_false_iff_ne.mpr c40
                                    have c40b1 : (a0 != 3) = true := bne_iff_ne.mpr c40
                                    obtain rfl := Option.some.inj H
                                    go_wp2_with (first | ((with_reducible refine gate_callee (f := 18) rfl ?_); refine goesL_ (some 79) rfl rfl Try.func18 (by kernel_rfl) rfl #[.int .i64 3, .int .i64 a1, .int .i64 a2] rfl (by (try simp only [List.map_toArray, List.map_cons, List.map_nil]); first | done | rfl | (simp only [List.length_drop, List.length_take]; rfl)) ?_; (with_reducible refine (policy_Worse.calls 3 a1 a2 t195 t196 _ A23.out).mono ?_); rintro e w42 ⟨rfl, hb⟩; refine ⟨_, rfl, ?_⟩; have n0_ := Aside0.mk (below_step (by repeat (first | (with_reducible first | exact HB.out | apply below_alloc | apply pw_below_drewN | apply below_drew1) | exact HB.out)) hb); clear HB; have HB := n0_; clear n0_; (try clear hb); (try clear hb2); (try clear hk); (try clear hi)))
                                    go_ret
                                    exact ⟨by first | rfl | (simp [errW_none, errW_some] <;> rfl) | (simp [*, errW_none, errW_some] <;> rfl), by repeat (first | (with_reducible first | exact HB.out | apply below_alloc | apply pw_below_drewN | apply below_drew1) | exact HB.out)⟩
                              · rw [if_neg c37] at H
                                have c37b0 : decide (t191 < 0) = false := decide_eq_false c37
                                clear c37
                                by_cases c43 : a0 = 3
                                · rw [if_pos c43] at H
                                  have c43b0 : (a0 == 3) = true := beq_iff_eq.mpr c43
                                  have c43b1 : (a0 != 3) = false := bne_eq_false_iff_eq.mpr c43
                                  clear c43
                                  obtain rfl := Option.some.inj H
                                  go_wp2_with (first | ((with_reducible refine gate_callee (f := 18) rfl ?_); refine goesL_ (some 79) rfl rfl Try.func18 (by kernel_rfl) rfl #[.int .i64 3, .int .i64 a1, .int .i64 a2] rfl (by (try simp only [List.map_toArray, List.map_cons, List.map_nil]); first | done | rfl | (simp only [List.length_drop, List.length_take]; rfl)) ?_; (with_reducible refine (policy_Worse.calls 3 a1 a2 t195 t196 _ A23.out).mono ?_); rintro e w44 ⟨rfl, hb⟩; refine ⟨_, rfl, ?_⟩; have n0_ := Aside0.mk (below_step (by repeat (first | (with_reducible first | exact HB.out | apply below_alloc | apply pw_below_drewN | apply below_drew1) | exact HB.out)) hb); clear HB; have HB := n0_; clear n0_; (try clear hb); (try clear hb2); (try clear hk); (try clear hi)))
                                  go_ret
                                  exact ⟨by first | rfl | (simp [errW_none, errW_some] <;> rfl) | (simp [*, errW_none, errW_some] <;> rfl), by repeat (first | (with_reducible first | exact HB.out | apply below_alloc | apply pw_below_drewN | apply below_drew1) | exact HB.out)⟩
                                · rw [if_neg c43] at H
                                  have c43b0 : (a0 == 3) = false := beq_eq_false_iff_ne.mpr c43
                                  have c43b1 : (a0 != 3) = true := bne_iff_ne.mpr c43
                                  obtain rfl := Option.some.inj H
                                  go_wp2_with (first | ((with_reducible refine gate_callee (f := 18) rfl ?_); refine goesL_ (some 79) rfl rfl Try.func18 (by kernel_rfl) rfl #[.int .i64 3, .int .i64 a1, .int .i64 a2] rfl (by (try simp only [List.map_toArray, List.map_cons, List.map_nil]); first | done | rfl | (simp only [List.length_drop, List.length_take]; rfl)) ?_; (with_reducible refine (policy_Worse.calls 3 a1 a2 t195 t196 _ A23.out).mono ?_); rintro e w45 ⟨rfl, hb⟩; refine ⟨_, rfl, ?_⟩; have n0_ := Aside0.mk (below_step (by repeat (first | (with_reducible first | exact HB.out | apply below_alloc | apply pw_below_drewN | apply below_drew1) | exact HB.out)) hb); clear HB; have HB := n0_; clear n0_; (try clear hb); (try clear hb2); (try clear hk); (try clear hi)))
                                  go_ret
                                  exact ⟨by first | rfl | (simp [errW_none, errW_some] <;> rfl) | (simp [*, errW_none, errW_some] <;> rfl), by repeat (first | (with_reducible first | exact HB.out | apply below_alloc | apply pw_below_drewN | apply below_drew1) | exact HB.out)⟩
                            · rw [if_neg c36] at H
                              have c36b0 : decide (t187 < 0) = false := decide_eq_false c36
                              clear c36
                              by_cases c46 : a0 = 3
                              · rw [if_pos c46] at H
                                have c46b0 : (a0 == 3) = true := beq_iff_eq.mpr c46
                                have c46b1 : (a0 != 3) = false := bne_eq_false_iff_eq.mpr c46
                                clear c46
                                obtain rfl := Option.some.inj H
                                go_wp2_with (first | ((with_reducible refine gate_callee (f := 18) rfl ?_); refine goesL_ (some 79) rfl rfl Try.func18 (by kernel_rfl) rfl #[.int .i64 3, .int .i64 a1, .int .i64 a2] rfl (by (try simp only [List.map_toArray, List.map_cons, List.map_nil]); first | done | rfl | (simp only [List.length_drop, List.length_take]; rfl)) ?_; (with_reducible refine (policy_Worse.calls 3 a1 a2 t195 t196 _ A23.out).mono ?_); rintro e w47 ⟨rfl, hb⟩; refine ⟨_, rfl, ?_⟩; have n0_ := Aside0.mk (below_step (by repeat (first | (with_reducible first | exact HB.out | apply below_alloc | apply pw_below_drewN | apply below_drew1) | exact HB.out)) hb); clear HB; have HB := n0_; clear n0_; (try clear hb); (try clear hb2); (try clear hk); (try clear hi)))
                                go_ret
                                exact ⟨by first | rfl | (simp [errW_none, errW_some] <;> rfl) | (simp [*, errW_none, errW_some] <;> rfl), by repeat (first | (with_reducible first | exact HB.out | apply below_alloc | apply pw_below_drewN | apply below_drew1) | exact HB.out)⟩
                              · rw [if_neg c46] at H
                                have c46b0 : (a0 == 3) = false := beq_eq_false_iff_ne.mpr c46
                                have c46b1 : (a0 != 3) = true := bne_iff_ne.mpr c46
                                obtain rfl := Option.some.inj H
                                go_wp2_with (first | ((with_reducible refine gate_callee (f := 18) rfl ?_); refine goesL_ (some 79) rfl rfl Try.func18 (by kernel_rfl) rfl #[.int .i64 3, .int .i64 a1, .int .i64 a2] rfl (by (try simp only [List.map_toArray, List.map_cons, List.map_nil]); first | done | rfl | (simp only [List.length_drop, List.length_take]; rfl)) ?_; (with_reducible refine (policy_Worse.calls 3 a1 a2 t195 t196 _ A23.out).mono ?_); rintro e w48 ⟨rfl, hb⟩; refine ⟨_, rfl, ?_⟩; have n0_ := Aside0.mk (below_step (by repeat (first | (with_reducible first | exact HB.out | apply below_alloc | apply pw_below_drewN | apply below_drew1) | exact HB.out)) hb); clear HB; have HB := n0_; clear n0_; (try clear hb); (try clear hb2); (try clear hk); (try clear hi)))
                                go_ret
                                exact ⟨by first | rfl | (simp [errW_none, errW_some] <;> rfl) | (simp [*, errW_none, errW_some] <;> rfl), by repeat (first | (with_reducible first | exact HB.out | apply below_alloc | apply pw_below_drewN | apply below_drew1) | exact HB.out)⟩
                    · rw [if_neg c29] at H
                      have c29b0 : (t187 == (wrap64 (-t189))) = false := beq_eq_false_iff_ne.mpr c29
                      have c29b1 : (t187 != (wrap64 (-t189))) = true := bne_iff_ne.mpr c29
                      obtain rfl := Option.some.inj H
                      go_wp2_with (first | ((with_reducible refine gate_callee (f := 18) rfl ?_); refine goesL_ (some 79) rfl rfl Try.func18 (by kernel_rfl) rfl #[.int .i64 3, .int .i64 a1, .int .i64 a2] rfl (by (try simp only [List.map_toArray, List.map_cons, List.map_nil]); first | done | rfl | (simp only [List.length_drop, List.length_take]; rfl)) ?_; (with_reducible refine (policy_Worse.calls 3 a1 a2 t195 t196 _ A23.out).mono ?_); rintro e w49 ⟨rfl, hb⟩; refine ⟨_, rfl, ?_⟩; have n0_ := Aside0.mk (below_step (by repeat (first | (with_reducible first | exact HB.out | apply below_alloc | apply pw_below_drewN | apply below_drew1) | exact HB.out)) hb); clear HB; have HB := n0_; clear n0_; (try clear hb); (try clear hb2); (try clear hk); (try clear hi)))
                      go_ret
                      exact ⟨by first | rfl | (simp [errW_none, errW_some] <;> rfl) | (simp [*, errW_none, errW_some] <;> rfl), by repeat (first | (with_reducible first | exact HB.out | apply below_alloc | apply pw_below_drewN | apply below_drew1) | exact HB.out)⟩
                  · rw [if_neg c28] at H
                    have c28b0 : (t196 == 0) = false := beq_eq_false_iff_ne.mpr c28
                    have c28b1 : (t196 != 0) = true := bne_iff_ne.mpr c28
                    obtain rfl := Option.some.inj H
                    go_wp2_with (first | ((with_reducible refine gate_callee (f := 18) rfl ?_); refine goesL_ (some 79) rfl rfl Try.func18 (by kernel_rfl) rfl #[.int .i64 3, .int .i64 a1, .int .i64 a2] rfl (by (try simp only [List.map_toArray, List.map_cons, List.map_nil]); first | done | rfl | (simp only [List.length_drop, List.length_take]; rfl)) ?_; (with_reducible refine (policy_Worse.calls 3 a1 a2 t195 t196 _ A23.out).mono ?_); rintro e w50 ⟨rfl, hb⟩; refine ⟨_, rfl, ?_⟩; have n0_ := Aside0.mk (below_step (by repeat (first | (with_reducible first | exact HB.out | apply below_alloc | apply pw_below_drewN | apply below_drew1) | exact HB.out)) hb); clear HB; have HB := n0_; clear n0_; (try clear hb); (try clear hb2); (try clear hk); (try clear hi)))
                    go_ret
                    exact ⟨by first | rfl | (simp [errW_none, errW_some] <;> rfl) | (simp [*, errW_none, errW_some] <;> rfl), by repeat (first | (with_reducible first | exact HB.out | apply below_alloc | apply pw_below_drewN | apply below_drew1) | exact HB.out)⟩
                · rw [if_neg c27] at H
                  have c27b0 : (t194 == 0) = false := beq_eq_false_iff_ne.mpr c27
                  have c27b1 : (t194 != 0) = true := bne_iff_ne.mpr c27
                  obtain rfl := Option.some.inj H
                  go_wp2_with (first | ((with_reducible refine gate_callee (f := 18) rfl ?_); refine goesL_ (some 79) rfl rfl Try.func18 (by kernel_rfl) rfl #[.int .i64 3, .int .i64 a1, .int .i64 a2] rfl (by (try simp only [List.map_toArray, List.map_cons, List.map_nil]); first | done | rfl | (simp only [List.length_drop, List.length_take]; rfl)) ?_; (with_reducible refine (policy_Worse.calls 3 a1 a2 t195 t196 _ A23.out).mono ?_); rintro e w51 ⟨rfl, hb⟩; refine ⟨_, rfl, ?_⟩; have n0_ := Aside0.mk (below_step (by repeat (first | (with_reducible first | exact HB.out | apply below_alloc | apply pw_below_drewN | apply below_drew1) | exact HB.out)) hb); clear HB; have HB := n0_; clear n0_; (try clear hb); (try clear hb2); (try clear hk); (try clear hi)))
                  go_ret
                  exact ⟨by first | rfl | (simp [errW_none, errW_some] <;> rfl) | (simp [*, errW_none, errW_some] <;> rfl), by repeat (first | (with_reducible first | exact HB.out | apply below_alloc | apply pw_below_drewN | apply below_drew1) | exact HB.out)⟩
              · rw [if_neg c26] at H
                have c26b0 : (t192 == 0) = false := beq_eq_false_iff_ne.mpr c26
                have c26b1 : (t192 != 0) = true := bne_iff_ne.mpr c26
                obtain rfl := Option.some.inj H
                go_wp2_with (first | ((with_reducible refine gate_callee (f := 18) rfl ?_); refine goesL_ (some 79) rfl rfl Try.func18 (by kernel_rfl) rfl #[.int .i64 3, .int .i64 a1, .int .i64 a2] rfl (by (try simp only [List.map_toArray, List.map_cons, List.map_nil]); first | done | rfl | (simp only [List.length_drop, List.length_take]; rfl)) ?_; (with_reducible refine (policy_Worse.calls 3 a1 a2 t195 t196 _ A23.out).mono ?_); rintro e w52 ⟨rfl, hb⟩; refine ⟨_, rfl, ?_⟩; have n0_ := Aside0.mk (below_step (by repeat (first | (with_reducible first | exact HB.out | apply below_alloc | apply pw_below_drewN | apply below_drew1) | exact HB.out)) hb); clear HB; have HB := n0_; clear n0_; (try clear hb); (try clear hb2); (try clear hk); (try clear hi)))
                go_ret
                exact ⟨by first | rfl | (simp [errW_none, errW_some] <;> rfl) | (simp [*, errW_none, errW_some] <;> rfl), by repeat (first | (with_reducible first | exact HB.out | apply below_alloc | apply pw_below_drewN | apply below_drew1) | exact HB.out)⟩
            · rw [if_neg c25] at H
              have c25b0 : (t190 == 0) = false := beq_eq_false_iff_ne.mpr c25
              have c25b1 : (t190 != 0) = true := bne_iff_ne.mpr c25
              obtain rfl := Option.some.inj H
              go_wp2_with (first | ((with_reducible refine gate_callee (f := 18) rfl ?_); refine goesL_ (some 79) rfl rfl Try.func18 (by kernel_rfl) rfl #[.int .i64 3, .int .i64 a1, .int .i64 a2] rfl (by (try simp only [List.map_toArray, List.map_cons, List.map_nil]); first | done | rfl | (simp only [List.length_drop, List.length_take]; rfl)) ?_; (with_reducible refine (policy_Worse.calls 3 a1 a2 t195 t196 _ A23.out).mono ?_); rintro e w53 ⟨rfl, hb⟩; refine ⟨_, rfl, ?_⟩; have n0_ := Aside0.mk (below_step (by repeat (first | (with_reducible first | exact HB.out | apply below_alloc | apply pw_below_drewN | apply below_drew1) | exact HB.out)) hb); clear HB; have HB := n0_; clear n0_; (try clear hb); (try clear hb2); (try clear hk); (try clear hi)))
              go_ret
              exact ⟨by first | rfl | (simp [errW_none, errW_some] <;> rfl) | (simp [*, errW_none, errW_some] <;> rfl), by repeat (first | (with_reducible first | exact HB.out | apply below_alloc | apply pw_below_drewN | apply below_drew1) | exact HB.out)⟩
          · rw [if_neg c24] at H
            have c24b0 : (t188 == 0) = false := beq_eq_false_iff_ne.mpr c24
            have c24b1 : (t188 != 0) = true := bne_iff_ne.mpr c24
            obtain rfl := Option.some.inj H
            go_wp2_with (first | ((with_reducible refine gate_callee (f := 18) rfl ?_); refine goesL_ (some 79) rfl rfl Try.func18 (by kernel_rfl) rfl #[.int .i64 3, .int .i64 a1, .int .i64 a2] rfl (by (try simp only [List.map_toArray, List.map_cons, List.map_nil]); first | done | rfl | (simp only [List.length_drop, List.length_take]; rfl)) ?_; (with_reducible refine (policy_Worse.calls 3 a1 a2 t195 t196 _ A23.out).mono ?_); rintro e w54 ⟨rfl, hb⟩; refine ⟨_, rfl, ?_⟩; have n0_ := Aside0.mk (below_step (by repeat (first | (with_reducible first | exact HB.out | apply below_alloc | apply pw_below_drewN | apply below_drew1) | exact HB.out)) hb); clear HB; have HB := n0_; clear n0_; (try clear hb); (try clear hb2); (try clear hk); (try clear hi)))
            go_ret
            exact ⟨by first | rfl | (simp [errW_none, errW_some] <;> rfl) | (simp [*, errW_none, errW_some] <;> rfl), by repeat (first | (with_reducible first | exact HB.out | apply below_alloc | apply pw_below_drewN | apply below_drew1) | exact HB.out)⟩
  · replace c6 := Bool.eq_false_iff.mpr c6
    subst c6
    have H1 : (some false) = some r := by rw [if_neg (show ¬ (false = true) by decide)] at H; exact H
    clear H
    have H := H1
    clear H1
    obtain rfl := Option.some.inj H
    go_enter Try.func8, Try.ntmps8
    go_wp2_with (first | ((with_reducible refine gate_callee (f := 10) rfl ?_); refine goesL_ (some 19) rfl rfl Try.func10 (by kernel_rfl) rfl #[] rfl (by (try simp only [List.map_toArray, List.map_cons, List.map_nil]); first | done | rfl | (simp only [List.length_drop, List.length_take]; rfl)) ?_; (with_reducible refine (sizarlaw33_sane.calls  false _ A5.out).mono ?_); rintro e w55 ⟨rfl, hb⟩; refine ⟨_, rfl, ?_⟩; have n0_ := Aside0.mk (below_step (by repeat (first | (with_reducible first | exact HB.out | apply below_alloc | apply pw_below_drewN | apply below_drew1) | exact HB.out)) hb); clear HB; have HB := n0_; clear n0_; (try clear hb); (try clear hb2); (try clear hk); (try clear hi)))
    go_ret
    exact ⟨by first | rfl | (simp [errW_none, errW_some] <;> rfl) | (simp [*, errW_none, errW_some] <;> rfl), by repeat (first | (with_reducible first | exact HB.out | apply below_alloc | apply pw_below_drewN | apply below_drew1) | exact HB.out)⟩

/-- THE ONE PURE STATEMENT of sizarlaw33_PolicyWorse: yours. -/
def sizarlaw33_PolicyWorse.Pure : Prop := ∀ (a0 : Int) (a1 : Int) (a2 : Int) (a3 : Int), (Lit.int .i64 a0).wf = true → (Lit.int .i64 a1).wf = true → (Lit.int .i64 a2).wf = true → (Lit.int .i64 a3).wf = true → ∃ k, sizarlaw33_PolicyWorse.f k a0 a1 a2 a3 = some true
theorem sizarlaw33_PolicyWorse.walk (P : sizarlaw33_PolicyWorse.Pure) (a0 : Int) (a1 : Int) (a2 : Int) (a3 : Int) (w : World) (w0 : (Lit.int .i64 a0).wf = true) (w1 : (Lit.int .i64 a1).wf = true) (w2 : (Lit.int .i64 a2).wf = true) (w3 : (Lit.int .i64 a3).wf = true) :
    Calls Try.prog 8 #[.int .i64 a0, .int .i64 a1, .int .i64 a2, .int .i64 a3] w fun e w' => e = .returned (.bool true) ∧ Below w.heap.size w w' := by
  obtain ⟨k, h⟩ := P a0 a1 a2 a3 w0 w1 w2 w3
  refine (sizarlaw33_PolicyWorse.calls k a0 a1 a2 a3 true w h).mono ?_
  rintro e w' ⟨rfl, hd⟩
  exact ⟨rfl, hd⟩

end Go.Proofs.Ytmljglbmokmonaa.Print
