/- Contract, proved by hand, of the function sizarlaw33.sane (the chapter's examples hold): each call returns true. No condition. -/
import Derived.Test.YtmljglbmokmonaaPrint1
namespace Go.Proofs.Ytmljglbmokmonaa.Print
open Go.RowKit Go.Proofs.YtmljglbmokmonaaW.PrintWords Go.Proofs.YtmljglbmokmonaaW.PrintLast Go.Proofs.YtmljglbmokmonaaW.PrintMore
def sizarlaw33_sane.f : Option Bool := some true
theorem lit1 (W : World) (x : S35) : Kd.C k35 (W.alloc (.cells #[.int .i64 x.f0, .int .i64 x.f1, .int .i64 x.f2, .int .i64 x.f3] 35 (0, 0))) (some ⟨W.heap.size, 0, none⟩) 1 [x] := by
  refine ⟨rfl, by decide, fun _ => ⟨_, rfl, fun j p hj => ?_⟩⟩
  have h := blk_new W (.cells #[.int .i64 x.f0, .int .i64 x.f1, .int .i64 x.f2, .int .i64 x.f3] 35 (0, 0))
  have hj0 : j = 0 := by have := (List.getElem?_eq_some_iff.1 hj).1; simp at this; exact this
  subst hj0
  cases hj
  refine ⟨_, rfl, k35_mk _ _, fun i u hu => ?_⟩
  rw [add_plain, blk_cell h]
  have hi : i < 4 := (List.getElem?_eq_some_iff.1 hu).1
  have : i = 0 ∨ i = 1 ∨ i = 2 ∨ i = 3 := by omega
  rcases this with rfl | rfl | rfl | rfl <;> exact hu
theorem lit2 (W : World) (x y : S35) : Kd.C k35 (W.alloc (.cells #[.int .i64 x.f0, .int .i64 x.f1, .int .i64 x.f2, .int .i64 x.f3, .int .i64 y.f0, .int .i64 y.f1, .int .i64 y.f2, .int .i64 y.f3] 35 (0, 0))) (some ⟨W.heap.size, 0, none⟩) 2 [x, y] := by
  refine ⟨rfl, by decide, fun _ => ⟨_, rfl, fun j p hj => ?_⟩⟩
  have h := blk_new W (.cells #[.int .i64 x.f0, .int .i64 x.f1, .int .i64 x.f2, .int .i64 x.f3, .int .i64 y.f0, .int .i64 y.f1, .int .i64 y.f2, .int .i64 y.f3] 35 (0, 0))
  have hj0 : j = 0 ∨ j = 1 := by have := (List.getElem?_eq_some_iff.1 hj).1; simp at this; omega
  rcases hj0 with rfl | rfl
  · cases hj
    refine ⟨_, rfl, k35_mk _ _, fun i u hu => ?_⟩
    rw [add_plain, blk_cell h]
    have hi : i < 4 := (List.getElem?_eq_some_iff.1 hu).1
    have : i = 0 ∨ i = 1 ∨ i = 2 ∨ i = 3 := by omega
    rcases this with rfl | rfl | rfl | rfl <;> exact hu
  · cases hj
    refine ⟨_, rfl, k35_mk _ _, fun i u hu => ?_⟩
    rw [add_plain, blk_cell h]
    have hi : i < 4 := (List.getElem?_eq_some_iff.1 hu).1
    have : i = 0 ∨ i = 1 ∨ i = 2 ∨ i = 3 := by omega
    rcases this with rfl | rfl | rfl | rfl <;> exact hu
set_option maxHeartbeats 2000000 in
theorem sizarlaw33_sane.core (w : World) : Calls Try.prog 10 #[] w fun e w' => e = .returned (.bool true) ∧ Below w.heap.size w w' := by
  have hu35 := Try.underlying35
  have hu22 := Try.underlying22
  have HL := Aside0.mk (lit2 w ⟨1, 2, 3, 2⟩ ⟨1, 0, 2, 5⟩)
  go_enter Try.func10, Try.ntmps10
  go_wp2_with fail
  refine (policy_Action.calls _ _ [⟨1, 2, 3, 2⟩, ⟨1, 0, 2, 5⟩] 1 1 0 10 12 3 0 _ HL.out (by decide) (by rfl)).mono ?_
  rintro e w1 ⟨rfl, hb1⟩
  have HB1 := Aside0.mk (below_step (below_one _) hb1)
  have HL1 := Aside0.mk (Kd.C_below HL.out hb1)
  clear HL hb1
  go_wp2_with fail
  refine (policy_Action.calls _ _ [⟨1, 2, 3, 2⟩, ⟨1, 0, 2, 5⟩] 1 1 0 10 15 2 0 _ HL1.out (by decide) (by rfl)).mono ?_
  rintro e w2 ⟨rfl, hb2⟩
  have HB2 := Aside0.mk (below_step HB1.out hb2)
  have HL2 := Aside0.mk (Kd.C_below HL1.out hb2)
  clear HB1 HL1 hb2
  go_wp2_with fail
  refine (policy_Action.calls _ _ [⟨1, 2, 3, 2⟩, ⟨1, 0, 2, 5⟩] 1 1 0 10 16 1 0 _ HL2.out (by decide) (by rfl)).mono ?_
  rintro e w3 ⟨rfl, hb3⟩
  have HB3 := Aside0.mk (below_step HB2.out hb3)
  have HL3 := Aside0.mk (Kd.C_below HL2.out hb3)
  clear HB2 HL2 hb3
  go_wp2_with fail
  refine (policy_Action.calls none 0 [] 1 1 0 5 5 1 0 _ (Kd.C_nil _ _) (by decide) (by rfl)).mono ?_
  rintro e w4 ⟨rfl, hb4⟩
  have HB4 := Aside0.mk (below_step HB3.out hb4)
  have HL4 := Aside0.mk (Kd.C_below HL3.out hb4)
  clear HB3 HL3 hb4
  go_wp2_with fail
  refine (policy_Action.calls none 0 [] 0 1 0 5 5 0 1 _ (Kd.C_nil _ _) (by decide) (by rfl)).mono ?_
  rintro e w5 ⟨rfl, hb5⟩
  have HB5 := Aside0.mk (below_step HB4.out hb5)
  have HL5 := Aside0.mk (Kd.C_below HL4.out hb5)
  clear HB4 HL4 hb5
  go_wp2_with fail
  refine (policy_Until.calls 30 _ _ [⟨1, 2, 3, 2⟩, ⟨1, 0, 2, 5⟩] 1 1 0 10 12 0 _ HL5.out (by decide) (by decide +kernel)).mono ?_
  rintro e w6 ⟨rfl, hb6⟩
  have HB6 := Aside0.mk (below_step HB5.out hb6)
  have HL6 := Aside0.mk (Kd.C_below HL5.out hb6)
  clear HB5 HL5 hb6
  go_wp2_with fail
  refine (policy_Until.calls 30 none 0 [] 1 1 0 5 (-1) 0 _ (Kd.C_nil _ _) (by decide) (by decide +kernel)).mono ?_
  rintro e w7 ⟨rfl, hb7⟩
  have HB7 := Aside0.mk (below_step HB6.out hb7)
  have HL7 := Aside0.mk (Kd.C_below HL6.out hb7)
  clear HB6 HL6 hb7
  go_wp2_with fail
  refine (policy_Worse.calls 3 1 2 (-1) 0 _ (by rfl)).mono ?_
  rintro e w8 ⟨rfl, hb8⟩
  have HB8 := Aside0.mk (below_step HB7.out hb8)
  have HL8 := Aside0.mk (Kd.C_below HL7.out hb8)
  clear HB7 HL7 hb8
  go_wp2_with fail
  refine (policy_Worse.calls 1 1 2 1 0 _ (by rfl)).mono ?_
  rintro e w9 ⟨rfl, hb9⟩
  have HB9 := Aside0.mk (below_step HB8.out hb9)
  have HL9 := Aside0.mk (Kd.C_below HL8.out hb9)
  clear HB8 HL8 hb9
  go_wp2_with fail
  refine (policy_Check.calls none 0 [] 0 _ (Kd.C_nil _ _) (by decide) (by rfl)).mono ?_
  rintro e w10 ⟨rfl, hb10⟩
  have HB10 := Aside0.mk (below_step HB9.out hb10)
  have HL10 := Aside0.mk (Kd.C_below HL9.out hb10)
  clear HB9 HL9 hb10
  go_wp2_with fail
  refine (policy_Check.calls _ _ [⟨1, 0, 1, 13⟩] 330 _ (lit1 _ ⟨1, 0, 1, 13⟩) (by decide) (by rfl)).mono ?_
  rintro e w11 ⟨rfl, hb11⟩
  have HB11 := Aside0.mk (below_step (below_alloc HB10.out _) hb11)
  clear HB10 HL10 hb11
  go_wp2_with fail
  go_ret
  exact ⟨rfl, HB11.out⟩
theorem sizarlaw33_sane.calls (r : Bool) (w : World) (h : sizarlaw33_sane.f = some r) : Calls Try.prog 10 #[] w fun e w' => e = .returned (.bool r) ∧ Below w.heap.size w w' := by
  obtain rfl := Option.some.inj h
  exact sizarlaw33_sane.core w
end Go.Proofs.Ytmljglbmokmonaa.Print
