/- Contract, proved by hand, of the function sizarlaw08.sane (the chapter's examples hold): each call returns true. No condition. -/
import Derived.Test.YtmenajpeendnoaaHand
import Derived.Test.YtmenajpeendnoaaPrint4
namespace Go.Proofs.Ytmenajpeendnoaa.Print
open Go.RowKit Go.Proofs.YtmenajpeendnoaaW.PrintWords Go.Proofs.YtmenajpeendnoaaW.PrintLast Go.Proofs.YtmenajpeendnoaaW.PrintMore
set_option linter.unusedVariables false
attribute [local go_sem high] eqA24
def sizarlaw08_sane.f : Option Bool := some true
theorem lit_one (W : World) (x : S24) : Kd.C k24 (W.alloc (.cells #[.int .i64 x.f0, .int .i64 x.f1, .int .i64 x.f2] 24 (0, 0))) (some ⟨W.heap.size, 0, none⟩) 1 [x] := by
  refine ⟨rfl, by decide, fun _ => ⟨_, rfl, fun j p hj => ?_⟩⟩
  have h := blk_new W (.cells #[.int .i64 x.f0, .int .i64 x.f1, .int .i64 x.f2] 24 (0, 0))
  have hj0 : j = 0 := by have := (List.getElem?_eq_some_iff.1 hj).1; simp at this; exact this
  subst hj0
  cases hj
  refine ⟨_, rfl, k24_mk _ _, fun i u hu => ?_⟩
  rw [add_plain, blk_cell h]
  have hi : i < 3 := (List.getElem?_eq_some_iff.1 hu).1
  have : i = 0 ∨ i = 1 ∨ i = 2 := by omega
  rcases this with rfl | rfl | rfl <;> exact hu
theorem lit_two (W : World) (x y : S24) : Kd.C k24 (W.alloc (.cells #[.int .i64 x.f0, .int .i64 x.f1, .int .i64 x.f2, .int .i64 y.f0, .int .i64 y.f1, .int .i64 y.f2] 24 (0, 0))) (some ⟨W.heap.size, 0, none⟩) 2 [x, y] := by
  refine ⟨rfl, by decide, fun _ => ⟨_, rfl, fun j p hj => ?_⟩⟩
  have h := blk_new W (.cells #[.int .i64 x.f0, .int .i64 x.f1, .int .i64 x.f2, .int .i64 y.f0, .int .i64 y.f1, .int .i64 y.f2] 24 (0, 0))
  have hj0 : j = 0 ∨ j = 1 := by have := (List.getElem?_eq_some_iff.1 hj).1; simp at this; omega
  rcases hj0 with rfl | rfl
  · cases hj
    refine ⟨_, rfl, k24_mk _ _, fun i u hu => ?_⟩
    rw [add_plain, blk_cell h]
    have hi : i < 3 := (List.getElem?_eq_some_iff.1 hu).1
    have : i = 0 ∨ i = 1 ∨ i = 2 := by omega
    rcases this with rfl | rfl | rfl <;> exact hu
  · cases hj
    refine ⟨_, rfl, k24_mk _ _, fun i u hu => ?_⟩
    rw [add_plain, blk_cell h]
    have hi : i < 3 := (List.getElem?_eq_some_iff.1 hu).1
    have : i = 0 ∨ i = 1 ∨ i = 2 := by omega
    rcases this with rfl | rfl | rfl <;> exact hu
def stA : S24 := ⟨3, 0, 9⟩
def stB : S24 := ⟨3, 1, 1⟩
theorem valid_le (l : List S24) {k k' : Nat} {r : Bool} (h : k ≤ k') (hr : stamps_valid.f k l = some r) : stamps_valid.f k' l = some r := by
  induction h with
  | refl => exact hr
  | step _ ih => exact stamps_valid.mono _ _ _ ih
theorem merge_sane : stamps_Merge.f [stB] [stA, stB] = some ([stA, stB], 0) := by
  have h1 : stamps_valid.f 5000 [stB] = some true := valid_le _ (k := 30) (by omega) (by decide +kernel)
  have h2 : stamps_valid.f 5000 [stA, stB] = some true := valid_le _ (k := 30) (by omega) (by decide +kernel)
  unfold stamps_Merge.f
  rw [if_pos (by simp), h1, h2]
  simp [mergeL, cmpS, cmpI, stA, stB]
structure SaneInv (w : World) (F T : Nat) (A : Option Addr) (W : World) : Prop where
  low : Below w.heap.size w W
  a : W.heap[w.heap.size]? = some (.cells #[.int .i64 3, .int .i64 0, .int .i64 9] 24 (0, 0))
  c : W.heap[w.heap.size + 1]? = some (.cells #[.int .i64 3, .int .i64 1, .int .i64 1] 24 (0, 0))
  f : W.heap[F]? = some (.cells #[.int .i64 1, .int .i64 2, .int .i64 1] 24 (0, 0))
  m : Kd.C k24 W A 2 [stA, stB]
  t : W.heap[T]? = some (.cells #[.int .i64 0, .int .i64 0, .int .i64 1, .int .i64 1, .int .i64 7, .int .i64 1, .int .i64 1, .int .i64 0, .int .i64 0] 24 (0, 0))
theorem SaneInv.step {w : World} {F T : Nat} {A : Option Addr} {W W' : World} (h : SaneInv w F T A W) (hb : Below W.heap.size W W') : SaneInv w F T A W' :=
  ⟨below_step h.low hb, blk_below h.a hb, blk_below h.c hb, blk_below h.f hb, Kd.C_below h.m hb, blk_below h.t hb⟩
theorem cells9 {w : World} {s : Nat} {a b c d e f g h i : Value} {t : TypeId} (hh : w.heap[s]? = some (.cells #[a, b, c, d, e, f, g, h, i] t (0, 0))) :
    w.cell? ⟨s, 0, none⟩ = some a ∧ w.cell? ⟨s, 1, none⟩ = some b ∧ w.cell? ⟨s, 2, none⟩ = some c ∧ w.cell? ⟨s, 3, none⟩ = some d ∧ w.cell? ⟨s, 4, none⟩ = some e ∧ w.cell? ⟨s, 5, none⟩ = some f ∧ w.cell? ⟨s, 6, none⟩ = some g ∧ w.cell? ⟨s, 7, none⟩ = some h ∧ w.cell? ⟨s, 8, none⟩ = some i := by
  refine ⟨?_, ?_, ?_, ?_, ?_, ?_, ?_, ?_, ?_⟩ <;> (rw [blk_cell hh]; rfl)
set_option maxHeartbeats 2000000 in
theorem sizarlaw08_sane.core (w : World) : Calls Try.prog 10 #[] w fun e w' => e = .returned (.bool true) ∧ Below w.heap.size w w' := by
  have hu22 := Try.underlying22
  have hu24 := Try.underlying24
  go_enter Try.func10, Try.ntmps10
  go_wp2_with fail
  refine (stamps_Known.calls 30 3 1 5 25 0 _ (by decide +kernel)).mono ?_
  rintro e w1 ⟨rfl, hb1⟩
  have HB1 := Aside0.mk (below_step (below_alloc (below_one (w := w) (.cells #[.int .i64 3, .int .i64 0, .int .i64 9] 24)) (.cells #[.int .i64 3, .int .i64 1, .int .i64 1] 24)) hb1)
  have HA1 := Aside0.mk (blk_below (blk_alloc (blk_new w (.cells #[.int .i64 3, .int .i64 0, .int .i64 9] 24)) (.cells #[.int .i64 3, .int .i64 1, .int .i64 1] 24)) hb1)
  have hbb := blk_new (w.alloc (.cells #[.int .i64 3, .int .i64 0, .int .i64 9] 24)) (.cells #[.int .i64 3, .int .i64 1, .int .i64 1] 24)
  rw [World.size_alloc] at hbb
  have HC1 := Aside0.mk (blk_below hbb hb1)
  clear hb1 hbb
  go_wp2_with fail
  refine (stamps_Of.calls 30 31 0 0 80 _ (by decide +kernel)).mono ?_
  rintro e w2 ⟨rfl, hb2⟩
  have HB2 := Aside0.mk (below_step HB1.out hb2)
  have HA2 := Aside0.mk (blk_below HA1.out hb2)
  have HC2 := Aside0.mk (blk_below HC1.out hb2)
  clear hb2 HB1 HA1 HC1
  go_wp2_with fail
  refine (stamps_Next.calls 30 0 2 0 0 1 2 1 0 _ (by decide +kernel)).mono ?_
  rintro e w3 ⟨rfl, hb3⟩
  have HB3 := Aside0.mk (below_step HB2.out hb3)
  have HA3 := Aside0.mk (blk_below HA2.out hb3)
  have HC3 := Aside0.mk (blk_below HC2.out hb3)
  clear hb3 HB2 HA2 HC2
  go_wp2_with fail
  refine (stamps_Next.calls 30 1048576 0 3 0 0 0 0 2 _ (by decide +kernel)).mono ?_
  rintro e w4 ⟨rfl, hb4⟩
  have HB4 := Aside0.mk (below_step (below_alloc HB3.out (.cells #[.int .i64 1, .int .i64 2, .int .i64 1] 24)) hb4)
  have HA4 := Aside0.mk (blk_below (blk_alloc HA3.out (.cells #[.int .i64 1, .int .i64 2, .int .i64 1] 24)) hb4)
  have HC4 := Aside0.mk (blk_below (blk_alloc HC3.out (.cells #[.int .i64 1, .int .i64 2, .int .i64 1] 24)) hb4)
  have HF4 := Aside0.mk (blk_below (blk_new w3 (.cells #[.int .i64 1, .int .i64 2, .int .i64 1] 24)) hb4)
  clear hb4 HB3 HA3 HC3
  generalize w3.heap.size = F at HF4 ⊢
  go_wp2_with fail
  refine (stamps_Of.calls 30 25 3 1 0 _ (by decide +kernel)).mono ?_
  rintro e w5 ⟨rfl, hb5⟩
  have HB5 := Aside0.mk (below_step (below_alloc HB4.out (.cells #[.int .i64 0, .int .i64 0, .int .i64 0] 24)) hb5)
  have HA5 := Aside0.mk (blk_below (blk_alloc HA4.out (.cells #[.int .i64 0, .int .i64 0, .int .i64 0] 24)) hb5)
  have HC5 := Aside0.mk (blk_below (blk_alloc HC4.out (.cells #[.int .i64 0, .int .i64 0, .int .i64 0] 24)) hb5)
  have HF5 := Aside0.mk (blk_below (blk_alloc HF4.out (.cells #[.int .i64 0, .int .i64 0, .int .i64 0] 24)) hb5)
  clear hb5 HB4 HA4 HC4 HF4
  obtain ⟨hca0, hca1, hca2⟩ := cells3 HA5.out
  obtain ⟨hcb0, hcb1, hcb2⟩ := cells3 HC5.out
  obtain ⟨hda0, hda1, hda2⟩ := cells3 (blk_alloc HA5.out (.cells #[.int .i64 3, .int .i64 1, .int .i64 1] 24))
  obtain ⟨hdb0, hdb1, hdb2⟩ := cells3 (blk_alloc HC5.out (.cells #[.int .i64 3, .int .i64 1, .int .i64 1] 24))
  have hL1 : Kd.C k24 (w5.alloc (.cells #[.int .i64 3, .int .i64 1, .int .i64 1] 24)) (some ⟨w5.heap.size, 0, none⟩) 1 [stB] := lit_one w5 stB
  have hL1 := Kd.C_below hL1 (below_one (.cells #[.int .i64 3, .int .i64 0, .int .i64 9, .int .i64 3, .int .i64 1, .int .i64 1] 24))
  have hL2 : Kd.C k24 ((w5.alloc (.cells #[.int .i64 3, .int .i64 1, .int .i64 1] 24)).alloc (.cells #[.int .i64 3, .int .i64 0, .int .i64 9, .int .i64 3, .int .i64 1, .int .i64 1] 24)) (some ⟨w5.heap.size + 1, 0, none⟩) 2 [stA, stB] := by
    have := lit_two (w5.alloc (.cells #[.int .i64 3, .int .i64 1, .int .i64 1] 24)) stA stB
    rw [World.size_alloc] at this
    exact this
  go_wp2_with fail
  refine (stamps_Merge.calls _ _ [stB] _ _ [stA, stB] [stA, stB] 0 _ hL1 (Nat.le_refl 1) hL2 (Nat.le_refl 2) merge_sane).mono ?_
  rintro e w6 ⟨v, rfl, hR6, hb6⟩
  have HB6 := Aside0.mk (below_step (below_alloc (below_alloc HB5.out (.cells #[.int .i64 3, .int .i64 1, .int .i64 1] 24)) (.cells #[.int .i64 3, .int .i64 0, .int .i64 9, .int .i64 3, .int .i64 1, .int .i64 1] 24)) hb6)
  have HA6 := Aside0.mk (blk_below (blk_alloc (blk_alloc HA5.out (.cells #[.int .i64 3, .int .i64 1, .int .i64 1] 24)) (.cells #[.int .i64 3, .int .i64 0, .int .i64 9, .int .i64 3, .int .i64 1, .int .i64 1] 24)) hb6)
  have HC6 := Aside0.mk (blk_below (blk_alloc (blk_alloc HC5.out (.cells #[.int .i64 3, .int .i64 1, .int .i64 1] 24)) (.cells #[.int .i64 3, .int .i64 0, .int .i64 9, .int .i64 3, .int .i64 1, .int .i64 1] 24)) hb6)
  have HF6 := Aside0.mk (blk_below (blk_alloc (blk_alloc HF5.out (.cells #[.int .i64 3, .int .i64 1, .int .i64 1] 24)) (.cells #[.int .i64 3, .int .i64 0, .int .i64 9, .int .i64 3, .int .i64 1, .int .i64 1] 24)) hb6)
  have HR6 := Aside0.mk hR6
  clear hb6 HB5 HA5 HC5 HF5 hL1 hL2 hda0 hda1 hda2 hdb0 hdb1 hdb2 hca0 hca1 hca2 hcb0 hcb1 hcb2 hR6
  obtain ⟨A6, n6, rfl⟩ := Kd.R_slice HR6.out
  go_wp2_with fail
  have HI := Aside0.mk (SaneInv.mk (w := w) (F := F) (T := w6.heap.size) (A := A6) (below_alloc HB6.out _) (blk_alloc HA6.out _) (blk_alloc HC6.out _) (blk_alloc HF6.out _) (Kd.C_below (Kd.R_reads' HR6.out).2.2 (below_one _)) (blk_new w6 (.cells #[.int .i64 0, .int .i64 0, .int .i64 1, .int .i64 1, .int .i64 7, .int .i64 1, .int .i64 1, .int .i64 0, .int .i64 0] 24)))
  have HN6 := Aside0.mk (Kd.R_reads' HR6.out).2.1
  clear HB6 HA6 HC6 HF6 HR6
  go_loopw [60] (fun p wr => ∃ i : Nat, p = .int .i64 i ∧ i ≤ 3 ∧ Aside0 (SaneInv w F w6.heap.size A6 wr)) (fun p wr => match p with | .int .i64 i => (3 - i).toNat | _ => 0)
  case atStart => exact ⟨0, rfl, by decide, HI⟩
  case round =>
    clear HI
    obtain ⟨i, rfl, hi, HI⟩ := hrel
    obtain ⟨ht0, ht1, ht2, ht3, ht4, ht5, ht6, ht7, ht8⟩ := cells9 HI.out.t
    have hi4 : i = 0 ∨ i = 1 ∨ i = 2 ∨ i = 3 := by omega
    rcases hi4 with rfl | rfl | rfl | rfl
    · go_wp2_with fail
      refine (stamps_Check.calls 30 0 0 1 80 _ (by decide +kernel)).mono ?_
      rintro e w7 ⟨rfl, hb7⟩
      have HJ := Aside0.mk ((HI.out.step (below_one (.cells #[.int .i64 0, .int .i64 0, .int .i64 1] 24))).step hb7)
      clear HI hb7 ht0 ht1 ht2 ht3 ht4 ht5 ht6 ht7 ht8
      go_wp2
      go_roundw
      case rel => exact ⟨1, rfl, by decide, HJ⟩
      case measure => simp
    · go_wp2_with fail
      refine (stamps_Check.calls 30 1 7 1 80 _ (by decide +kernel)).mono ?_
      rintro e w7 ⟨rfl, hb7⟩
      have HJ := Aside0.mk ((HI.out.step (below_one (.cells #[.int .i64 1, .int .i64 7, .int .i64 1] 24))).step hb7)
      clear HI hb7 ht0 ht1 ht2 ht3 ht4 ht5 ht6 ht7 ht8
      go_wp2
      go_roundw
      case rel => exact ⟨2, rfl, by decide, HJ⟩
      case measure => simp
    · go_wp2_with fail
      refine (stamps_Check.calls 30 1 0 0 80 _ (by decide +kernel)).mono ?_
      rintro e w7 ⟨rfl, hb7⟩
      have HJ := Aside0.mk ((HI.out.step (below_one (.cells #[.int .i64 1, .int .i64 0, .int .i64 0] 24))).step hb7)
      clear HI hb7 ht0 ht1 ht2 ht3 ht4 ht5 ht6 ht7 ht8
      go_wp2
      go_roundw
      case rel => exact ⟨3, rfl, by decide, HJ⟩
      case measure => simp
    · clear ht0 ht1 ht2 ht3 ht4 ht5 ht6 ht7 ht8
      obtain ⟨hca0, hca1, hca2⟩ := cells3 HI.out.a
      obtain ⟨hcb0, hcb1, hcb2⟩ := cells3 HI.out.c
      obtain ⟨hcf0, hcf1, hcf2⟩ := cells3 HI.out.f
      go_wp2_with fail
      refine (stamps_Compare.calls 30 3 0 9 3 1 1 (-1) _ (by decide +kernel)).mono ?_
      rintro e w7 ⟨rfl, hb7⟩
      have HJ := Aside0.mk (HI.out.step hb7)
      clear HI hb7 hca0 hca1 hca2 hcb0 hcb1 hcb2 hcf0 hcf1 hcf2
      obtain ⟨hca0, hca1, hca2⟩ := cells3 HJ.out.a
      obtain ⟨hcb0, hcb1, hcb2⟩ := cells3 HJ.out.c
      obtain ⟨hcf0, hcf1, hcf2⟩ := cells3 HJ.out.f
      go_wp2_with fail
      have hL2 : Kd.C k24 (w7.alloc (.cells #[.int .i64 3, .int .i64 0, .int .i64 9, .int .i64 3, .int .i64 1, .int .i64 1] 24)) (some ⟨w7.heap.size, 0, none⟩) 2 [stA, stB] := lit_two w7 stA stB
      refine (sizarref08_Same.calls 30 _ _ [stA, stB] _ _ [stA, stB] true _ (Kd.C_below HJ.out.m (below_one (.cells #[.int .i64 3, .int .i64 0, .int .i64 9, .int .i64 3, .int .i64 1, .int .i64 1] 24))) HN6.out hL2 (Nat.le_refl 2) (by decide +kernel)).mono ?_
      rintro e w8 ⟨rfl, hb8⟩
      have HK := Aside0.mk ((HJ.out.step (below_one (.cells #[.int .i64 3, .int .i64 0, .int .i64 9, .int .i64 3, .int .i64 1, .int .i64 1] 24))).step hb8.below)
      clear HJ hb8 hL2 hca0 hca1 hca2 hcb0 hcb1 hcb2 hcf0 hcf1 hcf2
      obtain ⟨hca0, hca1, hca2⟩ := cells3 HK.out.a
      go_wp2_with fail
      refine (stamps_Check.calls 30 3 0 9 0 _ (by decide +kernel)).mono ?_
      rintro e w9 ⟨rfl, hb9⟩
      have HL := Aside0.mk (HK.out.step hb9)
      clear HK hb9 hca0 hca1 hca2
      go_wp2_with fail
      go_ret
      exact ⟨rfl, HL.out.low⟩
theorem sizarlaw08_sane.calls (r : Bool) (w : World) (h : sizarlaw08_sane.f = some r) : Calls Try.prog 10 #[] w fun e w' => e = .returned (.bool r) ∧ Below w.heap.size w w' := by
  obtain rfl := Option.some.inj h
  exact sizarlaw08_sane.core w
end Go.Proofs.Ytmenajpeendnoaa.Print
