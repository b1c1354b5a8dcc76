import Derived.Test.YtmenajpeendnoaaHandA
import Derived.RangeFuncIn
import Derived.RangeFuncSeq
import Derived.RangeFuncBox
import Derived.OwnWalkIn
import Derived.TacticsInMore
import Derived.LoopIn
import Derived.Deep.QuietTactic
import Derived.BigQuiet
import Derived.RegionTactic
import Derived.Deep.RegionHeld3
import Derived.Deep.DeepCutAuto
import Derived.Deep.CutBlock
namespace Go.Proofs.Ytmenajpeendnoaa.Print
open Go.RowKit Go.Proofs.YtmenajpeendnoaaW.PrintWords Go.Proofs.YtmenajpeendnoaaW.PrintLast Go.Proofs.YtmenajpeendnoaaW.PrintMore
set_option linter.unusedVariables false
def boxLen (W : World) (B : Nat) : Nat := match W.cell? ⟨B, 0, none⟩ with | some (.slice _ n _) => n | _ => 0
/-- What a round that goes on keeps: what lay below n, and the iterator's two boxes. -/
structure Keeps (n Ba Bb : Nat) (W W' : World) : Prop where
  low : Below n W W'
  boxA : W'.heap[Ba]? = W.heap[Ba]?
  boxB : W'.heap[Bb]? = W.heap[Bb]?
/-- The caller's invariant abides new blocks and what the iterator stores into its two boxes, or into what it made itself. -/
def AbidesBoxes (Ba Bb : Nat) (J : List S24 → World → Prop) : Prop := ∀ s W W' row, J s W → W.grownBy W' row → (∀ r, row = some r → r = Ba ∨ r = Bb) → J s W'
/-- Between two rounds. -/
structure Mid (w0 : World) (Ba Bb : Nat) (J : List S24 → World → Prop) (all : List S24) (W : World) (pre xs ys : List S24) (va vb : Value) : Prop where
  low : Below w0.heap.size w0 W
  boxA : Boxed W Ba 22 va
  boxB : Boxed W Bb 22 vb
  slA : Sl w0 va xs
  slB : Sl w0 vb ys
  inv : J pre W
  rest : pre ++ mergeL xs ys = all
theorem ga_refl (a : World) (row : Option Nat) : a.grownBy a row := ⟨rfl, rfl, rfl, Nat.le_refl _, fun _ _ _ => rfl⟩
theorem ga_alloc {a w : World} {row : Option Nat} (h : a.grownBy w row) (o : Obj) : a.grownBy (w.alloc o) row :=
  ⟨h.os, h.tape, h.output, Nat.le_trans h.size (by simp), fun i hi hne => (Below.heap_alloc w o i (Nat.lt_of_lt_of_le hi h.size)).trans (h.block i hi hne)⟩
theorem ga_drewN {a w : World} {row : Option Nat} (h : a.grownBy w row) (n : Nat) : a.grownBy (w.drewN n) row := ⟨h.os, h.tape, h.output, h.size, h.block⟩
theorem ga_set {a w : World} {row : Option Nat} (h : a.grownBy w row) {p : Addr} (hp : row = some p.block ∨ a.heap.size ≤ p.block) (u : Value) : a.grownBy (w.setCell p u) row :=
  ⟨h.os, h.tape, h.output, by simpa [World.setCell] using h.size, fun i hi hne => (Below.heap_setCell w p u i (by
    rintro rfl
    rcases hp with hp | hp
    · exact hne hp.symm
    · omega)).trans (h.block i hi hne)⟩
/-- The iterator has made its variable s, and has read and compared. -/
structure Ready (w0 wr : World) (Ba Bb : Nat) (W : World) (va vb : Value) : Prop where
  low : Below w0.heap.size w0 W
  grown : ∀ row, wr.grownBy W row
  boxA : Boxed W Ba 22 va
  boxB : Boxed W Bb 22 vb
  blk : W.heap[wr.heap.size]? = some (.cells #[.int .i64 0, .int .i64 0, .int .i64 0] 24 (0, 0))
theorem Ready.drewN {w0 wr : World} {Ba Bb : Nat} {W : World} {va vb : Value} (h : Ready w0 wr Ba Bb W va vb) (n : Nat) : Ready w0 wr Ba Bb (W.drewN n) va vb :=
  ⟨pw_below_drewN h.low n, fun row => ga_drewN (h.grown row) n, h.boxA, h.boxB, h.blk⟩
theorem Ready.below {w0 wr : World} {Ba Bb : Nat} {W W' : World} {va vb : Value} (h : Ready w0 wr Ba Bb W va vb) (hb : Below W.heap.size W W') : Ready w0 wr Ba Bb W' va vb :=
  ⟨below_step h.low hb, fun row => ⟨hb.os.trans (h.grown row).os, hb.tape.trans (h.grown row).tape, hb.output.trans (h.grown row).output, Nat.le_trans (h.grown row).size hb.size, fun i hi hn => (hb.block i (Nat.lt_of_lt_of_le hi (h.grown row).size)).trans ((h.grown row).block i hi hn)⟩,
    blk_below h.boxA hb, blk_below h.boxB hb, blk_below h.blk hb⟩
/-- .. and has stored the three numbers of a stamp into s. -/
def sW (W : World) (s : Nat) (x : S24) : World := ((W.setCell ⟨s, 0, none⟩ (.int .i64 x.f0)).setCell ⟨s, 1, none⟩ (.int .i64 x.f1)).setCell ⟨s, 2, none⟩ (.int .i64 x.f2)
/-- What has come of a step: the world in which the round begins. -/
structure Step (w0 : World) (Ba Bb s : Nat) (J : List S24 → World → Prop) (W : World) (pre : List S24) (x : S24) (va vb : Value) : Prop where
  low : Below w0.heap.size w0 W
  boxA : Boxed W Ba 22 va
  boxB : Boxed W Bb 22 vb
  inv : J pre W
  blk : W.heap[s]? = some (.cells #[.int .i64 x.f0, .int .i64 x.f1, .int .i64 x.f2] 24 (0, 0))
theorem Mid.ready {w0 : World} {Ba Bb : Nat} {J : List S24 → World → Prop} {all pre xs ys : List S24} {wr : World} {va vb : Value} (h : Mid w0 Ba Bb J all wr pre xs ys va vb) :
    Ready w0 wr Ba Bb (wr.alloc (.cells #[.int .i64 0, .int .i64 0, .int .i64 0] 24)) va vb :=
  ⟨below_alloc h.low _, fun row => ga_alloc (ga_refl wr row) _, h.boxA.alloc _, h.boxB.alloc _, blk_new wr _⟩
theorem Ready.step {w0 : World} {Ba Bb : Nat} {J : List S24 → World → Prop} {all pre xs ys : List S24} {wr W : World} {va vb : Value} (hm : Mid w0 Ba Bb J all wr pre xs ys va vb) (h : Ready w0 wr Ba Bb W va vb) (hJ : AbidesBoxes Ba Bb J) (x : S24) :
    Step w0 Ba Bb wr.heap.size J (sW W wr.heap.size x) pre x va vb := by
  have hg : wr.grownBy (sW W wr.heap.size x) none := ga_set (ga_set (ga_set (h.grown none) (.inr (Nat.le_refl _)) _) (.inr (Nat.le_refl _)) _) (.inr (Nat.le_refl _)) _
  refine ⟨hm.low.grown hg hm.low.size (fun k e => by cases e), hm.boxA.kept hg (by simp), hm.boxB.kept hg (by simp), hJ _ _ _ none hm.inv hg (fun r e => by cases e), ?_⟩
  unfold sW
  refine blk_put (cs := #[.int .i64 x.f0, .int .i64 x.f1, .int .i64 0]) ?_ 2 _ rfl
  refine blk_put (cs := #[.int .i64 x.f0, .int .i64 0, .int .i64 0]) ?_ 1 _ rfl
  refine blk_put (cs := #[.int .i64 0, .int .i64 0, .int .i64 0]) ?_ 0 _ rfl
  exact h.blk
theorem Ready.farA {w0 wr : World} {Ba Bb : Nat} {W : World} {va vb : Value} (h : Ready w0 wr Ba Bb W va vb) (hlt : Ba < wr.heap.size) (v : Value) : (W.setCell ⟨wr.heap.size, 0, none⟩ v).cell? ⟨Ba, 0, none⟩ = some va :=
  (World.cell?_of_block (Below.heap_setCell _ _ _ Ba (by simp; omega))).trans h.boxA.cell
theorem Ready.farB {w0 wr : World} {Ba Bb : Nat} {W : World} {va vb : Value} (h : Ready w0 wr Ba Bb W va vb) (hlt : Bb < wr.heap.size) (v : Value) : (W.setCell ⟨wr.heap.size, 0, none⟩ v).cell? ⟨Bb, 0, none⟩ = some vb :=
  (World.cell?_of_block (Below.heap_setCell _ _ _ Bb (by simp; omega))).trans h.boxB.cell
theorem Step.setA {w0 : World} {Ba Bb s : Nat} {J : List S24 → World → Prop} {pre : List S24} {W : World} {x : S24} {va vb : Value} (h : Step w0 Ba Bb s J W pre x va vb) (hJ : AbidesBoxes Ba Bb J) (hne : Ba ≠ Bb) (hs : s ≠ Ba) (hBa : w0.heap.size ≤ Ba) (v : Value) :
    Step w0 Ba Bb s J (W.setCell ⟨Ba, 0, none⟩ v) pre x v vb := by
  have hg : W.grownBy (W.setCell ⟨Ba, 0, none⟩ v) (some Ba) := ga_set (ga_refl W _) (.inl rfl) v
  exact ⟨h.low.grown hg h.low.size (fun k e => by cases e; exact hBa), h.boxA.set v, h.boxB.kept hg (by simp; exact fun e => hne e.symm), hJ _ _ _ _ h.inv hg (fun r e => by cases e; exact .inl rfl), blk_grown h.blk hg (by simp; exact hs)⟩
theorem Step.setB {w0 : World} {Ba Bb s : Nat} {J : List S24 → World → Prop} {pre : List S24} {W : World} {x : S24} {va vb : Value} (h : Step w0 Ba Bb s J W pre x va vb) (hJ : AbidesBoxes Ba Bb J) (hne : Ba ≠ Bb) (hs : s ≠ Bb) (hBb : w0.heap.size ≤ Bb) (v : Value) :
    Step w0 Ba Bb s J (W.setCell ⟨Bb, 0, none⟩ v) pre x va v := by
  have hg : W.grownBy (W.setCell ⟨Bb, 0, none⟩ v) (some Bb) := ga_set (ga_refl W _) (.inl rfl) v
  exact ⟨h.low.grown hg h.low.size (fun k e => by cases e; exact hBb), h.boxA.kept hg (by simp; exact hne), h.boxB.set v, hJ _ _ _ _ h.inv hg (fun r e => by cases e; exact .inr rfl), blk_grown h.blk hg (by simp; exact hs)⟩
theorem Step.drew {w0 : World} {Ba Bb s : Nat} {J : List S24 → World → Prop} {pre : List S24} {W : World} {x : S24} {va vb : Value} (h : Step w0 Ba Bb s J W pre x va vb) (hJ : AbidesBoxes Ba Bb J) : Step w0 Ba Bb s J W.drew pre x va vb :=
  ⟨h.low.drew, h.boxA, h.boxB, hJ _ _ _ none h.inv (ga_drewN (ga_refl W none) 1) (fun r e => by cases e), h.blk⟩
theorem Mid.next {w0 : World} {Ba Bb s : Nat} {J : List S24 → World → Prop} {all pre xs ys : List S24} {W W' : World} {x : S24} {va vb : Value} (h : Step w0 Ba Bb s J W pre x va vb) (hk : Keeps w0.heap.size Ba Bb W W') (hJ : J (pre ++ [x]) W') (sa : Sl w0 va xs) (sb : Sl w0 vb ys) (ha : (pre ++ [x]) ++ mergeL xs ys = all) :
    Mid w0 Ba Bb J all W' (pre ++ [x]) xs ys va vb := ⟨h.low.trans hk.low, hk.boxA.trans h.boxA, hk.boxB.trans h.boxB, sa, sb, hJ, ha⟩
theorem compare_keeps (x y : S24) (w : World) :
    Calls Try.prog 14 #[.agg #[.int .i64 x.f0, .int .i64 x.f1, .int .i64 x.f2], .agg #[.int .i64 y.f0, .int .i64 y.f1, .int .i64 y.f2]] w fun e w' => e = .returned (.int .i64 (cmpS x y)) ∧ Below w.heap.size w w' ∧ ∀ p v, w.cell? p = some v → w'.cell? p = some v :=
  (compare_any x y w).mono fun _ _ ⟨he, hb⟩ => ⟨he, hb, fun _ _ h => pw_cell_below hb h⟩
theorem Ready.farC {w0 wr : World} {Ba Bb : Nat} {W : World} {va vb : Value} (h : Ready w0 wr Ba Bb W va vb) (hlt : Bb < wr.heap.size) (hne : Ba ≠ Bb) (x : S24) (u : Value) :
    ((((W.setCell ⟨wr.heap.size, 0, none⟩ (.int .i64 x.f0)).setCell ⟨wr.heap.size, 1, none⟩ (.int .i64 x.f1)).setCell ⟨wr.heap.size, 2, none⟩ (.int .i64 x.f2)).setCell ⟨Ba, 0, none⟩ u).cell? ⟨Bb, 0, none⟩ = some vb := by
  refine (World.cell?_of_block (Below.heap_setCell _ _ _ Bb (fun e => hne e.symm))).trans ?_
  refine (World.cell?_of_block (Below.heap_setCell _ _ _ Bb (by simp; omega))).trans ?_
  refine (World.cell?_of_block (Below.heap_setCell _ _ _ Bb (by simp; omega))).trans ?_
  exact h.farB hlt _
theorem mergeL_nil (xs : List S24) : mergeL xs [] = xs := by cases xs <;> simp [mergeL]
theorem rest_1 {pre : List S24} {x : S24} {xs all : List S24} (h : pre ++ mergeL (x :: xs) [] = all) : (pre ++ [x]) ++ mergeL xs [] = all := by
  rw [← h, mergeL, mergeL_nil]; simp
theorem rest_3 {pre : List S24} {y : S24} {ys all : List S24} (h : pre ++ mergeL [] (y :: ys) = all) : (pre ++ [y]) ++ mergeL [] ys = all := by
  rw [← h, mergeL, mergeL]; simp
theorem rest_2 {pre : List S24} {x y : S24} {xs ys all : List S24} (hlt : cmpS x y < 0) (h : pre ++ mergeL (x :: xs) (y :: ys) = all) : (pre ++ [x]) ++ mergeL xs (y :: ys) = all := by
  rw [mergeL, if_pos hlt] at h
  rw [← h]; simp
theorem rest_4 {pre : List S24} {x y : S24} {xs ys all : List S24} (hlt : ¬ cmpS x y < 0) (hgt : 0 < cmpS x y) (h : pre ++ mergeL (x :: xs) (y :: ys) = all) : (pre ++ [y]) ++ mergeL (x :: xs) ys = all := by
  rw [mergeL, if_neg hlt, if_pos hgt] at h
  rw [← h]; simp
theorem rest_5 {pre : List S24} {x y : S24} {xs ys all : List S24} (hlt : ¬ cmpS x y < 0) (hgt : ¬ 0 < cmpS x y) (h : pre ++ mergeL (x :: xs) (y :: ys) = all) : (pre ++ [x]) ++ mergeL xs ys = all := by
  rw [mergeL, if_neg hlt, if_neg hgt] at h
  rw [← h]; simp
theorem len_lt {pre t all : List S24} {x : S24} (h : (pre ++ [x]) ++ t = all) : pre.length < all.length := by
  rw [← h]
  simp only [List.length_append, List.length_singleton]
  omega
theorem boxLen_of {W : World} {B : Nat} {A : Option Addr} {n c : Nat} (h : Boxed W B 22 (.slice A n c)) : boxLen W B = n := by unfold boxLen; rw [h.cell]
set_option maxHeartbeats 1000000 in
theorem both1_gives (m l Ba Bb : Nat) (J : List S24 → World → Prop) (w0 : World) (all : List S24) (W : World) (xs0 ys0 : List S24) (va0 vb0 : Value) (hne : Ba ≠ Bb) (hBa : w0.heap.size ≤ Ba) (hBb : w0.heap.size ≤ Bb)
    (hJ : AbidesBoxes Ba Bb J) (h0 : Mid w0 Ba Bb J all W [] xs0 ys0 va0 vb0)
    (hY : ∀ pre (x : S24) W1, J pre W1 → pre.length < all.length → YieldAt Fence.wide m Try.prog l #[.agg #[.int .i64 x.f0, .int .i64 x.f1, .int .i64 x.f2]] W1 fun e W' => e = .returned (.bool true) ∧ J (pre ++ [x]) W' ∧ Keeps w0.heap.size Ba Bb W1 W') :
    CallsIn Fence.wide (m + 1) Try.prog 33 #[.func (.yield l) #[] #[], .pointer (some ⟨Ba, 0, none⟩), .pointer (some ⟨Bb, 0, none⟩)] W fun e W' => (∃ v, e = .returned v) ∧ J all W' := by
  have hu22 := Try.underlying22
  have hu24 := Try.underlying24
  have H0 := Aside0.mk h0
  have HY := Aside0.mk hY
  have HJ := Aside0.mk hJ
  clear h0 hY hJ
  refine callsIn_of_wp Try.func33 rfl trivial ?_ rfl
  refine wpIn_wide.2 ?_
  simp only [Try.ntmps33, List.size_toArray, List.length_cons, List.length_nil, Nat.reduceAdd, Nat.reduceSub, Array.replicate_succ, Array.replicate_zero, List.push_toArray, List.append_toArray, List.nil_append, List.cons_append]
  go_wp2
  go_loopw [] (fun wr => ∃ pre xs ys va vb, Aside0 (Mid w0 Ba Bb J all wr pre xs ys va vb)) (fun wr => boxLen wr Ba + boxLen wr Bb)
  case atStart => exact ⟨[], xs0, ys0, va0, vb0, H0⟩
  case round =>
    clear H0
    obtain ⟨pre, xs, ys, va, vb, HM⟩ := hrel
    have HL := Aside0.mk (And.intro HM.out.boxA.lt HM.out.boxB.lt)
    have HW := Aside0.mk HM.out.low
    have cA := HM.out.boxA.cell
    have cB := HM.out.boxB.cell
    have R0 := Aside0.mk HM.out.ready
    have cA0 := R0.out.boxA.cell
    have cB0 := R0.out.boxB.cell
    cases xs with
    | nil =>
      cases ys with
      | nil =>
        obtain ⟨Aa, ca, rfl⟩ := HM.out.slA.nil
        obtain ⟨Ab, cb, rfl⟩ := HM.out.slB.nil
        have hend : J all wr := by
          have := HM.out.rest
          simp only [mergeL, List.append_nil] at this
          rw [← this]
          exact HM.out.inv
        have HE := Aside0.mk hend
        clear hend R0 cA0 cB0
        go_wp2
        go_end0
        exact ⟨⟨_, rfl⟩, HE.out⟩
      | cons y ys =>
        have HS := Aside0.mk HM.out.slA
        obtain ⟨Aa, ca, rfl⟩ := HM.out.slA.nil
        obtain ⟨bd, d, B', rfl, hd, hdmax, k0, k1, k2, hcutB, hslB⟩ := HM.out.slB.head
        have HSB := Aside0.mk hslB
        clear hslB
        have ly0 : ((ys.length : Int) + 1 == 0) = false := by simp; omega
        have ly1 : decide ((0 : Int) < (ys.length : Int) + 1) = true := decide_eq_true (by omega)
        go_wp2
        go_quiet (fail)
        have R1 := Aside0.mk (R0.out.drewN nq)
        generalize (wr.alloc (.cells #[.int .i64 0, .int .i64 0, .int .i64 0] 24)).drewN nq = W1 at R1 ⊢
        have cAa := R1.out.boxA.cell
        have cBa := R1.out.boxB.cell
        have fAa := R1.out.boxA.frozen
        have fBa := R1.out.boxB.frozen
        have z0a : W1.cell? ⟨wr.heap.size, 0, none⟩ = some (.int .i64 0) := (blk_cell R1.out.blk 0).trans rfl
        have y0a := blk_frozen R1.out.blk 0
        have z1a : W1.cell? ⟨wr.heap.size, 1, none⟩ = some (.int .i64 0) := (blk_cell R1.out.blk 1).trans rfl
        have y1a := blk_frozen R1.out.blk 1
        have z2a : W1.cell? ⟨wr.heap.size, 2, none⟩ = some (.int .i64 0) := (blk_cell R1.out.blk 2).trans rfl
        have y2a := blk_frozen R1.out.blk 2
        have sAa := R1.out.farA HL.out.1
        have sBa := R1.out.farB HL.out.2
        have sCa := R1.out.farC HL.out.2 hne
        have k0a := (R1.out.low.cell (World.block_lt_of_cell? w0 _ k0)).trans k0
        have k1a := (R1.out.low.cell (World.block_lt_of_cell? w0 _ k1)).trans k1
        have k2a := (R1.out.low.cell (World.block_lt_of_cell? w0 _ k2)).trans k2
        go_upto_region 5 with (fail)
        go_quiet (fail)
        have R2 := Aside0.mk (R1.out.drewN nq)
        generalize W1.drewN nq = V1 at R2 ⊢
        have cAb := R2.out.boxA.cell
        have cBb := R2.out.boxB.cell
        have fAb := R2.out.boxA.frozen
        have fBb := R2.out.boxB.frozen
        have z0b : V1.cell? ⟨wr.heap.size, 0, none⟩ = some (.int .i64 0) := (blk_cell R2.out.blk 0).trans rfl
        have y0b := blk_frozen R2.out.blk 0
        have z1b : V1.cell? ⟨wr.heap.size, 1, none⟩ = some (.int .i64 0) := (blk_cell R2.out.blk 1).trans rfl
        have y1b := blk_frozen R2.out.blk 1
        have z2b : V1.cell? ⟨wr.heap.size, 2, none⟩ = some (.int .i64 0) := (blk_cell R2.out.blk 2).trans rfl
        have y2b := blk_frozen R2.out.blk 2
        have sAb := R2.out.farA HL.out.1
        have sBb := R2.out.farB HL.out.2
        have sCb := R2.out.farC HL.out.2 hne
        have k0b := (R2.out.low.cell (World.block_lt_of_cell? w0 _ k0)).trans k0
        have k1b := (R2.out.low.cell (World.block_lt_of_cell? w0 _ k1)).trans k1
        have k2b := (R2.out.low.cell (World.block_lt_of_cell? w0 _ k2)).trans k2
        go_upto_region 6 with (fail)
        go_region
        go_upto_region 7 with (fail)
        have S7 := Aside0.mk (((Ready.step HM.out R2.out HJ.out y).setB HJ.out hne (Nat.ne_of_gt HL.out.2) hBb (.slice B' ys.length (d - 1))).drew HJ.out)
        have HAll := Aside0.mk HM.out.rest
        have HRest := Aside0.mk (rest_3 HAll.out)
        have HB0 := Aside0.mk (And.intro (boxLen_of HM.out.boxA) (boxLen_of HM.out.boxB))
        clear cAb cBb fAb fBb z0b z1b z2b y0b y1b y2b sAb sBb sCb k0b k1b k2b
        clear HM hcutB R2 R1 R0 cA0 cB0 cA cB k0 k1 k2 HW
        unfold sW at S7
        generalize ((((V1.setCell ⟨wr.heap.size, 0, none⟩ (.int .i64 y.f0)).setCell ⟨wr.heap.size, 1, none⟩ (.int .i64 y.f1)).setCell ⟨wr.heap.size, 2, none⟩ (.int .i64 y.f2)).setCell ⟨Bb, 0, none⟩ (.slice B' ys.length (d - 1))).drew = W2 at S7 ⊢
        obtain ⟨fn, tmps, assign, body, hy, hR⟩ := HY.out pre y W2 S7.out.inv (len_lt HRest.out)
        have HR := Aside0.mk hR
        clear hR
        have s0 : W2.cell? ⟨wr.heap.size, 0, none⟩ = some (.int .i64 y.f0) := (blk_cell S7.out.blk 0).trans rfl
        have s1 : W2.cell? ⟨wr.heap.size, 1, none⟩ = some (.int .i64 y.f1) := (blk_cell S7.out.blk 1).trans rfl
        have s2 : W2.cell? ⟨wr.heap.size, 2, none⟩ = some (.int .i64 y.f2) := (blk_cell S7.out.blk 2).trans rfl
        refine (wpIn_wide (n := m + 1)).1 ?_
        gi_wp2
        refine HR.out.mono ?_
        rintro e W3 ⟨rfl, hJ3, hk⟩
        have HMid := Aside0.mk (Mid.next S7.out hk hJ3 HS.out HSB.out HRest.out)
        clear hJ3 hk HR hy S7 s0 s1 s2
        gi_wp2
        go_wp2
        go_roundw
        case rel => exact ⟨_, _, _, _, _, HMid⟩
        case measure => rw [boxLen_of HMid.out.boxA, boxLen_of HMid.out.boxB, HB0.out.1, HB0.out.2]; omega
    | cons x xs =>
      have HS0 := Aside0.mk HM.out.slA
      obtain ⟨ad, c, A', rfl, hc, hmax, g0, g1, g2, hcut, hsl⟩ := HM.out.slA.head
      have HS := Aside0.mk hsl
      clear hsl
      cases ys with
      | nil =>
        have HSB := Aside0.mk HM.out.slB
        obtain ⟨Ab, cb, rfl⟩ := HM.out.slB.nil
        have lx0 : ((xs.length : Int) + 1 == 0) = false := by simp; omega
        have lx1 : decide ((0 : Int) < (xs.length : Int) + 1) = true := decide_eq_true (by omega)
        go_wp2
        go_quiet (fail)
        have R1 := Aside0.mk (R0.out.drewN nq)
        generalize (wr.alloc (.cells #[.int .i64 0, .int .i64 0, .int .i64 0] 24)).drewN nq = W1 at R1 ⊢
        have cAa := R1.out.boxA.cell
        have cBa := R1.out.boxB.cell
        have fAa := R1.out.boxA.frozen
        have fBa := R1.out.boxB.frozen
        have z0a : W1.cell? ⟨wr.heap.size, 0, none⟩ = some (.int .i64 0) := (blk_cell R1.out.blk 0).trans rfl
        have y0a := blk_frozen R1.out.blk 0
        have z1a : W1.cell? ⟨wr.heap.size, 1, none⟩ = some (.int .i64 0) := (blk_cell R1.out.blk 1).trans rfl
        have y1a := blk_frozen R1.out.blk 1
        have z2a : W1.cell? ⟨wr.heap.size, 2, none⟩ = some (.int .i64 0) := (blk_cell R1.out.blk 2).trans rfl
        have y2a := blk_frozen R1.out.blk 2
        have sAa := R1.out.farA HL.out.1
        have sBa := R1.out.farB HL.out.2
        have sCa := R1.out.farC HL.out.2 hne
        have g0a := (R1.out.low.cell (World.block_lt_of_cell? w0 _ g0)).trans g0
        have g1a := (R1.out.low.cell (World.block_lt_of_cell? w0 _ g1)).trans g1
        have g2a := (R1.out.low.cell (World.block_lt_of_cell? w0 _ g2)).trans g2
        go_upto_region 4 with (fail)
        go_region
        go_upto_region 7 with (fail)
        have S7 := Aside0.mk (((Ready.step HM.out R1.out HJ.out x).setA HJ.out hne (Nat.ne_of_gt HL.out.1) hBa (.slice A' xs.length (c - 1))).drew HJ.out)
        have HAll := Aside0.mk HM.out.rest
        have HRest := Aside0.mk (rest_1 HAll.out)
        have HB0 := Aside0.mk (And.intro (boxLen_of HM.out.boxA) (boxLen_of HM.out.boxB))
        clear cAa cBa fAa fBa z0a z1a z2a y0a y1a y2a sAa sBa sCa g0a g1a g2a
        clear HM hcut R1 R0 cA0 cB0 cA cB g0 g1 g2 HW
        unfold sW at S7
        generalize ((((W1.setCell ⟨wr.heap.size, 0, none⟩ (.int .i64 x.f0)).setCell ⟨wr.heap.size, 1, none⟩ (.int .i64 x.f1)).setCell ⟨wr.heap.size, 2, none⟩ (.int .i64 x.f2)).setCell ⟨Ba, 0, none⟩ (.slice A' xs.length (c - 1))).drew = W2 at S7 ⊢
        obtain ⟨fn, tmps, assign, body, hy, hR⟩ := HY.out pre x W2 S7.out.inv (len_lt HRest.out)
        have HR := Aside0.mk hR
        clear hR
        have s0 : W2.cell? ⟨wr.heap.size, 0, none⟩ = some (.int .i64 x.f0) := (blk_cell S7.out.blk 0).trans rfl
        have s1 : W2.cell? ⟨wr.heap.size, 1, none⟩ = some (.int .i64 x.f1) := (blk_cell S7.out.blk 1).trans rfl
        have s2 : W2.cell? ⟨wr.heap.size, 2, none⟩ = some (.int .i64 x.f2) := (blk_cell S7.out.blk 2).trans rfl
        refine (wpIn_wide (n := m + 1)).1 ?_
        gi_wp2
        refine HR.out.mono ?_
        rintro e W3 ⟨rfl, hJ3, hk⟩
        have HMid := Aside0.mk (Mid.next S7.out hk hJ3 HS.out HSB.out HRest.out)
        clear hJ3 hk HR hy S7 s0 s1 s2
        gi_wp2
        go_wp2
        go_roundw
        case rel => exact ⟨_, _, _, _, _, HMid⟩
        case measure => rw [boxLen_of HMid.out.boxA, boxLen_of HMid.out.boxB, HB0.out.1, HB0.out.2]; omega
      | cons y ys =>
        have HSB0 := Aside0.mk HM.out.slB
        obtain ⟨bd, d, B', rfl, hd, hdmax, k0, k1, k2, hcutB, hslB⟩ := HM.out.slB.head
        have HSB := Aside0.mk hslB
        clear hslB
        have lx0 : ((xs.length : Int) + 1 == 0) = false := by simp; omega
        have lx1 : decide ((0 : Int) < (xs.length : Int) + 1) = true := decide_eq_true (by omega)
        have ly0 : ((ys.length : Int) + 1 == 0) = false := by simp; omega
        have ly1 : decide ((0 : Int) < (ys.length : Int) + 1) = true := decide_eq_true (by omega)
        have g0z := (R0.out.low.cell (World.block_lt_of_cell? w0 _ g0)).trans g0
        have g1z := (R0.out.low.cell (World.block_lt_of_cell? w0 _ g1)).trans g1
        have g2z := (R0.out.low.cell (World.block_lt_of_cell? w0 _ g2)).trans g2
        have k0z := (R0.out.low.cell (World.block_lt_of_cell? w0 _ k0)).trans k0
        have k1z := (R0.out.low.cell (World.block_lt_of_cell? w0 _ k1)).trans k1
        have k2z := (R0.out.low.cell (World.block_lt_of_cell? w0 _ k2)).trans k2
        by_cases hlt : cmpS x y < 0
        · skip
          have hltb : decide (cmpS x y < 0) = true := decide_eq_true hlt
          have HLT := Aside0.mk hlt
          clear hlt
          go_upto_region 3 with (fail)
          go_region_held3 (fun w' => w'.cell? ⟨Ba, 0, none⟩ = some (.slice (some ad) (xs.length + 1) c) ∧ w'.cell? ⟨Bb, 0, none⟩ = some (.slice (some bd) (ys.length + 1) d) ∧ w'.cell? ad = some (.int .i64 x.f0) ∧ w'.cell? ⟨ad.block, ad.off + 1, none⟩ = some (.int .i64 x.f1) ∧ w'.cell? ⟨ad.block, ad.off + 2, none⟩ = some (.int .i64 x.f2) ∧ w'.cell? bd = some (.int .i64 y.f0) ∧ w'.cell? ⟨bd.block, bd.off + 1, none⟩ = some (.int .i64 y.f1) ∧ w'.cell? ⟨bd.block, bd.off + 2, none⟩ = some (.int .i64 y.f2)) (first | ((repeat' apply And.intro) <;> (apply hkp; (first | assumption | (simp [*]; done)))) | go_keep) (first | (go_at_call 14; refine (compare_keeps x y _).mono ?_; rintro e w1 ⟨rfl, hb, hkp⟩))
          have R1 := Aside0.mk ((R0.out.drewN 1).below hb)
          clear hb hkp
          clear g0z g1z g2z k0z k1z k2z
          rename_i hHeld
          clear hHeld
          have cAa := R1.out.boxA.cell
          have cBa := R1.out.boxB.cell
          have fAa := R1.out.boxA.frozen
          have fBa := R1.out.boxB.frozen
          have z0a : w1.cell? ⟨wr.heap.size, 0, none⟩ = some (.int .i64 0) := (blk_cell R1.out.blk 0).trans rfl
          have y0a := blk_frozen R1.out.blk 0
          have z1a : w1.cell? ⟨wr.heap.size, 1, none⟩ = some (.int .i64 0) := (blk_cell R1.out.blk 1).trans rfl
          have y1a := blk_frozen R1.out.blk 1
          have z2a : w1.cell? ⟨wr.heap.size, 2, none⟩ = some (.int .i64 0) := (blk_cell R1.out.blk 2).trans rfl
          have y2a := blk_frozen R1.out.blk 2
          have sAa := R1.out.farA HL.out.1
          have sBa := R1.out.farB HL.out.2
          have sCa := R1.out.farC HL.out.2 hne
          have g0a := (R1.out.low.cell (World.block_lt_of_cell? w0 _ g0)).trans g0
          have g1a := (R1.out.low.cell (World.block_lt_of_cell? w0 _ g1)).trans g1
          have g2a := (R1.out.low.cell (World.block_lt_of_cell? w0 _ g2)).trans g2
          have k0a := (R1.out.low.cell (World.block_lt_of_cell? w0 _ k0)).trans k0
          have k1a := (R1.out.low.cell (World.block_lt_of_cell? w0 _ k1)).trans k1
          have k2a := (R1.out.low.cell (World.block_lt_of_cell? w0 _ k2)).trans k2
          go_upto_region 4 with (fail)
          go_region
          go_upto_region 7 with (fail)
          have S7 := Aside0.mk (((Ready.step HM.out R1.out HJ.out x).setA HJ.out hne (Nat.ne_of_gt HL.out.1) hBa (.slice A' xs.length (c - 1))).drew HJ.out)
          have HAll := Aside0.mk HM.out.rest
          have HRest := Aside0.mk (rest_2 HLT.out HAll.out)
          have HB0 := Aside0.mk (And.intro (boxLen_of HM.out.boxA) (boxLen_of HM.out.boxB))
          clear cAa cBa fAa fBa z0a z1a z2a y0a y1a y2a sAa sBa sCa g0a g1a g2a k0a k1a k2a
          clear HM hcut hcutB R1 R0 cA0 cB0 cA cB g0 g1 g2 k0 k1 k2 HW
          unfold sW at S7
          generalize ((((w1.setCell ⟨wr.heap.size, 0, none⟩ (.int .i64 x.f0)).setCell ⟨wr.heap.size, 1, none⟩ (.int .i64 x.f1)).setCell ⟨wr.heap.size, 2, none⟩ (.int .i64 x.f2)).setCell ⟨Ba, 0, none⟩ (.slice A' xs.length (c - 1))).drew = W2 at S7 ⊢
          obtain ⟨fn, tmps, assign, body, hy, hR⟩ := HY.out pre x W2 S7.out.inv (len_lt HRest.out)
          have HR := Aside0.mk hR
          clear hR
          have s0 : W2.cell? ⟨wr.heap.size, 0, none⟩ = some (.int .i64 x.f0) := (blk_cell S7.out.blk 0).trans rfl
          have s1 : W2.cell? ⟨wr.heap.size, 1, none⟩ = some (.int .i64 x.f1) := (blk_cell S7.out.blk 1).trans rfl
          have s2 : W2.cell? ⟨wr.heap.size, 2, none⟩ = some (.int .i64 x.f2) := (blk_cell S7.out.blk 2).trans rfl
          refine (wpIn_wide (n := m + 1)).1 ?_
          gi_wp2
          refine HR.out.mono ?_
          rintro e W3 ⟨rfl, hJ3, hk⟩
          have HMid := Aside0.mk (Mid.next S7.out hk hJ3 HS.out HSB0.out HRest.out)
          clear hJ3 hk HR hy S7 s0 s1 s2
          gi_wp2
          go_wp2
          go_roundw
          case rel => exact ⟨_, _, _, _, _, HMid⟩
          case measure => rw [boxLen_of HMid.out.boxA, boxLen_of HMid.out.boxB, HB0.out.1, HB0.out.2]; omega
        · by_cases hgt : 0 < cmpS x y
          · skip
            have hltb : decide (cmpS x y < 0) = false := decide_eq_false hlt
            have hgtb : decide (0 < cmpS x y) = true := decide_eq_true hgt
            have HLT := Aside0.mk hlt
            have HGT := Aside0.mk hgt
            clear hlt hgt
            go_upto_region 3 with (fail)
            go_region_held3 (fun w' => w'.cell? ⟨Ba, 0, none⟩ = some (.slice (some ad) (xs.length + 1) c) ∧ w'.cell? ⟨Bb, 0, none⟩ = some (.slice (some bd) (ys.length + 1) d) ∧ w'.cell? ad = some (.int .i64 x.f0) ∧ w'.cell? ⟨ad.block, ad.off + 1, none⟩ = some (.int .i64 x.f1) ∧ w'.cell? ⟨ad.block, ad.off + 2, none⟩ = some (.int .i64 x.f2) ∧ w'.cell? bd = some (.int .i64 y.f0) ∧ w'.cell? ⟨bd.block, bd.off + 1, none⟩ = some (.int .i64 y.f1) ∧ w'.cell? ⟨bd.block, bd.off + 2, none⟩ = some (.int .i64 y.f2)) (first | ((repeat' apply And.intro) <;> (apply hkp; (first | assumption | (simp [*]; done)))) | go_keep) (first | (go_at_call 14; refine (compare_keeps x y _).mono ?_; rintro e w1 ⟨rfl, hb, hkp⟩))
            have R1 := Aside0.mk ((R0.out.drewN 1).below hb)
            clear hb hkp
            clear g0z g1z g2z k0z k1z k2z
            rename_i hHeld
            clear hHeld
            have cAa := R1.out.boxA.cell
            have cBa := R1.out.boxB.cell
            have fAa := R1.out.boxA.frozen
            have fBa := R1.out.boxB.frozen
            have z0a : w1.cell? ⟨wr.heap.size, 0, none⟩ = some (.int .i64 0) := (blk_cell R1.out.blk 0).trans rfl
            have y0a := blk_frozen R1.out.blk 0
            have z1a : w1.cell? ⟨wr.heap.size, 1, none⟩ = some (.int .i64 0) := (blk_cell R1.out.blk 1).trans rfl
            have y1a := blk_frozen R1.out.blk 1
            have z2a : w1.cell? ⟨wr.heap.size, 2, none⟩ = some (.int .i64 0) := (blk_cell R1.out.blk 2).trans rfl
            have y2a := blk_frozen R1.out.blk 2
            have sAa := R1.out.farA HL.out.1
            have sBa := R1.out.farB HL.out.2
            have sCa := R1.out.farC HL.out.2 hne
            have g0a := (R1.out.low.cell (World.block_lt_of_cell? w0 _ g0)).trans g0
            have g1a := (R1.out.low.cell (World.block_lt_of_cell? w0 _ g1)).trans g1
            have g2a := (R1.out.low.cell (World.block_lt_of_cell? w0 _ g2)).trans g2
            have k0a := (R1.out.low.cell (World.block_lt_of_cell? w0 _ k0)).trans k0
            have k1a := (R1.out.low.cell (World.block_lt_of_cell? w0 _ k1)).trans k1
            have k2a := (R1.out.low.cell (World.block_lt_of_cell? w0 _ k2)).trans k2
            go_upto_region 5 with (fail)
            go_region_held3 (fun w' => w'.cell? ⟨Ba, 0, none⟩ = some (.slice (some ad) (xs.length + 1) c) ∧ w'.cell? ⟨Bb, 0, none⟩ = some (.slice (some bd) (ys.length + 1) d) ∧ w'.cell? ad = some (.int .i64 x.f0) ∧ w'.cell? ⟨ad.block, ad.off + 1, none⟩ = some (.int .i64 x.f1) ∧ w'.cell? ⟨ad.block, ad.off + 2, none⟩ = some (.int .i64 x.f2) ∧ w'.cell? bd = some (.int .i64 y.f0) ∧ w'.cell? ⟨bd.block, bd.off + 1, none⟩ = some (.int .i64 y.f1) ∧ w'.cell? ⟨bd.block, bd.off + 2, none⟩ = some (.int .i64 y.f2)) (first | ((repeat' apply And.intro) <;> (apply hkp2; (first | assumption | (simp [*]; done)))) | go_keep) (first | (go_at_call 14; refine (compare_keeps x y _).mono ?_; rintro e w2 ⟨rfl, hb2, hkp2⟩))
            have R2 := Aside0.mk ((R1.out.drewN 1).below hb2)
            clear hb2 hkp2
            clear cAa cBa fAa fBa z0a z1a z2a y0a y1a y2a sAa sBa sCa g0a g1a g2a k0a k1a k2a
            rename_i hHeld2
            clear hHeld2
            have cAb := R2.out.boxA.cell
            have cBb := R2.out.boxB.cell
            have fAb := R2.out.boxA.frozen
            have fBb := R2.out.boxB.frozen
            have z0b : w2.cell? ⟨wr.heap.size, 0, none⟩ = some (.int .i64 0) := (blk_cell R2.out.blk 0).trans rfl
            have y0b := blk_frozen R2.out.blk 0
            have z1b : w2.cell? ⟨wr.heap.size, 1, none⟩ = some (.int .i64 0) := (blk_cell R2.out.blk 1).trans rfl
            have y1b := blk_frozen R2.out.blk 1
            have z2b : w2.cell? ⟨wr.heap.size, 2, none⟩ = some (.int .i64 0) := (blk_cell R2.out.blk 2).trans rfl
            have y2b := blk_frozen R2.out.blk 2
            have sAb := R2.out.farA HL.out.1
            have sBb := R2.out.farB HL.out.2
            have sCb := R2.out.farC HL.out.2 hne
            have g0b := (R2.out.low.cell (World.block_lt_of_cell? w0 _ g0)).trans g0
            have g1b := (R2.out.low.cell (World.block_lt_of_cell? w0 _ g1)).trans g1
            have g2b := (R2.out.low.cell (World.block_lt_of_cell? w0 _ g2)).trans g2
            have k0b := (R2.out.low.cell (World.block_lt_of_cell? w0 _ k0)).trans k0
            have k1b := (R2.out.low.cell (World.block_lt_of_cell? w0 _ k1)).trans k1
            have k2b := (R2.out.low.cell (World.block_lt_of_cell? w0 _ k2)).trans k2
            go_upto_region 6 with (fail)
            go_region
            go_upto_region 7 with (fail)
            have S7 := Aside0.mk (((Ready.step HM.out R2.out HJ.out y).setB HJ.out hne (Nat.ne_of_gt HL.out.2) hBb (.slice B' ys.length (d - 1))).drew HJ.out)
            have HAll := Aside0.mk HM.out.rest
            have HRest := Aside0.mk (rest_4 (Int.not_lt.2 HLT.out) HGT.out HAll.out)
            have HB0 := Aside0.mk (And.intro (boxLen_of HM.out.boxA) (boxLen_of HM.out.boxB))
            clear cAb cBb fAb fBb z0b z1b z2b y0b y1b y2b sAb sBb sCb g0b g1b g2b k0b k1b k2b
            clear HM hcut hcutB R2 R1 R0 cA0 cB0 cA cB g0 g1 g2 k0 k1 k2 HW
            unfold sW at S7
            generalize ((((w2.setCell ⟨wr.heap.size, 0, none⟩ (.int .i64 y.f0)).setCell ⟨wr.heap.size, 1, none⟩ (.int .i64 y.f1)).setCell ⟨wr.heap.size, 2, none⟩ (.int .i64 y.f2)).setCell ⟨Bb, 0, none⟩ (.slice B' ys.length (d - 1))).drew = W2 at S7 ⊢
            obtain ⟨fn, tmps, assign, body, hy, hR⟩ := HY.out pre y W2 S7.out.inv (len_lt HRest.out)
            have HR := Aside0.mk hR
            clear hR
            have s0 : W2.cell? ⟨wr.heap.size, 0, none⟩ = some (.int .i64 y.f0) := (blk_cell S7.out.blk 0).trans rfl
            have s1 : W2.cell? ⟨wr.heap.size, 1, none⟩ = some (.int .i64 y.f1) := (blk_cell S7.out.blk 1).trans rfl
            have s2 : W2.cell? ⟨wr.heap.size, 2, none⟩ = some (.int .i64 y.f2) := (blk_cell S7.out.blk 2).trans rfl
            refine (wpIn_wide (n := m + 1)).1 ?_
            gi_wp2
            refine HR.out.mono ?_
            rintro e W3 ⟨rfl, hJ3, hk⟩
            have HMid := Aside0.mk (Mid.next S7.out hk hJ3 HS0.out HSB.out HRest.out)
            clear hJ3 hk HR hy S7 s0 s1 s2
            gi_wp2
            go_wp2
            go_roundw
            case rel => exact ⟨_, _, _, _, _, HMid⟩
            case measure => rw [boxLen_of HMid.out.boxA, boxLen_of HMid.out.boxB, HB0.out.1, HB0.out.2]; omega
          · skip
            have hltb : decide (cmpS x y < 0) = false := decide_eq_false hlt
            have hgtb : decide (0 < cmpS x y) = false := decide_eq_false hgt
            have HLT := Aside0.mk hlt
            have HGT := Aside0.mk hgt
            clear hlt hgt
            go_upto_region 3 with (fail)
            go_region_held3 (fun w' => w'.cell? ⟨Ba, 0, none⟩ = some (.slice (some ad) (xs.length + 1) c) ∧ w'.cell? ⟨Bb, 0, none⟩ = some (.slice (some bd) (ys.length + 1) d) ∧ w'.cell? ad = some (.int .i64 x.f0) ∧ w'.cell? ⟨ad.block, ad.off + 1, none⟩ = some (.int .i64 x.f1) ∧ w'.cell? ⟨ad.block, ad.off + 2, none⟩ = some (.int .i64 x.f2) ∧ w'.cell? bd = some (.int .i64 y.f0) ∧ w'.cell? ⟨bd.block, bd.off + 1, none⟩ = some (.int .i64 y.f1) ∧ w'.cell? ⟨bd.block, bd.off + 2, none⟩ = some (.int .i64 y.f2)) (first | ((repeat' apply And.intro) <;> (apply hkp; (first | assumption | (simp [*]; done)))) | go_keep) (first | (go_at_call 14; refine (compare_keeps x y _).mono ?_; rintro e w1 ⟨rfl, hb, hkp⟩))
            have R1 := Aside0.mk ((R0.out.drewN 1).below hb)
            clear hb hkp
            clear g0z g1z g2z k0z k1z k2z
            rename_i hHeld
            clear hHeld
            have cAa := R1.out.boxA.cell
            have cBa := R1.out.boxB.cell
            have fAa := R1.out.boxA.frozen
            have fBa := R1.out.boxB.frozen
            have z0a : w1.cell? ⟨wr.heap.size, 0, none⟩ = some (.int .i64 0) := (blk_cell R1.out.blk 0).trans rfl
            have y0a := blk_frozen R1.out.blk 0
            have z1a : w1.cell? ⟨wr.heap.size, 1, none⟩ = some (.int .i64 0) := (blk_cell R1.out.blk 1).trans rfl
            have y1a := blk_frozen R1.out.blk 1
            have z2a : w1.cell? ⟨wr.heap.size, 2, none⟩ = some (.int .i64 0) := (blk_cell R1.out.blk 2).trans rfl
            have y2a := blk_frozen R1.out.blk 2
            have sAa := R1.out.farA HL.out.1
            have sBa := R1.out.farB HL.out.2
            have sCa := R1.out.farC HL.out.2 hne
            have g0a := (R1.out.low.cell (World.block_lt_of_cell? w0 _ g0)).trans g0
            have g1a := (R1.out.low.cell (World.block_lt_of_cell? w0 _ g1)).trans g1
            have g2a := (R1.out.low.cell (World.block_lt_of_cell? w0 _ g2)).trans g2
            have k0a := (R1.out.low.cell (World.block_lt_of_cell? w0 _ k0)).trans k0
            have k1a := (R1.out.low.cell (World.block_lt_of_cell? w0 _ k1)).trans k1
            have k2a := (R1.out.low.cell (World.block_lt_of_cell? w0 _ k2)).trans k2
            go_upto_region 5 with (fail)
            go_region_held3 (fun w' => w'.cell? ⟨Ba, 0, none⟩ = some (.slice (some ad) (xs.length + 1) c) ∧ w'.cell? ⟨Bb, 0, none⟩ = some (.slice (some bd) (ys.length + 1) d) ∧ w'.cell? ad = some (.int .i64 x.f0) ∧ w'.cell? ⟨ad.block, ad.off + 1, none⟩ = some (.int .i64 x.f1) ∧ w'.cell? ⟨ad.block, ad.off + 2, none⟩ = some (.int .i64 x.f2) ∧ w'.cell? bd = some (.int .i64 y.f0) ∧ w'.cell? ⟨bd.block, bd.off + 1, none⟩ = some (.int .i64 y.f1) ∧ w'.cell? ⟨bd.block, bd.off + 2, none⟩ = some (.int .i64 y.f2)) (first | ((repeat' apply And.intro) <;> (apply hkp2; (first | assumption | (simp [*]; done)))) | go_keep) (first | (go_at_call 14; refine (compare_keeps x y _).mono ?_; rintro e w2 ⟨rfl, hb2, hkp2⟩))
            have R2 := Aside0.mk ((R1.out.drewN 1).below hb2)
            clear hb2 hkp2
            clear cAa cBa fAa fBa z0a z1a z2a y0a y1a y2a sAa sBa sCa g0a g1a g2a k0a k1a k2a
            rename_i hHeld2
            clear hHeld2
            have cAb := R2.out.boxA.cell
            have cBb := R2.out.boxB.cell
            have fAb := R2.out.boxA.frozen
            have fBb := R2.out.boxB.frozen
            have z0b : w2.cell? ⟨wr.heap.size, 0, none⟩ = some (.int .i64 0) := (blk_cell R2.out.blk 0).trans rfl
            have y0b := blk_frozen R2.out.blk 0
            have z1b : w2.cell? ⟨wr.heap.size, 1, none⟩ = some (.int .i64 0) := (blk_cell R2.out.blk 1).trans rfl
            have y1b := blk_frozen R2.out.blk 1
            have z2b : w2.cell? ⟨wr.heap.size, 2, none⟩ = some (.int .i64 0) := (blk_cell R2.out.blk 2).trans rfl
            have y2b := blk_frozen R2.out.blk 2
            have sAb := R2.out.farA HL.out.1
            have sBb := R2.out.farB HL.out.2
            have sCb := R2.out.farC HL.out.2 hne
            have g0b := (R2.out.low.cell (World.block_lt_of_cell? w0 _ g0)).trans g0
            have g1b := (R2.out.low.cell (World.block_lt_of_cell? w0 _ g1)).trans g1
            have g2b := (R2.out.low.cell (World.block_lt_of_cell? w0 _ g2)).trans g2
            have k0b := (R2.out.low.cell (World.block_lt_of_cell? w0 _ k0)).trans k0
            have k1b := (R2.out.low.cell (World.block_lt_of_cell? w0 _ k1)).trans k1
            have k2b := (R2.out.low.cell (World.block_lt_of_cell? w0 _ k2)).trans k2
            go_upto_region 2 with (fail)
            go_region
            go_upto_region 7 with (fail)
            have S7 := Aside0.mk ((((Ready.step HM.out R2.out HJ.out x).setA HJ.out hne (Nat.ne_of_gt HL.out.1) hBa (.slice A' xs.length (c - 1))).setB HJ.out hne (Nat.ne_of_gt HL.out.2) hBb (.slice B' ys.length (d - 1))).drew HJ.out)
            have HAll := Aside0.mk HM.out.rest
            have HRest := Aside0.mk (rest_5 (Int.not_lt.2 HLT.out) (Int.not_lt.2 HGT.out) HAll.out)
            have HB0 := Aside0.mk (And.intro (boxLen_of HM.out.boxA) (boxLen_of HM.out.boxB))
            clear cAb cBb fAb fBb z0b z1b z2b y0b y1b y2b sAb sBb sCb g0b g1b g2b k0b k1b k2b
            clear HM hcut hcutB R2 R1 R0 cA0 cB0 cA cB g0 g1 g2 k0 k1 k2 HW
            unfold sW at S7
            generalize (((((w2.setCell ⟨wr.heap.size, 0, none⟩ (.int .i64 x.f0)).setCell ⟨wr.heap.size, 1, none⟩ (.int .i64 x.f1)).setCell ⟨wr.heap.size, 2, none⟩ (.int .i64 x.f2)).setCell ⟨Ba, 0, none⟩ (.slice A' xs.length (c - 1))).setCell ⟨Bb, 0, none⟩ (.slice B' ys.length (d - 1))).drew = W2 at S7 ⊢
            obtain ⟨fn, tmps, assign, body, hy, hR⟩ := HY.out pre x W2 S7.out.inv (len_lt HRest.out)
            have HR := Aside0.mk hR
            clear hR
            have s0 : W2.cell? ⟨wr.heap.size, 0, none⟩ = some (.int .i64 x.f0) := (blk_cell S7.out.blk 0).trans rfl
            have s1 : W2.cell? ⟨wr.heap.size, 1, none⟩ = some (.int .i64 x.f1) := (blk_cell S7.out.blk 1).trans rfl
            have s2 : W2.cell? ⟨wr.heap.size, 2, none⟩ = some (.int .i64 x.f2) := (blk_cell S7.out.blk 2).trans rfl
            refine (wpIn_wide (n := m + 1)).1 ?_
            gi_wp2
            refine HR.out.mono ?_
            rintro e W3 ⟨rfl, hJ3, hk⟩
            have HMid := Aside0.mk (Mid.next S7.out hk hJ3 HS.out HSB.out HRest.out)
            clear hJ3 hk HR hy S7 s0 s1 s2
            gi_wp2
            go_wp2
            go_roundw
            case rel => exact ⟨_, _, _, _, _, HMid⟩
            case measure => rw [boxLen_of HMid.out.boxA, boxLen_of HMid.out.boxB, HB0.out.1, HB0.out.2]; omega
end Go.Proofs.Ytmenajpeendnoaa.Print
