/- Contract, proved by hand, of the function stamps.Merge: at two lists of at most 1000 stamps: if both are valid, the call returns the merged list and no fault; else no list and the fault 80. -/
import Derived.Test.YtmenajpeendnoaaHandB
import Derived.RangeFuncBox
import Derived.RangeFuncIn
import Derived.RangeFuncLeaves
import Derived.OwnWalkIn
import Derived.TacticsInMore
import Derived.LoopIn
import Derived.WalkKit
import Derived.Shelf.Abstract
namespace Go.Proofs.Ytmenajpeendnoaa.Print
attribute [local go_sem] Oper.semAt_some
open Go.RowKit Go.Proofs.YtmenajpeendnoaaW.PrintWords Go.Proofs.YtmenajpeendnoaaW.PrintLast Go.Proofs.YtmenajpeendnoaaW.PrintMore
set_option linter.unusedVariables false
theorem below_one {w : World} (o : Obj) : Below w.heap.size w (w.alloc o) := (Below.refl _ _).alloc (Nat.le_refl _) _
theorem both_any (va vb : Value) (A0 A1 : Option Addr) (n0 c0 n1 c1 : Nat) (w : World) :
    Calls Try.prog 27 #[.slice A0 n0 c0, .slice A1 n1 c1] w fun e w' => e = .returned (.func (.func 33) #[] #[.pointer (some ⟨w.heap.size, 0, none⟩), .pointer (some ⟨w.heap.size + 1, 0, none⟩)]) ∧ w' = (w.alloc (.cells #[.slice A0 n0 c0] 22)).alloc (.cells #[.slice A1 n1 c1] 22) := by
  go_enter Try.func27, Try.ntmps27
  go_wp2
  go_ret
  exact ⟨rfl, rfl⟩
/-- The numbers of stamps, one behind the other. -/
def cellsOf (l : List S24) : List Value := l.flatMap fun x => [.int .i64 x.f0, .int .i64 x.f1, .int .i64 x.f2]
theorem cellsOf_snoc (l : List S24) (x : S24) : cellsOf (l ++ [x]) = cellsOf l ++ [.int .i64 x.f0, .int .i64 x.f1, .int .i64 x.f2] := by simp [cellsOf]
/-- The loop of Merge, between two rounds: its variable l holds what has come; the loop's record is ready. -/
structure MInv (w : World) (B4 D : Nat) (rc : Loop) (pre : List S24) (W : World) : Prop where
  low : Below w.heap.size w W
  row : ∃ v, Boxed W B4 22 v ∧ W.ownsRow D 24 3 v pre.length (cellsOf pre)
  record : W.heap[D + 1]? = some (.loop rc)
  dfr : W.heap[D]? = some (.deferred (some []))
theorem own_ne_low {W : World} {D k : Nat} {v : Value} {xs : List Value} (h : W.ownsRow D 24 3 v k xs) {i : Nat} (hi : i < D) : v.ownBlock = none ∨ v.ownBlock ≠ some i := by
  cases hv : v.ownBlock with
  | none => exact .inl rfl
  | some g =>
    refine .inr fun e => ?_
    cases e
    have := own_base h _ hv
    omega
theorem own_ne_obj {W : World} {D k : Nat} {v : Value} {xs : List Value} (h : W.ownsRow D 24 3 v k xs) {i : Nat} {o : Obj} (hi : W.heap[i]? = some o) (ho : o.isCells = false) : v.ownBlock ≠ some i := by
  intro e
  obtain ⟨cs, hc⟩ := own_typed h _ e
  rw [hi] at hc
  cases hc
  cases ho
theorem minv_abides {w : World} {B4 D Ba Bb : Nat} {rc : Loop} (hA : Ba < D) (hB : Bb < D) (h0 : w.heap.size ≤ Ba) (h1 : w.heap.size ≤ Bb) (n1 : B4 ≠ Ba) (n2 : B4 ≠ Bb) : AbidesBoxes Ba Bb (MInv w B4 D rc) := by
  rintro s W W' row ⟨hl, ⟨v, hv, hr⟩, hrec, hd⟩ hg hrow
  refine ⟨hl.grown hg hl.size (fun k e => ?_), ⟨v, hv.kept hg (fun e => ?_), hr.kept hg ?_⟩, (hg.block _ (blk_lt hrec) (fun e => ?_)).trans hrec, (hg.block _ (blk_lt hd) (fun e => ?_)).trans hd⟩
  · rcases hrow k e with rfl | rfl <;> assumption
  · rcases hrow _ e.symm with h | h
    · exact n1 h
    · exact n2 h
  · cases row with
    | none => cases v.ownBlock <;> simp
    | some r =>
      rcases hrow r rfl with rfl | rfl
      · exact own_ne_low hr hA
      · exact own_ne_low hr hB
  · rcases hrow _ e.symm with h | h <;> omega
  · rcases hrow _ e.symm with h | h <;> omega
theorem mid_enter {w0 : World} {Ba Bb B4 : Nat} {all xs ys : List S24} {wL : World} {va vb : Value} (hM : Mid w0 Ba Bb (fun _ _ => True) all wL [] xs ys va vb) (hO : Boxed wL B4 22 (.slice none 0 0)) (rc : Loop) :
    Mid w0 Ba Bb (MInv w0 B4 wL.heap.size rc) all ((wL.alloc (.deferred (some []))).alloc (.loop rc)) [] xs ys va vb := by
  have hr := blk_new (wL.alloc (.deferred (some []))) (.loop rc)
  rw [World.size_alloc] at hr
  exact ⟨below_alloc (below_alloc hM.low _) _, (hM.boxA.alloc _).alloc _, (hM.boxB.alloc _).alloc _, hM.slA, hM.slB, ⟨below_alloc (below_alloc hM.low _) _, ⟨_, (hO.alloc _).alloc _, World.ownsRow_nil _ _ _ _⟩, hr, blk_alloc (blk_new wL _) _⟩, hM.rest⟩
/-- In a round: the loop's variable s is made, the record is busy. -/
structure InRound (w : World) (B4 D : Nat) (rc : Loop) (pre : List S24) (v : Value) (s : Nat) (x : S24) (Ba Bb : Nat) (W1 X : World) : Prop where
  low : Below w.heap.size w X
  low1 : Below w.heap.size W1 X
  box : Boxed X B4 22 v
  row : X.ownsRow D 24 3 v pre.length (cellsOf pre)
  record : X.heap[D + 1]? = some (.loop { rc with state := .busy })
  dfr : X.heap[D]? = some (.deferred (some []))
  blk : X.heap[s]? = some (.cells #[.int .i64 x.f0, .int .i64 x.f1, .int .i64 x.f2] 24 (0, 0))
  boxA : X.heap[Ba]? = W1.heap[Ba]?
  boxB : X.heap[Bb]? = W1.heap[Bb]?
theorem MInv.enter {w : World} {B4 D Ba Bb : Nat} {rc : Loop} {pre : List S24} {W1 : World} (h : MInv w B4 D rc pre W1) (hD : w.heap.size ≤ D) (hA : Ba < D) (hB : Bb < D) (h4 : B4 < D) (x : S24) :
    ∃ v, InRound w B4 D rc pre v W1.heap.size x Ba Bb W1 ((W1.alloc (.cells #[.int .i64 x.f0, .int .i64 x.f1, .int .i64 x.f2] 24)).putObj (D + 1) (.loop { rc with state := .busy })) := by
  obtain ⟨v, hv, hr⟩ := h.row
  have hlt := blk_lt h.record
  have hg1 : W1.grownBy (W1.alloc (.cells #[.int .i64 x.f0, .int .i64 x.f1, .int .i64 x.f2] 24)) none := World.grownBy_alloc _ _ _
  have hrec := blk_alloc h.record (.cells #[.int .i64 x.f0, .int .i64 x.f1, .int .i64 x.f2] 24 (0, 0))
  have hg2 := grownBy_putObj' (W1.alloc (.cells #[.int .i64 x.f0, .int .i64 x.f1, .int .i64 x.f2] 24)) (D + 1) (.loop { rc with state := .busy })
  have hne := own_ne_obj (hr.alloc (.cells #[.int .i64 x.f0, .int .i64 x.f1, .int .i64 x.f2] 24 (0, 0))) hrec rfl
  have hlow : Below w.heap.size W1 ((W1.alloc (.cells #[.int .i64 x.f0, .int .i64 x.f1, .int .i64 x.f2] 24)).putObj (D + 1) (.loop { rc with state := .busy })) :=
    ((Below.refl _ W1).alloc h.low.size _).grown hg2 (by have := h.low.size; simp; omega) (fun k e => by cases e; omega)
  refine ⟨v, h.low.trans hlow, hlow, (hv.alloc _).kept hg2 (fun e => ?_), (hr.alloc _).kept hg2 (.inr hne), World.putObj_heap_same (by simp; omega), (World.putObj_heap_other (by omega)).trans (blk_alloc h.dfr _), (World.putObj_heap_other (by omega)).trans (blk_new W1 _), ?_, ?_⟩
  · have : B4 = D + 1 := by simpa using e
    omega
  · exact (World.putObj_heap_other (by omega)).trans (Below.heap_alloc _ _ _ (by omega))
  · exact (World.putObj_heap_other (by omega)).trans (Below.heap_alloc _ _ _ (by omega))
theorem rec_back (rc : Loop) (h1 : rc.state = .ready) (h2 : rc.pending = none) : ({ { rc with state := .busy } with state := if (none : Option Code).isNone then .ready else .done, pending := none } : Loop) = rc := by
  cases rc
  simp_all
theorem InRound.leave {w : World} {B4 D : Nat} {rc : Loop} {pre : List S24} {v v' : Value} {s : Nat} {x : S24} {Ba Bb : Nat} {W1 X w1 : World} {tmp : Obj} (h : InRound w B4 D rc pre v s x Ba Bb W1 X) (h1 : rc.state = .ready) (h2 : rc.pending = none) (hD : w.heap.size ≤ D) (hA : Ba < D) (hB : Bb < D) (h4 : B4 < D) (h40 : w.heap.size ≤ B4) (n1 : B4 ≠ Ba) (n2 : B4 ≠ Bb)
    (hown : w1.ownsRow D 24 3 v' (pre.length + 1) (cellsOf pre ++ [.int .i64 x.f0, .int .i64 x.f1, .int .i64 x.f2])) (hgrow : (X.alloc tmp).grownBy w1 v.ownBlock) :
    Boxed w1 B4 22 v ∧ (w1.setCell ⟨B4, 0, none⟩ v').heap[D + 1]? = some (.loop { rc with state := .busy }) ∧
    MInv w B4 D rc (pre ++ [x]) ((w1.setCell ⟨B4, 0, none⟩ v').putObj (D + 1) (.loop { { rc with state := .busy } with state := if (none : Option Code).isNone then .ready else .done, pending := none })) ∧
    Keeps w.heap.size Ba Bb W1 ((w1.setCell ⟨B4, 0, none⟩ v').putObj (D + 1) (.loop { { rc with state := .busy } with state := if (none : Option Code).isNone then .ready else .done, pending := none })) := by
  have far : ∀ (i : Nat) (o : Obj), X.heap[i]? = some o → v.ownBlock ≠ some i → i ≠ B4 → (w1.setCell ⟨B4, 0, none⟩ v').heap[i]? = some o := fun i o hi hne hb =>
    (Below.heap_setCell _ _ _ i hb).trans ((hgrow.block i (by have := blk_lt hi; simp; omega) (fun e => hne e.symm)).trans (blk_alloc hi tmp))
  have low_ne : ∀ i, i < D → v.ownBlock ≠ some i := fun i hi e => by
    have := own_base h.row _ e
    omega
  have hv1 : Boxed w1 B4 22 v := (hgrow.block B4 (by have := h.box.lt; simp; omega) (fun e => low_ne _ h4 e.symm)).trans (h.box.alloc tmp)
  have hrec := far _ _ h.record (own_ne_obj h.row h.record rfl) (by omega)
  have hdfr := far _ _ h.dfr (own_ne_obj h.row h.dfr rfl) (by omega)
  rw [rec_back rc h1 h2]
  have hg2 := grownBy_putObj' (w1.setCell ⟨B4, 0, none⟩ v') (D + 1) (.loop rc)
  have hown2 := hown.kept (grownBy_setCell' w1 B4 v') (own_ne_low hown h4)
  have hXs := h.low1.size
  have hlow : Below w.heap.size X ((w1.setCell ⟨B4, 0, none⟩ v').putObj (D + 1) (.loop rc)) := by
    refine ((((Below.refl _ X).alloc h.low.size tmp).grown hgrow (by have := h.low.size; simp; omega) (fun k e => ?_)).setCell (p := ⟨B4, 0, none⟩) h40 v').grown hg2 ?_ (fun k e => by cases e; omega)
    · have := own_base h.row _ e
      omega
    · have a1 := hgrow.size
      have a2 := h.low.size
      have a3 := (grownBy_setCell' w1 B4 v').size
      simp at a1
      omega
  refine ⟨hv1, hrec, ⟨h.low.trans hlow, ⟨v', (hv1.set v').kept hg2 (fun e => ?_), ?_⟩, World.putObj_heap_same (blk_lt hrec), (World.putObj_heap_other (by omega)).trans hdfr⟩, ⟨h.low1.trans hlow, ?_, ?_⟩⟩
  · have : B4 = D + 1 := by simpa using e
    omega
  · rw [cellsOf_snoc, List.length_append]
    exact hown2.kept hg2 (.inr (own_ne_obj hown2 hrec rfl))
  · refine (World.putObj_heap_other (by omega)).trans ?_
    cases hx : X.heap[Ba]? with
    | none =>
      rw [h.boxA] at hx
      have : X.heap.size ≤ Ba := by rw [← h.boxA] at hx; exact Array.getElem?_eq_none_iff.1 hx
      have := blk_lt h.dfr
      omega
    | some o => rw [far _ _ hx (low_ne _ hA) (fun e => n1 e.symm), ← h.boxA, hx]
  · refine (World.putObj_heap_other (by omega)).trans ?_
    cases hx : X.heap[Bb]? with
    | none =>
      rw [h.boxB] at hx
      have : X.heap.size ≤ Bb := by rw [← h.boxB] at hx; exact Array.getElem?_eq_none_iff.1 hx
      have := blk_lt h.dfr
      omega
    | some o => rw [far _ _ hx (low_ne _ hB) (fun e => n2 e.symm), ← h.boxB, hx]
theorem cell_three_new (w : World) (a b c : Value) (t : TypeId) : ∀ j u, [a, b, c][j]? = some u → (w.alloc (.cells #[a, b, c] t)).cell? ((⟨w.heap.size, 0, none⟩ : Addr).add j) = some u := by
  intro j u hj
  rw [add_plain, blk_cell (blk_new w _)]
  have hlt : j < 3 := (List.getElem?_eq_some_iff.1 hj).1
  have : j = 0 ∨ j = 1 ∨ j = 2 := by omega
  rcases this with rfl | rfl | rfl <;> exact hj
theorem results_12 (tmps : Array Value) (x : Value) (w : World) (B : Nat) (A : Option Addr) (m n : Nat) (h4 : tmps.getD 4 undef = .pointer (some ⟨B, 0, none⟩)) (h5 : tmps.getD 5 undef = x) (hc : w.cell? ⟨B, 0, none⟩ = some (.slice A m n)) :
    (results Try.f12 tmps).run Try.prog w = .ok (.tuple #[.slice A m n, x]) w := by
  have h4' : tmps[4]?.getD undef = .pointer (some ⟨B, 0, none⟩) := by simpa using h4
  have h5' : tmps[5]?.getD undef = x := by simpa using h5
  simp [results, loadVar, asAddr, go_sem, h4', h5', hc]
theorem cells_reps (w : World) (base : Nat) (ok : Nat → Prop) : ∀ l : List S24, Reps (k24.M w base ok) 3 l (cellsOf l)
  | [] => Reps.none _ _
  | x :: l => Reps.front (c := [.int .i64 x.f0, .int .i64 x.f1, .int .i64 x.f2]) (k24_mkM w base ok x) rfl (cells_reps w base ok l) (by simp [cellsOf])
theorem own_slice {w : World} {base : Nat} {e : TypeId} {size n : Nat} {v : Value} {xs : List Value} (h : w.ownsRow base e size v n xs) : ∃ A m c, v = .slice A m c := by
  rcases h.2 with ⟨rfl, _⟩ | ⟨g, cap, cur, rfl, _⟩
  · exact ⟨_, _, _, rfl⟩
  · exact ⟨_, _, _, rfl⟩
theorem cells3 {w : World} {s : Nat} {a b c : Value} {t : TypeId} (h : w.heap[s]? = some (.cells #[a, b, c] t (0, 0))) : w.cell? ⟨s, 0, none⟩ = some a ∧ w.cell? ⟨s, 1, none⟩ = some b ∧ w.cell? ⟨s, 2, none⟩ = some c :=
  ⟨by rw [blk_cell h]; rfl, by rw [blk_cell h]; rfl, by rw [blk_cell h]; rfl⟩
set_option maxHeartbeats 1000000 in
theorem merge_ok (A0 : Option Addr) (c0 : Nat) (l0 : List S24) (A1 : Option Addr) (c1 : Nat) (l1 : List S24) (k : Nat) (w : World) (hr0 : Kd.C k24 w A0 l0.length l0) (hc0 : l0.length ≤ c0) (hr1 : Kd.C k24 w A1 l1.length l1) (hc1 : l1.length ≤ c1)
    (hv0 : stamps_valid.f k l0 = some true) (hv1 : stamps_valid.f k l1 = some true) (hlen : (mergeL l0 l1).length ≤ 2000) :
    Calls Try.prog 12 #[.slice A0 l0.length c0, .slice A1 l1.length c1] w fun e w' => ∃ v, e = .returned (.tuple #[v, .int .i64 0]) ∧ Kd.R k24 24 w' w.heap.size (fun _ => True) v (mergeL l0 l1) ∧ Below w.heap.size w w' := by
  have hu22 := Try.underlying22
  have hu24 := Try.underlying24
  obtain ⟨i0, hi, hz0, hz1, hz2⟩ := info_parts info24
  have HR0 := Aside0.mk hr0
  have HR1 := Aside0.mk hr1
  have HC0 := Aside0.mk hc0
  have HC1 := Aside0.mk hc1
  have HV0 := Aside0.mk hv0
  have HV1 := Aside0.mk hv1
  have HN := Aside0.mk hlen
  clear hr0 hr1 hc0 hc1 hv0 hv1 hlen
  refine (callsIn_wide (n := 9)).1 ?_
  refine callsIn_of_wp_marks Try.func12 rfl trivial ?_ rfl
  refine wpIn_wide.2 ?_
  simp only [Try.ntmps12, List.size_toArray, List.length_cons, List.length_nil, Nat.reduceAdd, Nat.reduceSub, Array.replicate_succ, Array.replicate_zero, List.push_toArray, List.append_toArray, List.nil_append, List.cons_append]
  go_wp2_with fail
  refine (stamps_valid.calls k _ _ l0 true _ (Kd.C_below HR0.out (below_one _)) HC0.out HV0.out).mono ?_
  rintro e w1 ⟨rfl, hb1⟩
  have B1 := Aside0.mk hb1
  clear hb1
  go_wp2_with fail
  refine (stamps_valid.calls k _ _ l1 true _ (Kd.C_below (Kd.C_below HR1.out (below_one _)) B1.out) HC1.out HV1.out).mono ?_
  rintro e w2 ⟨rfl, hb2⟩
  have B2 := Aside0.mk hb2
  clear hb2
  go_wp2_with fail
  refine (both_any (.slice none 0 0) (.slice none 0 0) _ _ _ _ _ _ _).mono ?_
  rintro e w3 ⟨rfl, rfl⟩
  go_wp2_with fail
  have hO : Boxed ((w2.alloc (.cells #[.slice A0 l0.length c0] 22)).alloc (.cells #[.slice A1 l1.length c1] 22)) w.heap.size 22 (.slice none 0 0) :=
    blk_alloc (blk_alloc (blk_below (blk_below (blk_new w _) B1.out) B2.out) _) _
  have hA : Boxed ((w2.alloc (.cells #[.slice A0 l0.length c0] 22)).alloc (.cells #[.slice A1 l1.length c1] 22)) w2.heap.size 22 (.slice A0 l0.length c0) := blk_alloc (blk_new w2 _) _
  have hB : Boxed ((w2.alloc (.cells #[.slice A0 l0.length c0] 22)).alloc (.cells #[.slice A1 l1.length c1] 22)) (w2.heap.size + 1) 22 (.slice A1 l1.length c1) := by
    have := blk_new (w2.alloc (.cells #[.slice A0 l0.length c0] 22)) (.cells #[.slice A1 l1.length c1] 22)
    rwa [World.size_alloc] at this
  have hL : Below w.heap.size w ((w2.alloc (.cells #[.slice A0 l0.length c0] 22)).alloc (.cells #[.slice A1 l1.length c1] 22)) := below_alloc (below_alloc (below_step (below_step (below_one _) B1.out) B2.out) _) _
  have hs1 : w.heap.size < w2.heap.size := by have h1 := B1.out.size; have h2 := B2.out.size; simp at h1; omega
  have hs2 : w2.heap.size + 1 < ((w2.alloc (.cells #[.slice A0 l0.length c0] 22)).alloc (.cells #[.slice A1 l1.length c1] 22)).heap.size := by simp
  have hM : Mid w w2.heap.size (w2.heap.size + 1) (fun _ _ => True) (mergeL l0 l1) ((w2.alloc (.cells #[.slice A0 l0.length c0] 22)).alloc (.cells #[.slice A1 l1.length c1] 22)) [] l0 l1 (.slice A0 l0.length c0) (.slice A1 l1.length c1) :=
    ⟨hL, hA, hB, ⟨A0, c0, rfl, HC0.out, HR0.out⟩, ⟨A1, c1, rfl, HC1.out, HR1.out⟩, trivial, rfl⟩
  have HO := Aside0.mk hO
  have HM := Aside0.mk hM
  have HS := Aside0.mk (And.intro hs1 hs2)
  clear hO hA hB hL hs1 hs2 hM B1 B2
  generalize (w2.alloc (.cells #[.slice A0 l0.length c0] 22)).alloc (.cells #[.slice A1 l1.length c1] 22) = wL at HO HM HS ⊢
  generalize w2.heap.size = Ba at HO HM HS ⊢
  refine (wpIn_wide (n := 9)).1 ?_
  refine wpIn_rangeFunc ?_
  intro fn hfn
  refine ⟨wL.heap.size + 1, _, _, { target := .fn (.func 33) #[.pointer (some ⟨Ba, 0, none⟩), .pointer (some ⟨Ba + 1, 0, none⟩)], args := #[.func (.yield (wL.heap.size + 1)) #[] #[]] }, _, 33, #[.func (.yield (wL.heap.size + 1)) #[] #[], .pointer (some ⟨Ba, 0, none⟩), .pointer (some ⟨Ba + 1, 0, none⟩)], _, run_enterLoop_outer _ _ _ _ _, by simp [resolve, go_sem]; rfl, fun _ _ => trivial, by simp [invoke, go_sem]; rfl, fun _ => by decide, ?_⟩
  refine (both1_gives 7 _ Ba (Ba + 1) (MInv w w.heap.size wL.heap.size { state := .ready, pending := none, fn := fn, tmps := _, params := _, assign := _, body := _, defers := wL.heap.size }) w (mergeL l0 l1) _ l0 l1 _ _ (by omega) (by have := HS.out; omega) (by have := HS.out; omega) (minv_abides (by have := HS.out; omega) (by have := HS.out; omega) (by have := HS.out; omega) (by have := HS.out; omega) (by have := HS.out; omega) (by have := HS.out; omega)) (mid_enter HM.out HO.out _) ?_).mono ?_
  · rintro pre x W1 hJ hlt
    refine ⟨_, _, _, _, run_yield hJ.record rfl, roundIn_of_wpIn trivial ?_⟩
    have HJ := Aside0.mk hJ
    clear hJ
    gi_wp2
    generalize hrc : ({ state := .ready, pending := none, fn := fn, tmps := _, params := _, assign := _, body := _, defers := wL.heap.size } : Loop) = rc at HJ ⊢
    have hrs : rc.state = .ready := by rw [← hrc]
    have hrp : rc.pending = none := by rw [← hrc]
    clear hrc
    refine ⟨_, run_beginRound (blk_alloc HJ.out.record _) hrs, ?_⟩
    obtain ⟨v, hin⟩ := MInv.enter (Ba := Ba) (Bb := Ba + 1) HJ.out (by have := HS.out; omega) (by have := HS.out; omega) (by have := HS.out; omega) (by have := HS.out; omega) x
    have HI := Aside0.mk hin
    clear hin
    generalize hX : World.putObj (W1.alloc _) (wL.heap.size + 1) _ = X at HI ⊢
    clear hX
    have hcb := HI.out.box.cell
    have hcs := cells3 HI.out.blk
    obtain ⟨hcs0, hcs1, hcs2⟩ := hcs
    have hrowX := HI.out.row.alloc (.cells #[.int .i64 x.f0, .int .i64 x.f1, .int .i64 x.f2] 24 (0, 0))
    have hb1 : pre.length + 1 ≤ maxLen := by have := HN.out; simp only [maxLen]; omega
    have hb2 : (pre.length + 1) * 24 ≤ 140737488355328 := by have := HN.out; omega
    have hb3 : wL.heap.size ≤ (X.alloc (.cells #[.int .i64 x.f0, .int .i64 x.f1, .int .i64 x.f2] 24 (0, 0))).heap.size := by have := blk_lt HI.out.dfr; simp; omega
    have hcells := cell_three_new X (.int .i64 x.f0) (.int .i64 x.f1) (.int .i64 x.f2) 24
    have hs0 : w.heap.size < wL.heap.size := by have := HS.out; omega
    have hs1 : Ba < wL.heap.size := by have := HS.out; omega
    have hs2 : Ba + 1 < wL.heap.size := by have := HS.out; omega
    have hs3 : w.heap.size ≠ Ba := by have := HS.out; omega
    have hs4 : w.heap.size ≠ Ba + 1 := by have := HS.out; omega
    have hid : ∀ p : Prop, Aside0 p → p := fun _ h => h.out
    gi_wp2_with (gi_at_builtin; refine hid _ ?_)
    refine Aside0.mk ?_
    refine wpListIn_append_own _ rfl (.tmp 19) (.tmp 21) 22 rfl wL.heap.size 24 i0 (.agg #[.int .i64 0, .int .i64 0, .int .i64 0]) 3 24 Try.underlying22 hi hz0 hz1 hz2 rfl (by decide) _ _ _ rfl hrowX ⟨X.heap.size, 0, none⟩ 1 1 [.int .i64 x.f0, .int .i64 x.f1, .int .i64 x.f2] (by rfl) rfl hcells (by simp [Value.oneCell']) hb1 hb2 hb3 ?_
    intro v' w1 hown' hgrow _
    obtain ⟨g', cap', rfl⟩ := ownsRow_succ hown'
    obtain ⟨hv1, hrec1, hm1, hk1⟩ := HI.out.leave hrs hrp (by omega) hs1 hs2 hs0 (Nat.le_refl _) hs3 hs4 hown' hgrow
    have HR := Aside0.mk hrec1
    have HM1 := Aside0.mk hm1
    have HK1 := Aside0.mk hk1
    clear hrec1 hm1 hk1 hown' hgrow
    have hc1 := hv1.cell
    have hf1 := hv1.frozen
    gi_wp2
    exact ⟨_, _, run_endRound none HR.out, rfl, HM1.out, HK1.out⟩
  · rintro e W2 ⟨⟨v, rfl⟩, hJ⟩
    obtain ⟨hlow, ⟨v, hv, hrow⟩, hrec, hdfr⟩ := hJ
    have hs0 : w.heap.size < wL.heap.size := by have := HS.out; omega
    refine ⟨none, _, run_endLoop hrec (by simp), ?_⟩
    have hne := own_ne_obj hrow hrec rfl
    have hlt := blk_lt hrec
    generalize hrr : ({ state := .exhausted, pending := none, fn := fn, tmps := _, params := _, assign := _, body := _, defers := wL.heap.size } : Loop) = rr
    have hv2 : Boxed (W2.putObj (wL.heap.size + 1) (.loop rr)) w.heap.size 22 v := hv.kept (grownBy_putObj' W2 _ _) (fun e => by have h9 := Option.some.inj e; omega)
    have hrow2 := hrow.kept (grownBy_putObj' W2 (wL.heap.size + 1) (.loop rr)) (.inr hne)
    have hd2 : (W2.putObj (wL.heap.size + 1) (.loop rr)).heap[wL.heap.size]? = some (.deferred (some [])) := (World.putObj_heap_other (by omega)).trans hdfr
    have hlow2 : Below w.heap.size w (W2.putObj (wL.heap.size + 1) (.loop rr)) := hlow.grown (grownBy_putObj' W2 _ _) hlow.size (fun k e => by cases e; omega)
    clear hv hrow hdfr hlow hrec hne hlt
    generalize W2.putObj (wL.heap.size + 1) (.loop rr) = X at hv2 hrow2 hd2 hlow2 ⊢
    have HV2 := Aside0.mk hrow2
    have HD2 := Aside0.mk hd2
    have HL2 := Aside0.mk hlow2
    clear hrow2 hd2 hlow2
    have hc := hv2.cell
    have hfz := hv2.frozen
    obtain ⟨vA, vm, vc, rfl⟩ := own_slice HV2.out
    go_wp2
    have hbY := hv2.set (.slice vA vm vc)
    have hdY : (X.setCell ⟨w.heap.size, 0, none⟩ (.slice vA vm vc)).heap[wL.heap.size]? = some (.deferred (some [])) := (Below.heap_setCell _ _ _ _ (by simp; omega)).trans HD2.out
    have hrY := HV2.out.kept (grownBy_setCell' X w.heap.size (.slice vA vm vc)) (own_ne_low HV2.out hs0)
    have hlY := HL2.out.setCell (p := ⟨w.heap.size, 0, none⟩) (Nat.le_refl _) (.slice vA vm vc)
    generalize X.setCell ⟨w.heap.size, 0, none⟩ (.slice vA vm vc) = Y at hbY hdY hrY hlY ⊢
    have hltY := blk_lt hdY
    have hbZ : Boxed (Y.putObj wL.heap.size (.deferred none)) w.heap.size 22 (.slice vA vm vc) := hbY.kept (grownBy_putObj' Y _ _) (fun e => by have h9 := Option.some.inj e; omega)
    have hrZ := ownsRow_putObj hrY (.deferred none) hdY rfl
    have hlZ : Below w.heap.size w (Y.putObj wL.heap.size (.deferred none)) := hlY.grown (grownBy_putObj' Y _ _) hlY.size (fun k e => by cases e; omega)
    refine ⟨by simp, .inl ⟨_, _, rfl, run_takeDeferred hdY, ?_⟩⟩
    refine ⟨_, results_12 _ (.int .i64 0) _ _ _ _ _ rfl rfl hbZ.cell, ?_⟩
    exact ⟨_, rfl, ⟨fun _ _ => trivial, cellsOf (mergeL l0 l1), own_weaken hrZ (by omega), cells_reps _ _ _ _⟩, hlZ⟩
set_option maxHeartbeats 1000000 in
theorem merge_bad0 (A0 : Option Addr) (c0 : Nat) (l0 : List S24) (A1 : Option Addr) (c1 : Nat) (l1 : List S24) (k : Nat) (w : World) (hr0 : Kd.C k24 w A0 l0.length l0) (hc0 : l0.length ≤ c0)
    (hv0 : stamps_valid.f k l0 = some false) :
    Calls Try.prog 12 #[.slice A0 l0.length c0, .slice A1 l1.length c1] w fun e w' => ∃ v, e = .returned (.tuple #[v, .int .i64 80]) ∧ Kd.R k24 24 w' w.heap.size (fun _ => True) v [] ∧ Below w.heap.size w w' := by
  have hu22 := Try.underlying22
  have hu24 := Try.underlying24
  have HR0 := Aside0.mk hr0
  have HC0 := Aside0.mk hc0
  have HV0 := Aside0.mk hv0
  clear hr0 hc0 hv0
  refine (callsIn_wide (n := 9)).1 ?_
  refine callsIn_of_wp_marks Try.func12 rfl trivial ?_ rfl
  refine wpIn_wide.2 ?_
  simp only [Try.ntmps12, List.size_toArray, List.length_cons, List.length_nil, Nat.reduceAdd, Nat.reduceSub, Array.replicate_succ, Array.replicate_zero, List.push_toArray, List.append_toArray, List.nil_append, List.cons_append]
  go_wp2_with fail
  refine (stamps_valid.calls k _ _ l0 false _ (Kd.C_below HR0.out (below_one _)) HC0.out HV0.out).mono ?_
  rintro e w1 ⟨rfl, hb1⟩
  have hbox : Boxed w1 w.heap.size 22 (.slice none 0 0) := blk_below (blk_new w _) hb1
  have hlow := below_step (below_one (w := w) (.cells #[.slice none 0 0] 22)) hb1
  have hc := hbox.cell
  have hfz := hbox.frozen
  go_wp2
  have hbY := hbox.set (.slice none 0 0)
  refine ⟨_, results_12 _ (.int .i64 80) _ _ _ _ _ rfl rfl hbY.cell, ?_⟩
  exact ⟨_, rfl, Kd.R_nil _ _ _ _ _, hlow.setCell (p := ⟨w.heap.size, 0, none⟩) (Nat.le_refl _) _⟩
set_option maxHeartbeats 1000000 in
theorem merge_bad1 (A0 : Option Addr) (c0 : Nat) (l0 : List S24) (A1 : Option Addr) (c1 : Nat) (l1 : List S24) (k : Nat) (w : World) (hr0 : Kd.C k24 w A0 l0.length l0) (hc0 : l0.length ≤ c0) (hr1 : Kd.C k24 w A1 l1.length l1) (hc1 : l1.length ≤ c1)
    (hv0 : stamps_valid.f k l0 = some true) (hv1 : stamps_valid.f k l1 = some false) :
    Calls Try.prog 12 #[.slice A0 l0.length c0, .slice A1 l1.length c1] w fun e w' => ∃ v, e = .returned (.tuple #[v, .int .i64 80]) ∧ Kd.R k24 24 w' w.heap.size (fun _ => True) v [] ∧ Below w.heap.size w w' := by
  have hu22 := Try.underlying22
  have hu24 := Try.underlying24
  have HR0 := Aside0.mk hr0
  have HC0 := Aside0.mk hc0
  have HV0 := Aside0.mk hv0
  have HR1 := Aside0.mk hr1
  have HC1 := Aside0.mk hc1
  have HV1 := Aside0.mk hv1
  clear hr0 hc0 hv0 hr1 hc1 hv1
  refine (callsIn_wide (n := 9)).1 ?_
  refine callsIn_of_wp_marks Try.func12 rfl trivial ?_ rfl
  refine wpIn_wide.2 ?_
  simp only [Try.ntmps12, List.size_toArray, List.length_cons, List.length_nil, Nat.reduceAdd, Nat.reduceSub, Array.replicate_succ, Array.replicate_zero, List.push_toArray, List.append_toArray, List.nil_append, List.cons_append]
  go_wp2_with fail
  refine (stamps_valid.calls k _ _ l0 true _ (Kd.C_below HR0.out (below_one _)) HC0.out HV0.out).mono ?_
  rintro e w1 ⟨rfl, hb1⟩
  have B1 := Aside0.mk hb1
  clear hb1
  go_wp2_with fail
  refine (stamps_valid.calls k _ _ l1 false _ (Kd.C_below (Kd.C_below HR1.out (below_one _)) B1.out) HC1.out HV1.out).mono ?_
  rintro e w2 ⟨rfl, hb2⟩
  have hbox : Boxed w2 w.heap.size 22 (.slice none 0 0) := blk_below (blk_below (blk_new w _) B1.out) hb2
  have hlow := below_step (below_step (below_one (w := w) (.cells #[.slice none 0 0] 22)) B1.out) hb2
  have hc := hbox.cell
  have hfz := hbox.frozen
  go_wp2
  have hbY := hbox.set (.slice none 0 0)
  refine ⟨_, results_12 _ (.int .i64 80) _ _ _ _ _ rfl rfl hbY.cell, ?_⟩
  exact ⟨_, rfl, Kd.R_nil _ _ _ _ _, hlow.setCell (p := ⟨w.heap.size, 0, none⟩) (Nat.le_refl _) _⟩
theorem mergeL_len : ∀ (l0 l1 : List S24), (mergeL l0 l1).length ≤ l0.length + l1.length := by
  intro l0 l1
  induction l0, l1 using mergeL.induct with
  | case1 ys => simp [mergeL]
  | case2 x xs => simp [mergeL]
  | case3 x xs y ys h ih => rw [mergeL, if_pos h]; simp only [List.length_cons] at *; omega
  | case4 x xs y ys h h2 ih => rw [mergeL, if_neg h, if_pos h2]; simp only [List.length_cons] at *; omega
  | case5 x xs y ys h h2 ih => rw [mergeL, if_neg h, if_neg h2]; simp only [List.length_cons] at *; omega
/-- What Merge answers with: the merged list where both lists are valid; else nothing and the fault 80. -/
def stamps_Merge.f (l0 l1 : List S24) : Option (List S24 × Int) :=
  if l0.length ≤ 1000 ∧ l1.length ≤ 1000 then
    match stamps_valid.f 5000 l0 with
    | some true => match stamps_valid.f 5000 l1 with
      | some true => some (mergeL l0 l1, 0)
      | some false => some ([], 80)
      | none => none
    | some false => some ([], 80)
    | none => none
  else none
theorem stamps_Merge.calls (A0 : Option Addr) (c0 : Nat) (l0 : List S24) (A1 : Option Addr) (c1 : Nat) (l1 : List S24) (r1 : List S24) (r2 : Int) (w : World) (hr0 : Kd.C k24 w A0 l0.length l0) (hc0 : l0.length ≤ c0) (hr1 : Kd.C k24 w A1 l1.length l1) (hc1 : l1.length ≤ c1) (h : stamps_Merge.f l0 l1 = some (r1, r2)) :
    Calls Try.prog 12 #[.slice A0 l0.length c0, .slice A1 l1.length c1] w fun e w' => ∃ v0_ : Value, e = .returned (.tuple #[v0_, .int .i64 r2]) ∧ Kd.R k24 24 w' w.heap.size (fun _ => True) v0_ r1 ∧ Below w.heap.size w w' := by
  unfold stamps_Merge.f at h
  split at h
  · rename_i hlen
    have hm := mergeL_len l0 l1
    split at h
    · rename_i h0
      split at h
      · rename_i h1
        obtain ⟨rfl, rfl⟩ : mergeL l0 l1 = r1 ∧ (0 : Int) = r2 := by simpa using h
        exact merge_ok A0 c0 l0 A1 c1 l1 5000 w hr0 hc0 hr1 hc1 h0 h1 (by omega)
      · rename_i h1
        obtain ⟨rfl, rfl⟩ : ([] : List S24) = r1 ∧ (80 : Int) = r2 := by simpa using h
        exact merge_bad1 A0 c0 l0 A1 c1 l1 5000 w hr0 hc0 hr1 hc1 h0 h1
      · cases h
    · rename_i h0
      obtain ⟨rfl, rfl⟩ : ([] : List S24) = r1 ∧ (80 : Int) = r2 := by simpa using h
      exact merge_bad0 A0 c0 l0 A1 c1 l1 5000 w hr0 hc0 h0
    · cases h
  · cases h
end Go.Proofs.Ytmenajpeendnoaa.Print
