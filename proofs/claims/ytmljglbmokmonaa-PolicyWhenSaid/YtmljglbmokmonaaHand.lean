/-
  Contracts, proved by hand, of the functions policy.Check, policy.action and policy.Worse (and of what they call: first, the closures, the table of conditions): each call returns what the Lean function of its name tells of the clauses and numbers that it is given.
  Conditions: the slice's cells read as a list of clauses; for policy.action, the clauses are valid and the term lies between 0 and 1023.
-/
import Derived.Test.YtmljglbmokmonaaPrint0
import Derived.Deep.QuietTactic
import Derived.BigQuiet
import Derived.Laws.EntriesVeiled
import Derived.Maps.OwnOps
import Derived.Maps.OwnSet
namespace Go.Proofs.Ytmljglbmokmonaa.Print
open Go.RowKit Go.Maps Go.Proofs.YtmljglbmokmonaaW.PrintWords Go.Proofs.YtmljglbmokmonaaW.PrintLast Go.Proofs.YtmljglbmokmonaaW.PrintMore
def okCl (x : S35) : Bool := decide (1 ≤ x.f0 ∧ x.f0 ≤ 5 ∧ 0 ≤ x.f1 ∧ x.f1 ≤ 2 ∧ 1 ≤ x.f2 ∧ x.f2 ≤ 3 ∧ 0 ≤ x.f3 ∧ x.f3 ≤ 12)
theorem below_one {w : World} (o : Obj) : Below w.heap.size w (w.alloc o) := (Below.refl _ _).alloc (Nat.le_refl _) _
theorem ret_bool {a b : Bool} (h : a = b) : Ending.returned (.bool a) = .returned (.bool b) := by rw [h]
theorem check1_any (a b c d : Int) (w : World) :
    Calls Try.prog 26 #[.agg #[.int .i64 a, .int .i64 b, .int .i64 c, .int .i64 d]] w fun e w' => e = .returned (.bool (!okCl ⟨a, b, c, d⟩)) ∧ Below w.heap.size w w' := by
  have hu35 := Try.underlying35
  by_cases h0 : a < 1
  · go_enter Try.func26, Try.ntmps26
    go_wp2
    go_ret
    exact ⟨ret_bool (by simp [okCl]; omega), below_one _⟩
  · replace h0 := Int.not_lt.1 h0
    by_cases h1 : 5 < a
    · go_enter Try.func26, Try.ntmps26
      go_wp2
      go_ret
      exact ⟨ret_bool (by simp [okCl]; omega), below_one _⟩
    · replace h1 := Int.not_lt.1 h1
      by_cases h2 : b < 0
      · go_enter Try.func26, Try.ntmps26
        go_wp2
        go_ret
        exact ⟨ret_bool (by simp [okCl]; omega), below_one _⟩
      · replace h2 := Int.not_lt.1 h2
        by_cases h3 : 2 < b
        · go_enter Try.func26, Try.ntmps26
          go_wp2
          go_ret
          exact ⟨ret_bool (by simp [okCl]; omega), below_one _⟩
        · replace h3 := Int.not_lt.1 h3
          by_cases h4 : c < 1
          · go_enter Try.func26, Try.ntmps26
            go_wp2
            go_ret
            exact ⟨ret_bool (by simp [okCl]; omega), below_one _⟩
          · replace h4 := Int.not_lt.1 h4
            by_cases h5 : 3 < c
            · go_enter Try.func26, Try.ntmps26
              go_wp2
              go_ret
              exact ⟨ret_bool (by simp [okCl]; omega), below_one _⟩
            · replace h5 := Int.not_lt.1 h5
              by_cases h6 : d < 0
              · go_enter Try.func26, Try.ntmps26
                go_wp2
                go_ret
                exact ⟨ret_bool (by simp [okCl]; omega), below_one _⟩
              · replace h6 := Int.not_lt.1 h6
                by_cases h7 : 12 < d
                · go_enter Try.func26, Try.ntmps26
                  go_wp2
                  go_ret
                  exact ⟨ret_bool (by simp [okCl]; omega), below_one _⟩
                · replace h7 := Int.not_lt.1 h7
                  go_enter Try.func26, Try.ntmps26
                  go_wp2
                  go_ret
                  exact ⟨ret_bool (by rw [Bool.eq_iff_iff]; simp [okCl]; omega), below_one _⟩

def aggCl (x : S35) : Value := .agg #[.int .i64 x.f0, .int .i64 x.f1, .int .i64 x.f2, .int .i64 x.f3]
def blkCl (x : S35) : Obj := .cells #[.int .i64 x.f0, .int .i64 x.f1, .int .i64 x.f2, .int .i64 x.f3] 35 (0, 0)
def FirstPost (p : S35 → Bool) (l : List S35) (w : World) (e : Ending) (w' : World) : Prop := (∃ x, e = .returned (.tuple #[.agg #[.int .i64 x.f0, .int .i64 x.f1, .int .i64 x.f2, .int .i64 x.f3], .bool (l.any p)]) ∧ (∀ c, l.find? p = some c → x = c)) ∧ Below w.heap.size w w'
def NoneYet (p : S35 → Bool) (l : List S35) (k : Nat) : Prop := ∀ j x, j < k → l[j]? = some x → p x = false
theorem put4 {w : World} {g : Nat} {t : TypeId} {x0 x1 x2 x3 : Value} (h : w.heap[g]? = some (.cells #[x0, x1, x2, x3] t (0, 0))) {a b c d : Value} :
    ((((w.setCell ⟨g, 0, none⟩ a).setCell ⟨g, 1, none⟩ b).setCell ⟨g, 2, none⟩ c).setCell ⟨g, 3, none⟩ d).heap[g]? = some (.cells #[a, b, c, d] t (0, 0)) := by
  refine blk_put (cs := #[a, b, c, x3]) ?_ 3 _ rfl
  refine blk_put (cs := #[a, b, x2, x3]) ?_ 2 _ rfl
  refine blk_put (cs := #[a, x1, x2, x3]) ?_ 1 _ rfl
  exact blk_put h 0 _ rfl
theorem below4 {w W : World} (h : Below w.heap.size w W) {a b c d : Value} :
    Below w.heap.size w ((((W.setCell ⟨w.heap.size, 0, none⟩ a).setCell ⟨w.heap.size, 1, none⟩ b).setCell ⟨w.heap.size, 2, none⟩ c).setCell ⟨w.heap.size, 3, none⟩ d) :=
  below_set (below_set (below_set (below_set h (Nat.le_refl _)) (Nat.le_refl _)) (Nat.le_refl _)) (Nat.le_refl _)
theorem none_next {p : S35 → Bool} {l : List S35} {k : Nat} {x : S35} (h : NoneYet p l k) (hx : l[k]? = some x) (hp : p x = false) : NoneYet p l (k + 1) := by
  intro j y hj hy
  by_cases e : j = k
  · subst e; rw [hx] at hy; cases hy; exact hp
  · exact h j y (by omega) hy
theorem find_at {p : S35 → Bool} {l : List S35} {k : Nat} {x : S35} (h : NoneYet p l k) (hx : l[k]? = some x) (hp : p x = true) : l.find? p = some x ∧ l.any p = true := by
  constructor
  · rw [List.find?_eq_some_iff_getElem]
    obtain ⟨hk, e⟩ := List.getElem?_eq_some_iff.1 hx
    exact ⟨hp, k, hk, e, fun j hj => by simp [h j _ hj (List.getElem?_eq_getElem (by omega))]⟩
  · exact List.any_eq_true.2 ⟨x, List.mem_of_getElem? hx, hp⟩
theorem find_none {p : S35 → Bool} {l : List S35} (h : NoneYet p l l.length) : l.find? p = none ∧ l.any p = false := by
  have hn : ∀ x ∈ l, p x = false := fun x hx => by
    obtain ⟨j, hj, e⟩ := List.mem_iff_getElem.1 hx
    exact h j x hj (by rw [← e]; exact List.getElem?_eq_getElem hj)
  exact ⟨List.find?_eq_none.2 fun x hx => by simp [hn x hx], List.any_eq_false.2 fun x hx => by simp [hn x hx]⟩
theorem check1_yes (a b c d : Int) (w : World) (h : okCl ⟨a, b, c, d⟩ = true) :
    Calls Try.prog 26 #[.agg #[.int .i64 a, .int .i64 b, .int .i64 c, .int .i64 d]] w fun e w' => e = .returned (.bool false) ∧ Below w.heap.size w w' := by
  have := check1_any a b c d w
  rwa [h] at this
theorem check1_no (a b c d : Int) (w : World) (h : okCl ⟨a, b, c, d⟩ = false) :
    Calls Try.prog 26 #[.agg #[.int .i64 a, .int .i64 b, .int .i64 c, .int .i64 d]] w fun e w' => e = .returned (.bool true) ∧ Below w.heap.size w w' := by
  have := check1_any a b c d w
  rwa [h] at this
set_option maxHeartbeats 400000 in
theorem first_check (A0 : Option Addr) (c0 : Nat) (l : List (S35)) (w : World) (hr : Kd.C k35 w A0 l.length l) :
    Calls Try.prog 25 #[.slice A0 l.length c0, .func (.func 26) #[] #[]] w (FirstPost (fun x => !okCl x) l w) := by
  have hm := hr.2.1
  have HR := Aside0.mk hr
  clear hr
  have hu35 := Try.underlying35
  have hu22 := Try.underlying22
  go_enter Try.func25, Try.ntmps25
  go_wp2
  go_loopw [10] (fun v10 wr => ∃ k : Nat, k ≤ l.length ∧ v10 = .int .i64 k ∧ Aside0 (NoneYet (fun x => !okCl x) l k) ∧ Aside0 (wr.heap[w.heap.size]? = some (blkCl z35)) ∧ Aside0 (Below w.heap.size w wr)) (fun v10 _ => l.length - (intOf v10).toNat)
  case atStart => exact ⟨0, Nat.zero_le _, rfl, ⟨fun j x h => absurd h (by omega)⟩, ⟨blk_new w _⟩, ⟨below_one _⟩⟩
  case round =>
    obtain ⟨k, hk, rfl, HN, HZ, HB⟩ := hrel
    by_cases hlt : k < l.length
    · obtain ⟨ad, e, h0, h1, h2, h3⟩ := at_T35 (Kd.C_below HR.out HB.out) (k : Int) (by omega) (by omega)
      cases e
      simp only [Int.toNat_natCast] at h0 h1 h2 h3
      have hx : l[k]? = some (rd_T35 l (k : Int)) := by simp [rd_T35, List.getD_eq_getElem?_getD, List.getElem?_eq_getElem hlt]
      generalize rd_T35 l (k : Int) = x at h0 h1 h2 h3 hx
      have HX := Aside0.mk hx
      clear hx
      obtain ⟨a, b, c, d⟩ := x
      simp only at h0 h1 h2 h3
      by_cases hp : okCl ⟨a, b, c, d⟩ = true
      · have HP := Aside0.mk hp
        clear hp
        go_wp2_with (go_at_call 26; refine (check1_yes _ _ _ _ _ HP.out).mono ?_; rintro e w1 ⟨rfl, hb⟩)
        go_roundw
        case rel => exact ⟨k + 1, by omega, by go_num, ⟨none_next HN.out HX.out (by simp [HP.out])⟩, ⟨blk_below (blk_alloc HZ.out _) hb⟩, ⟨below_step (below_alloc HB.out _) hb⟩⟩
        case measure => simp [intOf]; omega
      · have HP := Aside0.mk (Bool.eq_false_iff.2 hp)
        clear hp
        go_wp2_with (go_at_call 26; refine (check1_no _ _ _ _ _ HP.out).mono ?_; rintro e w1 ⟨rfl, hb⟩; have B4 := Aside0.mk (blk_below (blk_alloc HZ.out _) hb); have B7 := Aside0.mk (blk_below (blk_new wr _) hb); clear HZ; have g0 : w1.cell? ⟨wr.heap.size, 0, none⟩ = some (.int .i64 a) := (blk_cell B7.out 0).trans rfl; have g1 : w1.cell? ⟨wr.heap.size, 1, none⟩ = some (.int .i64 b) := (blk_cell B7.out 1).trans rfl; have g2 : w1.cell? ⟨wr.heap.size, 2, none⟩ = some (.int .i64 c) := (blk_cell B7.out 2).trans rfl; have g3 : w1.cell? ⟨wr.heap.size, 3, none⟩ = some (.int .i64 d) := (blk_cell B7.out 3).trans rfl; have z0 : w1.cell? ⟨w.heap.size, 0, none⟩ = some (.int .i64 0) := (blk_cell B4.out 0).trans rfl; have z1 : w1.cell? ⟨w.heap.size, 1, none⟩ = some (.int .i64 0) := (blk_cell B4.out 1).trans rfl; have z2 : w1.cell? ⟨w.heap.size, 2, none⟩ = some (.int .i64 0) := (blk_cell B4.out 2).trans rfl; have z3 : w1.cell? ⟨w.heap.size, 3, none⟩ = some (.int .i64 0) := (blk_cell B4.out 3).trans rfl; have y0 := blk_frozen B4.out 0; have y1 := blk_frozen B4.out 1; have y2 := blk_frozen B4.out 2; have y3 := blk_frozen B4.out 3)
        refine bodyPost_ret (results_ct rfl _ _ w.heap.size 35 #[.int .i64 a, .int .i64 b, .int .i64 c, .int .i64 d] (0, 0) _ rfl (put4 B4.out) Try.underlying35 rfl (by kernel_rfl)) rfl ?_
        have hf := find_at HN.out HX.out (p := fun x => !okCl x) (by simp [HP.out])
        exact ⟨⟨⟨a, b, c, d⟩, by rw [hf.2]; rfl, fun c hc => by rw [hf.1] at hc; cases hc; rfl⟩, below4 (below_step (below_alloc HB.out _) hb)⟩
    · obtain rfl : k = l.length := by omega
      have z0 : wr.cell? ⟨w.heap.size, 0, none⟩ = some (.int .i64 0) := (blk_cell HZ.out 0).trans rfl
      have z1 : wr.cell? ⟨w.heap.size, 1, none⟩ = some (.int .i64 0) := (blk_cell HZ.out 1).trans rfl
      have z2 : wr.cell? ⟨w.heap.size, 2, none⟩ = some (.int .i64 0) := (blk_cell HZ.out 2).trans rfl
      have z3 : wr.cell? ⟨w.heap.size, 3, none⟩ = some (.int .i64 0) := (blk_cell HZ.out 3).trans rfl
      have y0 := blk_frozen HZ.out 0
      have y1 := blk_frozen HZ.out 1
      have y2 := blk_frozen HZ.out 2
      have y3 := blk_frozen HZ.out 3
      go_wp2
      refine bodyPost_ret (results_ct rfl _ _ w.heap.size 35 #[.int .i64 0, .int .i64 0, .int .i64 0, .int .i64 0] (0, 0) _ rfl (put4 HZ.out) Try.underlying35 rfl (by kernel_rfl)) rfl ?_
      have hf := find_none HN.out
      exact ⟨⟨z35, by rw [hf.2]; rfl, fun c hc => by rw [hf.1] at hc; cases hc⟩, below4 HB.out⟩
def policy_Check.f (l0 : List (S35)) : Option (Int) := some (if l0.all okCl = true then 0 else 330)
theorem any_not (l : List S35) : l.any (fun x => !okCl x) = !l.all okCl := by rw [List.not_all_eq_any_not]
theorem first_check' (A0 : Option Addr) (c0 : Nat) (l : List (S35)) (w : World) (hr : Kd.C k35 w A0 l.length l) (b : Bool) (hb : l.all okCl = b) :
    Calls Try.prog 25 #[.slice A0 l.length c0, .func (.func 26) #[] #[]] w fun e w' => (∃ x : S35, e = .returned (.tuple #[.agg #[.int .i64 x.f0, .int .i64 x.f1, .int .i64 x.f2, .int .i64 x.f3], .bool (!b)])) ∧ Below w.heap.size w w' := by
  refine (first_check A0 c0 l w hr).mono ?_
  rintro e w' ⟨⟨x, he, _⟩, hB⟩
  rw [any_not, hb] at he
  exact ⟨⟨x, he⟩, hB⟩
theorem policy_Check.calls (A0 : Option Addr) (c0 : Nat) (l0 : List (S35)) (r : Int) (w : World) (hr0 : Kd.C k35 w A0 l0.length l0) (_hc0 : l0.length ≤ c0) (h : policy_Check.f l0 = some r) :
    Calls Try.prog 14 #[.slice A0 l0.length c0] w fun e w' => e = .returned (.int .i64 r) ∧ Below w.heap.size w w' := by
  have hu35 := Try.underlying35
  have HR := Aside0.mk hr0
  clear hr0
  obtain rfl := Option.some.inj h
  cases hb : l0.all okCl with
  | true =>
    have HB := Aside0.mk hb
    clear hb h
    go_enter Try.func14, Try.ntmps14
    go_wp2_with (go_at_call 25; refine (first_check' _ _ _ _ HR.out _ HB.out).mono ?_; rintro e w1 ⟨⟨x, rfl⟩, hB⟩; have HC := Aside0.mk hB; clear hB)
    go_ret
    exact ⟨rfl, below_alloc HC.out _⟩
  | false =>
    have HB := Aside0.mk hb
    clear hb h
    go_enter Try.func14, Try.ntmps14
    go_wp2_with (go_at_call 25; refine (first_check' _ _ _ _ HR.out _ HB.out).mono ?_; rintro e w1 ⟨⟨x, rfl⟩, hB⟩; have HC := Aside0.mk hB; clear hB)
    go_ret
    exact ⟨rfl, below_alloc HC.out _⟩
def whenB (when_ before after : Int) : Bool := if when_ = 1 then decide (before < after) else if when_ = 2 then decide (after < before) else true
def actB (kind before after term now : Int) (x : S35) : Bool := decide (x.f0 = kind) && (decide (now ≤ term + x.f3) && whenB x.f1 before after)
theorem table1 (x y : Int) (w : World) : Calls Try.prog 32 #[.int .i64 x, .int .i64 y] w fun e w' => e = .returned (.bool true) ∧ w' = w := by
  go_enter Try.func32, Try.ntmps32
  go_wp2
  go_ret
  exact ⟨rfl, rfl⟩
theorem table2 (x y : Int) (w : World) : Calls Try.prog 33 #[.int .i64 x, .int .i64 y] w fun e w' => e = .returned (.bool (decide (x < y))) ∧ w' = w := by
  go_enter Try.func33, Try.ntmps33
  go_wp2
  go_ret
  exact ⟨rfl, rfl⟩
theorem table3 (x y : Int) (w : World) : Calls Try.prog 34 #[.int .i64 x, .int .i64 y] w fun e w' => e = .returned (.bool (decide (y < x))) ∧ w' = w := by
  go_enter Try.func34, Try.ntmps34
  go_wp2
  go_ret
  exact ⟨rfl, rfl⟩
def CapsAt (w : World) (gk gn gt gT gb ga : Nat) (kind now term before after : Int) : Prop :=
  w.cell? ⟨gk, 0, none⟩ = some (.int .i64 kind) ∧ w.cell? ⟨gn, 0, none⟩ = some (.int .i64 now) ∧ w.cell? ⟨gt, 0, none⟩ = some (.int .i64 term) ∧ w.cell? ⟨gb, 0, none⟩ = some (.int .i64 before) ∧ w.cell? ⟨ga, 0, none⟩ = some (.int .i64 after) ∧
  w.cell? ⟨gT, 0, none⟩ = some (.func (.func 32) #[] #[]) ∧ w.cell? ⟨gT, 1, none⟩ = some (.func (.func 33) #[] #[]) ∧ w.cell? ⟨gT, 2, none⟩ = some (.func (.func 34) #[] #[])
theorem CapsAt.below {w w1 : World} {gk gn gt gT gb ga : Nat} {kind now term before after : Int} (h : CapsAt w gk gn gt gT gb ga kind now term before after) (hb : Below w.heap.size w w1) : CapsAt w1 gk gn gt gT gb ga kind now term before after := by
  obtain ⟨h1, h2, h3, h4, h5, h6, h7, h8⟩ := h
  exact ⟨pw_cell_below hb h1, pw_cell_below hb h2, pw_cell_below hb h3, pw_cell_below hb h4, pw_cell_below hb h5, pw_cell_below hb h6, pw_cell_below hb h7, pw_cell_below hb h8⟩
set_option maxHeartbeats 400000 in
theorem act_kind (a b c d kind now term before after : Int) (gk gn gt gT gb ga : Nat) (w : World) (hC : CapsAt w gk gn gt gT gb ga kind now term before after) (hd : 0 ≤ d ∧ d ≤ 12) (ht : 0 ≤ term ∧ term ≤ 1023) (hk : ¬ a = kind) :
    Calls Try.prog 30 #[.agg #[.int .i64 a, .int .i64 b, .int .i64 c, .int .i64 d], .pointer (some ⟨gk, 0, none⟩), .pointer (some ⟨gn, 0, none⟩), .pointer (some ⟨gt, 0, none⟩), .pointer (some ⟨gT, 0, none⟩), .pointer (some ⟨gb, 0, none⟩), .pointer (some ⟨ga, 0, none⟩)] w
      fun e w' => e = .returned (.bool false) ∧ Below w.heap.size w w' := by
  have hk' : (a == kind) = false := by simpa using hk
  clear hk
  have hu35 := Try.underlying35
  have hu51 := Try.underlying51
  have hu53 := Try.underlying53
  obtain ⟨h1, h2, h3, h4, h5, h6, h7, h8⟩ := hC.below (below_one (.cells #[.int .i64 a, .int .i64 b, .int .i64 c, .int .i64 d] 35 (0, 0)))
  clear hC
  obtain ⟨d0, d1⟩ := hd
  obtain ⟨t0, t1⟩ := ht
  go_enter Try.func30, Try.ntmps30
  go_wp2
  go_quiet (fail)
  go_wp2
  go_ret
  exact ⟨rfl, by repeat (first | exact below_one _ | apply pw_below_drewN | apply below_drew1)⟩
set_option maxHeartbeats 400000 in
theorem act_late (a b c d kind now term before after : Int) (gk gn gt gT gb ga : Nat) (w : World) (hC : CapsAt w gk gn gt gT gb ga kind now term before after) (hd : 0 ≤ d ∧ d ≤ 12) (ht : 0 ≤ term ∧ term ≤ 1023) (hk : a = kind) (hn : ¬ now ≤ term + d) :
    Calls Try.prog 30 #[.agg #[.int .i64 a, .int .i64 b, .int .i64 c, .int .i64 d], .pointer (some ⟨gk, 0, none⟩), .pointer (some ⟨gn, 0, none⟩), .pointer (some ⟨gt, 0, none⟩), .pointer (some ⟨gT, 0, none⟩), .pointer (some ⟨gb, 0, none⟩), .pointer (some ⟨ga, 0, none⟩)] w
      fun e w' => e = .returned (.bool false) ∧ Below w.heap.size w w' := by
  subst hk
  have hn' : decide (now ≤ term + d) = false := by simpa using hn
  clear hn
  have hu35 := Try.underlying35
  have hu51 := Try.underlying51
  have hu53 := Try.underlying53
  obtain ⟨h1, h2, h3, h4, h5, h6, h7, h8⟩ := hC.below (below_one (.cells #[.int .i64 a, .int .i64 b, .int .i64 c, .int .i64 d] 35 (0, 0)))
  clear hC
  obtain ⟨d0, d1⟩ := hd
  obtain ⟨t0, t1⟩ := ht
  go_enter Try.func30, Try.ntmps30
  go_wp2
  go_quiet (fail)
  go_wp2
  go_ret
  exact ⟨rfl, by repeat (first | exact below_one _ | apply pw_below_drewN | apply below_drew1)⟩
set_option maxHeartbeats 400000 in
theorem act_0 (a c d kind now term before after : Int) (gk gn gt gT gb ga : Nat) (w : World) (hC : CapsAt w gk gn gt gT gb ga kind now term before after) (hd : 0 ≤ d ∧ d ≤ 12) (ht : 0 ≤ term ∧ term ≤ 1023) (hk : a = kind) (hn : now ≤ term + d) :
    Calls Try.prog 30 #[.agg #[.int .i64 a, .int .i64 0, .int .i64 c, .int .i64 d], .pointer (some ⟨gk, 0, none⟩), .pointer (some ⟨gn, 0, none⟩), .pointer (some ⟨gt, 0, none⟩), .pointer (some ⟨gT, 0, none⟩), .pointer (some ⟨gb, 0, none⟩), .pointer (some ⟨ga, 0, none⟩)] w
      fun e w' => e = .returned (.bool true) ∧ Below w.heap.size w w' := by
  subst hk
  have hu35 := Try.underlying35
  have hu51 := Try.underlying51
  have hu53 := Try.underlying53
  obtain ⟨h1, h2, h3, h4, h5, h6, h7, h8⟩ := hC.below (below_one (.cells #[.int .i64 a, .int .i64 0, .int .i64 c, .int .i64 d] 35 (0, 0)))
  clear hC
  obtain ⟨d0, d1⟩ := hd
  obtain ⟨t0, t1⟩ := ht
  go_enter Try.func30, Try.ntmps30
  go_wp2
  go_quiet ((go_at_call 32; exact Calls.quiet_of_same (table1 _ _ _)))
  go_wp2
  go_ret
  exact ⟨rfl, by repeat (first | exact below_one _ | apply pw_below_drewN | apply below_drew1)⟩
set_option maxHeartbeats 400000 in
theorem act_1 (a c d kind now term before after : Int) (gk gn gt gT gb ga : Nat) (w : World) (hC : CapsAt w gk gn gt gT gb ga kind now term before after) (hd : 0 ≤ d ∧ d ≤ 12) (ht : 0 ≤ term ∧ term ≤ 1023) (hk : a = kind) (hn : now ≤ term + d) :
    Calls Try.prog 30 #[.agg #[.int .i64 a, .int .i64 1, .int .i64 c, .int .i64 d], .pointer (some ⟨gk, 0, none⟩), .pointer (some ⟨gn, 0, none⟩), .pointer (some ⟨gt, 0, none⟩), .pointer (some ⟨gT, 0, none⟩), .pointer (some ⟨gb, 0, none⟩), .pointer (some ⟨ga, 0, none⟩)] w
      fun e w' => e = .returned (.bool (decide (before < after))) ∧ Below w.heap.size w w' := by
  subst hk
  have hu35 := Try.underlying35
  have hu51 := Try.underlying51
  have hu53 := Try.underlying53
  obtain ⟨h1, h2, h3, h4, h5, h6, h7, h8⟩ := hC.below (below_one (.cells #[.int .i64 a, .int .i64 1, .int .i64 c, .int .i64 d] 35 (0, 0)))
  clear hC
  obtain ⟨d0, d1⟩ := hd
  obtain ⟨t0, t1⟩ := ht
  go_enter Try.func30, Try.ntmps30
  go_wp2
  go_quiet ((go_at_call 33; exact Calls.quiet_of_same (table2 _ _ _)))
  go_wp2
  go_ret
  exact ⟨rfl, by repeat (first | exact below_one _ | apply pw_below_drewN | apply below_drew1)⟩
set_option maxHeartbeats 400000 in
theorem act_2 (a c d kind now term before after : Int) (gk gn gt gT gb ga : Nat) (w : World) (hC : CapsAt w gk gn gt gT gb ga kind now term before after) (hd : 0 ≤ d ∧ d ≤ 12) (ht : 0 ≤ term ∧ term ≤ 1023) (hk : a = kind) (hn : now ≤ term + d) :
    Calls Try.prog 30 #[.agg #[.int .i64 a, .int .i64 2, .int .i64 c, .int .i64 d], .pointer (some ⟨gk, 0, none⟩), .pointer (some ⟨gn, 0, none⟩), .pointer (some ⟨gt, 0, none⟩), .pointer (some ⟨gT, 0, none⟩), .pointer (some ⟨gb, 0, none⟩), .pointer (some ⟨ga, 0, none⟩)] w
      fun e w' => e = .returned (.bool (decide (after < before))) ∧ Below w.heap.size w w' := by
  subst hk
  have hu35 := Try.underlying35
  have hu51 := Try.underlying51
  have hu53 := Try.underlying53
  obtain ⟨h1, h2, h3, h4, h5, h6, h7, h8⟩ := hC.below (below_one (.cells #[.int .i64 a, .int .i64 2, .int .i64 c, .int .i64 d] 35 (0, 0)))
  clear hC
  obtain ⟨d0, d1⟩ := hd
  obtain ⟨t0, t1⟩ := ht
  go_enter Try.func30, Try.ntmps30
  go_wp2
  go_quiet ((go_at_call 34; exact Calls.quiet_of_same (table3 _ _ _)))
  go_wp2
  go_ret
  exact ⟨rfl, by repeat (first | exact below_one _ | apply pw_below_drewN | apply below_drew1)⟩
theorem act_any (x : S35) (kind now term before after : Int) (gk gn gt gT gb ga : Nat) (w : World) (hC : CapsAt w gk gn gt gT gb ga kind now term before after) (hx : okCl x = true) (ht : 0 ≤ term ∧ term ≤ 1023) :
    Calls Try.prog 30 #[.agg #[.int .i64 x.f0, .int .i64 x.f1, .int .i64 x.f2, .int .i64 x.f3], .pointer (some ⟨gk, 0, none⟩), .pointer (some ⟨gn, 0, none⟩), .pointer (some ⟨gt, 0, none⟩), .pointer (some ⟨gT, 0, none⟩), .pointer (some ⟨gb, 0, none⟩), .pointer (some ⟨ga, 0, none⟩)] w
      fun e w' => e = .returned (.bool (actB kind before after term now x)) ∧ Below w.heap.size w w' := by
  obtain ⟨a, b, c, d⟩ := x
  have hx := of_decide_eq_true hx
  simp only at hx ⊢
  by_cases hk : a = kind
  · by_cases hn : now ≤ term + d
    · have hb : b = 0 ∨ b = 1 ∨ b = 2 := by omega
      rcases hb with rfl | rfl | rfl
      · refine (act_0 a c d kind now term before after gk gn gt gT gb ga w hC ⟨by omega, by omega⟩ ht hk hn).mono ?_
        rintro e w' ⟨rfl, hb⟩
        exact ⟨ret_bool (by simp [actB, whenB, hk, hn]), hb⟩
      · refine (act_1 a c d kind now term before after gk gn gt gT gb ga w hC ⟨by omega, by omega⟩ ht hk hn).mono ?_
        rintro e w' ⟨rfl, hb⟩
        exact ⟨ret_bool (by simp [actB, whenB, hk, hn]), hb⟩
      · refine (act_2 a c d kind now term before after gk gn gt gT gb ga w hC ⟨by omega, by omega⟩ ht hk hn).mono ?_
        rintro e w' ⟨rfl, hb⟩
        exact ⟨ret_bool (by simp [actB, whenB, hk, hn]), hb⟩
    · refine (act_late a b c d kind now term before after gk gn gt gT gb ga w hC ⟨by omega, by omega⟩ ht hk hn).mono ?_
      rintro e w' ⟨rfl, hb⟩
      exact ⟨ret_bool (by simp [actB, hn]), hb⟩
  · refine (act_kind a b c d kind now term before after gk gn gt gT gb ga w hC ⟨by omega, by omega⟩ ht hk).mono ?_
    rintro e w' ⟨rfl, hb⟩
    exact ⟨ret_bool (by simp [actB, hk]), hb⟩
theorem act_no (a b c d kind now term before after : Int) (gk gn gt gT gb ga : Nat) (w : World) (hC : CapsAt w gk gn gt gT gb ga kind now term before after) (hx : okCl ⟨a, b, c, d⟩ = true) (ht : 0 ≤ term ∧ term ≤ 1023) (hp : actB kind before after term now ⟨a, b, c, d⟩ = false) :
    Calls Try.prog 30 #[.agg #[.int .i64 a, .int .i64 b, .int .i64 c, .int .i64 d], .pointer (some ⟨gk, 0, none⟩), .pointer (some ⟨gn, 0, none⟩), .pointer (some ⟨gt, 0, none⟩), .pointer (some ⟨gT, 0, none⟩), .pointer (some ⟨gb, 0, none⟩), .pointer (some ⟨ga, 0, none⟩)] w
      fun e w' => e = .returned (.bool false) ∧ Below w.heap.size w w' := by
  have := act_any ⟨a, b, c, d⟩ kind now term before after gk gn gt gT gb ga w hC hx ht
  rwa [hp] at this
theorem act_yes (a b c d kind now term before after : Int) (gk gn gt gT gb ga : Nat) (w : World) (hC : CapsAt w gk gn gt gT gb ga kind now term before after) (hx : okCl ⟨a, b, c, d⟩ = true) (ht : 0 ≤ term ∧ term ≤ 1023) (hp : actB kind before after term now ⟨a, b, c, d⟩ = true) :
    Calls Try.prog 30 #[.agg #[.int .i64 a, .int .i64 b, .int .i64 c, .int .i64 d], .pointer (some ⟨gk, 0, none⟩), .pointer (some ⟨gn, 0, none⟩), .pointer (some ⟨gt, 0, none⟩), .pointer (some ⟨gT, 0, none⟩), .pointer (some ⟨gb, 0, none⟩), .pointer (some ⟨ga, 0, none⟩)] w
      fun e w' => e = .returned (.bool true) ∧ Below w.heap.size w w' := by
  have := act_any ⟨a, b, c, d⟩ kind now term before after gk gn gt gT gb ga w hC hx ht
  rwa [hp] at this
set_option maxHeartbeats 400000 in
theorem first_act (A0 : Option Addr) (c0 : Nat) (l : List (S35)) (w : World) (hr : Kd.C k35 w A0 l.length l) (kind now term before after : Int) (gk gn gt gT gb ga : Nat) (hC : CapsAt w gk gn gt gT gb ga kind now term before after) (hl : l.all okCl = true) (ht : 0 ≤ term ∧ term ≤ 1023) :
    Calls Try.prog 25 #[.slice A0 l.length c0, .func (.func 30) #[] #[.pointer (some ⟨gk, 0, none⟩), .pointer (some ⟨gn, 0, none⟩), .pointer (some ⟨gt, 0, none⟩), .pointer (some ⟨gT, 0, none⟩), .pointer (some ⟨gb, 0, none⟩), .pointer (some ⟨ga, 0, none⟩)]] w (FirstPost (actB kind before after term now) l w) := by
  have hm := hr.2.1
  have HR := Aside0.mk hr
  clear hr
  have HC := Aside0.mk hC
  have HL := Aside0.mk hl
  have HT := Aside0.mk ht
  clear hC hl ht
  have hu35 := Try.underlying35
  have hu22 := Try.underlying22
  go_enter Try.func25, Try.ntmps25
  go_wp2
  go_loopw [10] (fun v10 wr => ∃ k : Nat, k ≤ l.length ∧ v10 = .int .i64 k ∧ Aside0 (NoneYet (actB kind before after term now) l k) ∧ Aside0 (wr.heap[w.heap.size]? = some (blkCl z35)) ∧ Aside0 (Below w.heap.size w wr)) (fun v10 _ => l.length - (intOf v10).toNat)
  case atStart => exact ⟨0, Nat.zero_le _, rfl, ⟨fun j x h => absurd h (by omega)⟩, ⟨blk_new w _⟩, ⟨below_one _⟩⟩
  case round =>
    obtain ⟨k, hk, rfl, HN, HZ, HB⟩ := hrel
    by_cases hlt : k < l.length
    · obtain ⟨ad, e, h0, h1, h2, h3⟩ := at_T35 (Kd.C_below HR.out HB.out) (k : Int) (by omega) (by omega)
      cases e
      simp only [Int.toNat_natCast] at h0 h1 h2 h3
      have hx : l[k]? = some (rd_T35 l (k : Int)) := by simp [rd_T35, List.getD_eq_getElem?_getD, List.getElem?_eq_getElem hlt]
      generalize rd_T35 l (k : Int) = x at h0 h1 h2 h3 hx
      have HX := Aside0.mk hx
      clear hx
      have HO := Aside0.mk (List.all_eq_true.1 HL.out x (List.mem_of_getElem? HX.out))
      obtain ⟨a, b, c, d⟩ := x
      simp only at h0 h1 h2 h3
      have HCW := Aside0.mk ((HC.out.below HB.out).below (below_one (w := wr) (.cells #[.int .i64 a, .int .i64 b, .int .i64 c, .int .i64 d] 35 (0, 0))))
      by_cases hp : actB kind before after term now ⟨a, b, c, d⟩ = false
      · have HP := Aside0.mk hp
        clear hp
        go_wp2_with (go_at_call 30; refine (act_no _ _ _ _ _ _ _ _ _ _ _ _ _ _ _ _ HCW.out HO.out HT.out HP.out).mono ?_; rintro e w1 ⟨rfl, hb⟩)
        go_roundw
        case rel => exact ⟨k + 1, by omega, by go_num, ⟨none_next HN.out HX.out HP.out⟩, ⟨blk_below (blk_alloc HZ.out _) hb⟩, ⟨below_step (below_alloc HB.out _) hb⟩⟩
        case measure => simp [intOf]; omega
      · have HP := Aside0.mk (Bool.not_eq_false _ ▸ hp : actB kind before after term now ⟨a, b, c, d⟩ = true)
        clear hp
        go_wp2_with (go_at_call 30; refine (act_yes _ _ _ _ _ _ _ _ _ _ _ _ _ _ _ _ HCW.out HO.out HT.out HP.out).mono ?_; rintro e w1 ⟨rfl, hb⟩; have B4 := Aside0.mk (blk_below (blk_alloc HZ.out _) hb); have B7 := Aside0.mk (blk_below (blk_new wr _) hb); clear HZ; have g0 : w1.cell? ⟨wr.heap.size, 0, none⟩ = some (.int .i64 a) := (blk_cell B7.out 0).trans rfl; have g1 : w1.cell? ⟨wr.heap.size, 1, none⟩ = some (.int .i64 b) := (blk_cell B7.out 1).trans rfl; have g2 : w1.cell? ⟨wr.heap.size, 2, none⟩ = some (.int .i64 c) := (blk_cell B7.out 2).trans rfl; have g3 : w1.cell? ⟨wr.heap.size, 3, none⟩ = some (.int .i64 d) := (blk_cell B7.out 3).trans rfl; have z0 : w1.cell? ⟨w.heap.size, 0, none⟩ = some (.int .i64 0) := (blk_cell B4.out 0).trans rfl; have z1 : w1.cell? ⟨w.heap.size, 1, none⟩ = some (.int .i64 0) := (blk_cell B4.out 1).trans rfl; have z2 : w1.cell? ⟨w.heap.size, 2, none⟩ = some (.int .i64 0) := (blk_cell B4.out 2).trans rfl; have z3 : w1.cell? ⟨w.heap.size, 3, none⟩ = some (.int .i64 0) := (blk_cell B4.out 3).trans rfl; have y0 := blk_frozen B4.out 0; have y1 := blk_frozen B4.out 1; have y2 := blk_frozen B4.out 2; have y3 := blk_frozen B4.out 3)
        refine bodyPost_ret (results_ct rfl _ _ w.heap.size 35 #[.int .i64 a, .int .i64 b, .int .i64 c, .int .i64 d] (0, 0) _ rfl (put4 B4.out) Try.underlying35 rfl (by kernel_rfl)) rfl ?_
        have hf := find_at HN.out HX.out (p := actB kind before after term now) HP.out
        exact ⟨⟨⟨a, b, c, d⟩, by rw [hf.2]; rfl, fun c hc => by rw [hf.1] at hc; cases hc; rfl⟩, below4 (below_step (below_alloc HB.out _) hb)⟩
    · obtain rfl : k = l.length := by omega
      have z0 : wr.cell? ⟨w.heap.size, 0, none⟩ = some (.int .i64 0) := (blk_cell HZ.out 0).trans rfl
      have z1 : wr.cell? ⟨w.heap.size, 1, none⟩ = some (.int .i64 0) := (blk_cell HZ.out 1).trans rfl
      have z2 : wr.cell? ⟨w.heap.size, 2, none⟩ = some (.int .i64 0) := (blk_cell HZ.out 2).trans rfl
      have z3 : wr.cell? ⟨w.heap.size, 3, none⟩ = some (.int .i64 0) := (blk_cell HZ.out 3).trans rfl
      have y0 := blk_frozen HZ.out 0
      have y1 := blk_frozen HZ.out 1
      have y2 := blk_frozen HZ.out 2
      have y3 := blk_frozen HZ.out 3
      go_wp2
      refine bodyPost_ret (results_ct rfl _ _ w.heap.size 35 #[.int .i64 0, .int .i64 0, .int .i64 0, .int .i64 0] (0, 0) _ rfl (put4 HZ.out) Try.underlying35 rfl (by kernel_rfl)) rfl ?_
      have hf := find_none HN.out
      exact ⟨⟨z35, by rw [hf.2]; rfl, fun c hc => by rw [hf.1] at hc; cases hc⟩, below4 HB.out⟩
theorem table_any (w : World) : Calls Try.prog 29 #[] w fun e w' => e = .returned (.agg #[.func (.func 32) #[] #[], .func (.func 33) #[] #[], .func (.func 34) #[] #[]]) ∧ Below w.heap.size w w' := by
  have hu51 := Try.underlying51
  have hu53 := Try.underlying53
  go_enter Try.func29, Try.ntmps29
  go_wp2
  exact bodyPost_ret (results_cell_row rfl _ _ w.heap.size 53 #[.func (.func 32) #[] #[], .func (.func 33) #[] #[], .func (.func 34) #[] #[]] (0, 0) _ rfl (blk_new _ _) Try.underlying53 rfl (by kernel_rfl)) rfl ⟨rfl, below_one _⟩
def policy_action.f (l0 : List (S35)) (a1 a2 a3 a4 a5 : Int) : Option (Int) := if l0.all okCl = true ∧ 0 ≤ a4 ∧ a4 ≤ 1023 then some (match l0.find? (actB a1 a2 a3 a4 a5) with | some c => c.f2 | none => 1) else none
theorem first_act' (A0 : Option Addr) (c0 : Nat) (l : List (S35)) (w : World) (hr : Kd.C k35 w A0 l.length l) (kind now term before after : Int) (gk gn gt gT gb ga : Nat) (hC : CapsAt w gk gn gt gT gb ga kind now term before after) (hl : l.all okCl = true) (ht : 0 ≤ term ∧ term ≤ 1023) (r : Int)
    (h : (match l.find? (actB kind before after term now) with | some c => c.f2 | none => 1) = r) :
    Calls Try.prog 25 #[.slice A0 l.length c0, .func (.func 30) #[] #[.pointer (some ⟨gk, 0, none⟩), .pointer (some ⟨gn, 0, none⟩), .pointer (some ⟨gt, 0, none⟩), .pointer (some ⟨gT, 0, none⟩), .pointer (some ⟨gb, 0, none⟩), .pointer (some ⟨ga, 0, none⟩)]] w
      fun e w' => (∃ (x : S35) (b : Bool), e = .returned (.tuple #[.agg #[.int .i64 x.f0, .int .i64 x.f1, .int .i64 x.f2, .int .i64 x.f3], .bool b]) ∧ (b = false → r = 1) ∧ (b = true → x.f2 = r)) ∧ Below w.heap.size w w' := by
  refine (first_act A0 c0 l w hr kind now term before after gk gn gt gT gb ga hC hl ht).mono ?_
  rintro e w' ⟨⟨x, he, hx⟩, hB⟩
  refine ⟨⟨x, _, he, fun hb => ?_, fun hb => ?_⟩, hB⟩
  · have : l.find? (actB kind before after term now) = none := List.find?_eq_none.2 fun y hy => by
      have := List.any_eq_false.1 hb y hy
      simpa using this
    rw [this] at h
    exact h.symm
  · obtain ⟨y, hy⟩ : ∃ y, l.find? (actB kind before after term now) = some y := by
      have := List.find?_isSome.2 (List.any_eq_true.1 hb)
      exact Option.isSome_iff_exists.1 this
    rw [hx y hy]
    rw [hy] at h
    exact h
theorem five {w w1 : World} {o0 o1 o2 o3 o4 : Obj} (hb : Below (((((w.alloc o0).alloc o1).alloc o2).alloc o3).alloc o4).heap.size (((((w.alloc o0).alloc o1).alloc o2).alloc o3).alloc o4) w1) :
    w1.heap[w.heap.size]? = some o0 ∧ w1.heap[w.heap.size + 1]? = some o1 ∧ w1.heap[w.heap.size + 2]? = some o2 ∧ w1.heap[w.heap.size + 3]? = some o3 ∧ w1.heap[w.heap.size + 4]? = some o4 := by
  refine ⟨blk_below (blk_alloc (blk_alloc (blk_alloc (blk_alloc (blk_new w _) _) _) _) _) hb, ?_, ?_, ?_, ?_⟩
  · have h := blk_new (w.alloc o0) o1
    rw [World.size_alloc] at h
    exact blk_below (blk_alloc (blk_alloc (blk_alloc h _) _) _) hb
  · have h := blk_new ((w.alloc o0).alloc o1) o2
    rw [World.size_alloc, World.size_alloc] at h
    exact blk_below (blk_alloc (blk_alloc h _) _) hb
  · have h := blk_new (((w.alloc o0).alloc o1).alloc o2) o3
    rw [World.size_alloc, World.size_alloc, World.size_alloc] at h
    exact blk_below (blk_alloc h _) hb
  · have h := blk_new ((((w.alloc o0).alloc o1).alloc o2).alloc o3) o4
    rw [World.size_alloc, World.size_alloc, World.size_alloc, World.size_alloc] at h
    exact blk_below h hb
set_option maxHeartbeats 400000 in
theorem action_core (A0 : Option Addr) (c0 : Nat) (l : List (S35)) (kind before after term now : Int) (r : Int) (w : World) (hr : Kd.C k35 w A0 l.length l) (hl : l.all okCl = true) (ht : 0 ≤ term ∧ term ≤ 1023)
    (h : (match l.find? (actB kind before after term now) with | some c => c.f2 | none => 1) = r) :
    Calls Try.prog 22 #[.slice A0 l.length c0, .int .i64 kind, .int .i64 before, .int .i64 after, .int .i64 term, .int .i64 now] w fun e w' => e = .returned (.int .i64 r) ∧ Below w.heap.size w w' := by
  have HR := Aside0.mk hr
  have HL := Aside0.mk hl
  have HT := Aside0.mk ht
  have HF := Aside0.mk h
  clear hr hl ht h
  have hu35 := Try.underlying35
  have hu53 := Try.underlying53
  go_enter Try.func22, Try.ntmps22
  go_wp2_with (go_at_call 29; refine (table_any _).mono ?_; rintro e w1 ⟨rfl, hb⟩)
  have HB1 := Aside0.mk hb
  clear hb
  obtain ⟨e0, e1, e2, e3, e4⟩ := five HB1.out
  have HB2 := Aside0.mk (below_step (below_alloc (below_alloc (below_alloc (below_alloc (below_one _) _) _) _) _) HB1.out)
  have cap : CapsAt (w1.alloc (.cells #[.func (.func 32) #[] #[], .func (.func 33) #[] #[], .func (.func 34) #[] #[]] 53 (0, 0))) w.heap.size (w.heap.size + 4) (w.heap.size + 3) w1.heap.size (w.heap.size + 1) (w.heap.size + 2) kind now term before after :=
    ⟨(blk_cell (blk_alloc e0 _) 0).trans rfl, (blk_cell (blk_alloc e4 _) 0).trans rfl, (blk_cell (blk_alloc e3 _) 0).trans rfl, (blk_cell (blk_alloc e1 _) 0).trans rfl, (blk_cell (blk_alloc e2 _) 0).trans rfl,
      (blk_cell (blk_new w1 _) 0).trans rfl, (blk_cell (blk_new w1 _) 1).trans rfl, (blk_cell (blk_new w1 _) 2).trans rfl⟩
  clear e0 e1 e2 e3 e4
  have CAP := Aside0.mk cap
  clear cap
  refine (first_act' A0 c0 l _ (Kd.C_below HR.out (below_alloc HB2.out _)) kind now term before after _ _ _ _ _ _ CAP.out HL.out HT.out r HF.out).mono ?_
  rintro e w2 ⟨⟨x, b, rfl, hf, ht⟩, hb⟩
  have HB3 := Aside0.mk (below_step (below_alloc HB2.out _) hb)
  clear hb
  cases b with
  | false =>
    obtain rfl := hf rfl
    clear hf ht
    go_wp2
    go_ret
    exact ⟨rfl, below_alloc HB3.out _⟩
  | true =>
    obtain rfl := ht rfl
    clear hf ht
    go_wp2
    go_ret
    exact ⟨rfl, below_alloc HB3.out _⟩
theorem policy_action.calls (A0 : Option Addr) (c0 : Nat) (l0 : List (S35)) (a1 a2 a3 a4 a5 : Int) (r : Int) (w : World) (hr0 : Kd.C k35 w A0 l0.length l0) (_hc0 : l0.length ≤ c0) (h : policy_action.f l0 a1 a2 a3 a4 a5 = some r) :
    Calls Try.prog 22 #[.slice A0 l0.length c0, .int .i64 a1, .int .i64 a2, .int .i64 a3, .int .i64 a4, .int .i64 a5] w fun e w' => e = .returned (.int .i64 r) ∧ Below w.heap.size w w' := by
  unfold policy_action.f at h
  split at h
  · rename_i hc
    exact action_core A0 c0 l0 a1 a2 a3 a4 a5 r w hr0 hc.1 hc.2 (Option.some.inj h)
  · cases h
theorem zero_bool (w : World) : (zeroValue 4).run Try.prog w = .ok (.bool false) w := by kernel_rfl
theorem feeMap (w : World) (a : Int) (h1 : 1 ≤ a) (h2 : a ≤ 5) : ∃ w2, (Instr.mapUpdate 49 (.map (some w.heap.size)) (.int .i64 3) (.bool true)).run Try.prog (w.alloc (.map #[] 0)) = .ok () w2 ∧
    (Instr.lookup 49 (.map (some w.heap.size)) (.int .i64 a) false).run Try.prog w2 = .ok (.bool (decide (a = 3))) w2 ∧ Below w.heap.size w w2 := by
  obtain ⟨w2, hrun, hown, hgrow⟩ := (World.ownsMap_made (H := Unit) w Try.prog 3 (plainElem Try.prog 4)).update (int_keyed Try.underlying3) Try.underlying49 (by decide : 0 < maxLen)
    (keyOf_int_mk (q := .i64) (a := 3) Try.underlying3 (by decide)) (plainElem_bool Try.underlying4 true)
  obtain ⟨v, ps, hlook, hv⟩ := hown.lookup (int_keyed Try.underlying3) Try.underlying49 (zero_bool w2) (plainElem_bool Try.underlying4 false) (keyOf_int_mk (q := .i64) (a := a) Try.underlying3 (WalkArith.wf_i64 (by omega)))
  refine ⟨w2, hrun, ?_, (below_one _).grown hgrow (by simp) (by rintro k ⟨⟩; exact Nat.le_refl _)⟩
  rw [hlook]
  have e : ((DataW.map (H := Unit) []).put (.int .i64 3) (.lit (.bool true))).atKey (.int .i64 a) (.lit (.bool false)) = .lit (.bool (decide (a = 3))) := by
    have h : a = 1 ∨ a = 2 ∨ a = 3 ∨ a = 4 ∨ a = 5 := by omega
    rcases h with rfl | rfl | rfl | rfl | rfl <;> rfl
  rw [e] at hv
  cases v <;> simp [plainElem, Try.underlying4] at hv
  rw [hv.1]
def cmpI (a b : Int) : Int := if a < b then -1 else if b < a then 1 else 0
def policy_Worse.f (a0 a1 a2 : Int) : Option (Int × Int) := some (if 1 ≤ a0 ∧ a0 ≤ 5 then (if a0 = 3 then cmpI a1 a2 else cmpI a2 a1, 0) else (0, 1))
theorem ret2 {k1 k2 : IntKind} {a b c d : Int} (h : a = c) (h' : b = d) : Ending.returned (.tuple #[.int k1 a, .int k2 b]) = .returned (.tuple #[.int k1 c, .int k2 d]) := by rw [h, h']
theorem policy_Worse.calls (a0 a1 a2 : Int) (r1 r2 : Int) (w : World) (h : policy_Worse.f a0 a1 a2 = some (r1, r2)) :
    Calls Try.prog 18 #[.int .i64 a0, .int .i64 a1, .int .i64 a2] w fun e w' => e = .returned (.tuple #[.int .i64 r1, .int .i64 r2]) ∧ Below w.heap.size w w' := by
  have hmm := @run_makeMap Try.prog
  have hu49 := Try.underlying49
  have h := Option.some.inj h
  by_cases h1 : a0 < 1
  · rw [if_neg (by omega)] at h
    cases h
    go_enter Try.func18, Try.ntmps18
    go_wp2
    go_ret2
    exact ⟨rfl, Below.refl _ _⟩
  by_cases h2 : 5 < a0
  · rw [if_neg (by omega)] at h
    cases h
    have hk5 : decide (a0 ≤ 5) = false := decide_eq_false (by omega)
    have hk1 : decide (1 ≤ a0) = true := decide_eq_true (by omega)
    go_enter Try.func18, Try.ntmps18
    go_wp2
    go_ret2
    exact ⟨rfl, Below.refl _ _⟩
  rw [if_pos ⟨by omega, by omega⟩] at h
  obtain ⟨w2, hrun, hlook, hb⟩ := feeMap w a0 (by omega) (by omega)
  have HB := Aside0.mk hb
  clear hb
  have hk5 : decide (a0 ≤ 5) = true := decide_eq_true (by omega)
  have hk1 : decide (1 ≤ a0) = true := decide_eq_true (by omega)
  by_cases h3 : a0 = 3
  · subst h3
    simp only [decide_true, if_true] at hlook h
    rcases Int.lt_trichotomy a1 a2 with hc | hc | hc
    · simp only [cmpI, if_pos hc] at h
      cases h
      go_enter Try.func18, Try.ntmps18
      go_wp2
      go_ret2
      exact ⟨ret2 (by simp) rfl, HB.out⟩
    · subst hc
      simp only [cmpI, Int.lt_irrefl, if_false] at h
      cases h
      go_enter Try.func18, Try.ntmps18
      go_wp2
      go_ret2
      exact ⟨ret2 (by simp) rfl, HB.out⟩
    · simp only [cmpI, if_pos hc, if_neg (show ¬ a1 < a2 by omega)] at h
      cases h
      go_enter Try.func18, Try.ntmps18
      go_wp2
      go_ret2
      exact ⟨ret2 (by simp) rfl, HB.out⟩
  · simp only [h3, decide_false, if_false] at hlook h
    have hk : decide (a0 = 3) = false := by simp [h3]
    rcases Int.lt_trichotomy a1 a2 with hc | hc | hc
    · simp only [cmpI, if_pos hc, if_neg (show ¬ a2 < a1 by omega)] at h
      cases h
      go_enter Try.func18, Try.ntmps18
      go_wp2
      go_ret2
      exact ⟨ret2 (by simp) rfl, HB.out⟩
    · subst hc
      simp only [cmpI, Int.lt_irrefl, if_false] at h
      cases h
      go_enter Try.func18, Try.ntmps18
      go_wp2
      go_ret2
      exact ⟨ret2 (by simp) rfl, HB.out⟩
    · simp only [cmpI, if_pos hc] at h
      cases h
      go_enter Try.func18, Try.ntmps18
      go_wp2
      go_ret2
      exact ⟨ret2 (by simp) rfl, HB.out⟩
end Go.Proofs.Ytmljglbmokmonaa.Print
