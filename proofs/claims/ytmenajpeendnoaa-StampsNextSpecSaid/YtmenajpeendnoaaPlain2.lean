/- What Merge's given function comes to at lists of at most 200 stamps, in plain Lean. -/
import Derived.Test.YtmenajpeendnoaaPlain
import Derived.Test.YtmenajpeendnoaaHand
namespace Go.Proofs.Ytmenajpeendnoaa.Plain
open Go.RowKit Go.Proofs.Ytmenajpeendnoaa.Print Go.Proofs.YtmenajpeendnoaaW.PrintWords Go.Proofs.YtmenajpeendnoaaW.PrintLast Go.Proofs.YtmenajpeendnoaaW.PrintMore
theorem Merge_eq (l m : List S24) (hl : l.length ≤ 200) (hm : m.length ≤ 200) : stamps_Merge.f l m = some (if vl none l = true ∧ vl none m = true then (mergeL l m, 0) else ([], 80)) := by
  unfold stamps_Merge.f
  rw [if_pos ⟨by omega, by omega⟩, valid_eq l (by omega) 5000 (by omega), valid_eq m (by omega) 5000 (by omega)]
  cases vl none l <;> cases vl none m <;> rfl
theorem Merge_ok {l m : List S24} (hl : l.length ≤ 200) (hm : m.length ≤ 200) (vL : VL l) (vm : VL m) : stamps_Merge.f l m = some (mergeL l m, 0) := by
  rw [Merge_eq l m hl hm, if_pos ⟨(vl_none l).2 vL, (vl_none m).2 vm⟩]
theorem Merge_bad {l m : List S24} (hl : l.length ≤ 200) (hm : m.length ≤ 200) (h : ¬ (VL l ∧ VL m)) : stamps_Merge.f l m = some ([], 80) := by
  rw [Merge_eq l m hl hm, if_neg (fun e => h ⟨(vl_none l).1 e.1, (vl_none m).1 e.2⟩)]
end Go.Proofs.Ytmenajpeendnoaa.Plain
