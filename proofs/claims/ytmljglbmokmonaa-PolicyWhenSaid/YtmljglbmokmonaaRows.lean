/-
  No cell of these rows narrows 'for every input' (looked for: loops, veiled, ifaces, maps, wideKeys, modest, calm, conditions, laid).
  DERIVED. THE GIVEN ROWS OF THIS SEAT. 7 by the template 'for every input the law returns true; each argument reads behind the call as it read before'; 0 by the template 'total and deterministic' (their statements: YtmljglbmokmonaaTotals.lean).
  GIVEN WITH THE SEED: the statements are not yours to turn. If you find one false, say at which input.
  Laid BY PROGRAM, IN A SANDBOX (cutbox-rows.mjs): the forced cells as the released guide's own fill.sh prints them over the translation 251beab0e5c79649… (all of the seat's roots in one cut). By AI agents, Wed Nov 11 2026. No macro, syntax, notation, axiom, sorry.
-/
import Derived.Test.YtmljglbmokmonaaChecked
import GoSem.Claim
import GoSem.ClaimJoined
import GoSem.ClaimMapViews
import Derived.JoinedTies
import Derived.KernelRfl
namespace Go.Proofs.Ytmljglbmokmonaa
/- THE CELL 'sum', in the pinned program and in every row, IS THE sha256 OF THE DUMP (.gsa) THAT YtmljglbmokmonaaProg.lean LOADS. Nothing in Lean hashes anything: it is a label: what it is worth is what the hold of that sum in a sandbox is worth. -/
noncomputable def Try.pinned : Pinned := { name := "ytmljglbmokmonaa", sum := "251beab0e5c79649e581d8d15c369340015cec9f7c4ba51030862d9e53405ebc", checked := Try.checked }
namespace Rows
def none {H : Type} : Left H := { results := [], args := [] }

/-- 'sizarlaw33.PolicySpec': WHATEVER THE INPUT: true; the input reads as it did. -/
def policySpecSpec : ChangeSpec := { name := "policySpec", fn := fun _ => fun
  | [d1, d2, d3, d4, d5, d6] => { results := [.lit (.bool true)], args := [d1, d2, d3, d4, d5, d6] }
  | _ => none }
def policySpecRow : OpenClaim := { program := "ytmljglbmokmonaa", sum := "251beab0e5c79649e581d8d15c369340015cec9f7c4ba51030862d9e53405ebc", func := "sizar/sizarlaw33.PolicySpec", spec := "policySpec", unfollowed := true, recurses := true, apart := false }
def PolicySpecSaid : Prop := policySpecRow.holds Try.pinned (OpenSpec.ofChange policySpecSpec)

/-- ITS FALSE NEIGHBOUR: 'it returns false'. Refute it at one input. -/
def policySpecWrong : ChangeSpec := { name := "policySpec", fn := fun _ => fun
  | [d1, d2, d3, d4, d5, d6] => { results := [.lit (.bool false)], args := [d1, d2, d3, d4, d5, d6] }
  | _ => none }
def PolicySpecWrongFalsely : Prop := policySpecRow.holds Try.pinned (OpenSpec.ofChange policySpecWrong)

/-- 'sizarlaw33.PolicyUntilSpec': WHATEVER THE INPUT: true; the input reads as it did. -/
def policyUntilSpecSpec : ChangeSpec := { name := "policyUntilSpec", fn := fun _ => fun
  | [d1, d2, d3, d4, d5] => { results := [.lit (.bool true)], args := [d1, d2, d3, d4, d5] }
  | _ => none }
def policyUntilSpecRow : OpenClaim := { program := "ytmljglbmokmonaa", sum := "251beab0e5c79649e581d8d15c369340015cec9f7c4ba51030862d9e53405ebc", func := "sizar/sizarlaw33.PolicyUntilSpec", spec := "policyUntilSpec", unfollowed := true, recurses := true, apart := false }
def PolicyUntilSpecSaid : Prop := policyUntilSpecRow.holds Try.pinned (OpenSpec.ofChange policyUntilSpecSpec)

/-- ITS FALSE NEIGHBOUR: 'it returns false'. Refute it at one input. -/
def policyUntilSpecWrong : ChangeSpec := { name := "policyUntilSpec", fn := fun _ => fun
  | [d1, d2, d3, d4, d5] => { results := [.lit (.bool false)], args := [d1, d2, d3, d4, d5] }
  | _ => none }
def PolicyUntilSpecWrongFalsely : Prop := policyUntilSpecRow.holds Try.pinned (OpenSpec.ofChange policyUntilSpecWrong)

/-- 'sizarlaw33.PolicyFirst': WHATEVER THE INPUT: true; the input reads as it did. -/
def policyFirstSpec : ChangeSpec := { name := "policyFirst", fn := fun _ => fun
  | [d1, d2, d3, d4, d5, d6] => { results := [.lit (.bool true)], args := [d1, d2, d3, d4, d5, d6] }
  | _ => none }
def policyFirstRow : OpenClaim := { program := "ytmljglbmokmonaa", sum := "251beab0e5c79649e581d8d15c369340015cec9f7c4ba51030862d9e53405ebc", func := "sizar/sizarlaw33.PolicyFirst", spec := "policyFirst", unfollowed := true, recurses := true, apart := false }
def PolicyFirstSaid : Prop := policyFirstRow.holds Try.pinned (OpenSpec.ofChange policyFirstSpec)

/-- ITS FALSE NEIGHBOUR: 'it returns false'. Refute it at one input. -/
def policyFirstWrong : ChangeSpec := { name := "policyFirst", fn := fun _ => fun
  | [d1, d2, d3, d4, d5, d6] => { results := [.lit (.bool false)], args := [d1, d2, d3, d4, d5, d6] }
  | _ => none }
def PolicyFirstWrongFalsely : Prop := policyFirstRow.holds Try.pinned (OpenSpec.ofChange policyFirstWrong)

/-- 'sizarlaw33.PolicyRest': WHATEVER THE INPUT: true; the input reads as it did. -/
def policyRestSpec : ChangeSpec := { name := "policyRest", fn := fun _ => fun
  | [d1, d2, d3, d4, d5, d6, d7] => { results := [.lit (.bool true)], args := [d1, d2, d3, d4, d5, d6, d7] }
  | _ => none }
def policyRestRow : OpenClaim := { program := "ytmljglbmokmonaa", sum := "251beab0e5c79649e581d8d15c369340015cec9f7c4ba51030862d9e53405ebc", func := "sizar/sizarlaw33.PolicyRest", spec := "policyRest", unfollowed := true, recurses := true, apart := false }
def PolicyRestSaid : Prop := policyRestRow.holds Try.pinned (OpenSpec.ofChange policyRestSpec)

/-- ITS FALSE NEIGHBOUR: 'it returns false'. Refute it at one input. -/
def policyRestWrong : ChangeSpec := { name := "policyRest", fn := fun _ => fun
  | [d1, d2, d3, d4, d5, d6, d7] => { results := [.lit (.bool false)], args := [d1, d2, d3, d4, d5, d6, d7] }
  | _ => none }
def PolicyRestWrongFalsely : Prop := policyRestRow.holds Try.pinned (OpenSpec.ofChange policyRestWrong)

/-- 'sizarlaw33.PolicyEnds': WHATEVER THE INPUT: true; the input reads as it did. -/
def policyEndsSpec : ChangeSpec := { name := "policyEnds", fn := fun _ => fun
  | [d1, d2, d3, d4, d5] => { results := [.lit (.bool true)], args := [d1, d2, d3, d4, d5] }
  | _ => none }
def policyEndsRow : OpenClaim := { program := "ytmljglbmokmonaa", sum := "251beab0e5c79649e581d8d15c369340015cec9f7c4ba51030862d9e53405ebc", func := "sizar/sizarlaw33.PolicyEnds", spec := "policyEnds", unfollowed := true, recurses := true, apart := false }
def PolicyEndsSaid : Prop := policyEndsRow.holds Try.pinned (OpenSpec.ofChange policyEndsSpec)

/-- ITS FALSE NEIGHBOUR: 'it returns false'. Refute it at one input. -/
def policyEndsWrong : ChangeSpec := { name := "policyEnds", fn := fun _ => fun
  | [d1, d2, d3, d4, d5] => { results := [.lit (.bool false)], args := [d1, d2, d3, d4, d5] }
  | _ => none }
def PolicyEndsWrongFalsely : Prop := policyEndsRow.holds Try.pinned (OpenSpec.ofChange policyEndsWrong)

/-- 'sizarlaw33.PolicyWorse': WHATEVER THE INPUT: true; the input reads as it did. -/
def policyWorseSpec : ChangeSpec := { name := "policyWorse", fn := fun _ => fun
  | [d1, d2, d3, d4] => { results := [.lit (.bool true)], args := [d1, d2, d3, d4] }
  | _ => none }
def policyWorseRow : OpenClaim := { program := "ytmljglbmokmonaa", sum := "251beab0e5c79649e581d8d15c369340015cec9f7c4ba51030862d9e53405ebc", func := "sizar/sizarlaw33.PolicyWorse", spec := "policyWorse", unfollowed := true, recurses := true, apart := false }
def PolicyWorseSaid : Prop := policyWorseRow.holds Try.pinned (OpenSpec.ofChange policyWorseSpec)

/-- ITS FALSE NEIGHBOUR: 'it returns false'. Refute it at one input. -/
def policyWorseWrong : ChangeSpec := { name := "policyWorse", fn := fun _ => fun
  | [d1, d2, d3, d4] => { results := [.lit (.bool false)], args := [d1, d2, d3, d4] }
  | _ => none }
def PolicyWorseWrongFalsely : Prop := policyWorseRow.holds Try.pinned (OpenSpec.ofChange policyWorseWrong)

/-- 'sizarlaw33.PolicyWhen': WHATEVER THE INPUT: true; the input reads as it did. -/
def policyWhenSpec : ChangeSpec := { name := "policyWhen", fn := fun _ => fun
  | [d1, d2, d3, d4, d5, d6] => { results := [.lit (.bool true)], args := [d1, d2, d3, d4, d5, d6] }
  | _ => none }
def policyWhenRow : OpenClaim := { program := "ytmljglbmokmonaa", sum := "251beab0e5c79649e581d8d15c369340015cec9f7c4ba51030862d9e53405ebc", func := "sizar/sizarlaw33.PolicyWhen", spec := "policyWhen", unfollowed := true, recurses := true, apart := false }
def PolicyWhenSaid : Prop := policyWhenRow.holds Try.pinned (OpenSpec.ofChange policyWhenSpec)

/-- ITS FALSE NEIGHBOUR: 'it returns false'. Refute it at one input. -/
def policyWhenWrong : ChangeSpec := { name := "policyWhen", fn := fun _ => fun
  | [d1, d2, d3, d4, d5, d6] => { results := [.lit (.bool false)], args := [d1, d2, d3, d4, d5, d6] }
  | _ => none }
def PolicyWhenWrongFalsely : Prop := policyWhenRow.holds Try.pinned (OpenSpec.ofChange policyWhenWrong)

/- THE SECOND FORM. 'bulk': how many values and letters a reading holds, each counted each time it is reached (what is shared counts as often as it is met; a slice's spare places count too). A statement '..UptoSaid' is the law's where the arguments, and the package variables that the reading takes, are together of bulk at most 1048576: NARROWER than '..Said'. Prove '..Said' where nothing that the law and all that it calls make is longer than what came in: it says more and counts as full. Else prove '..UptoSaid'. A law counts once. -/
mutual
def uptoBulk {H : Type} : DataW H → Nat
  | .lit (.string bytes) => bytes.length + 1
  | .lit _ => 1
  | .nil => 1
  | .ptr d => uptoBulk d + 1
  | .slice elems spare => uptoBulkAll elems + uptoBulkAll spare + 1
  | .agg parts => uptoBulkAll parts + 1
  | .iface _ d => uptoBulk d + 1
  | .map entries => uptoBulkEntries entries + 1
  | .held _ => 1
def uptoBulkAll {H : Type} : List (DataW H) → Nat
  | [] => 0
  | d :: r => uptoBulk d + uptoBulkAll r
def uptoBulkEntries {H : Type} : List (Lit × DataW H) → Nat
  | [] => 0
  | x :: r => uptoBulkEntry x + uptoBulkEntries r
def uptoBulkEntry {H : Type} : Lit × DataW H → Nat
  | (.string bytes, d) => bytes.length + uptoBulk d + 1
  | (_, d) => uptoBulk d + 1
 end
def uptoSmall : (H : Type) → List (DataW H) → Bool := fun _ ds => decide (uptoBulkAll ds ≤ 1048576)
def OpenSpec.upto (s : _root_.Go.ChangeSpec) : _root_.Go.OpenSpec := { _root_.Go.OpenSpec.ofChange s with cond := some uptoSmall }

/-- 'sizarlaw33.PolicySpec', WHERE WHAT IT READS IS OF BULK AT MOST 1048576: true; the input reads as it did. -/
def policySpecUptoRow : OpenClaim := { program := "ytmljglbmokmonaa", sum := "251beab0e5c79649e581d8d15c369340015cec9f7c4ba51030862d9e53405ebc", func := "sizar/sizarlaw33.PolicySpec", spec := "policySpec", unfollowed := true, recurses := true, apart := false, narrowed := true }
def PolicySpecUptoSaid : Prop := policySpecUptoRow.holds Try.pinned (OpenSpec.upto policySpecSpec)

/-- 'sizarlaw33.PolicyUntilSpec', WHERE WHAT IT READS IS OF BULK AT MOST 1048576: true; the input reads as it did. -/
def policyUntilSpecUptoRow : OpenClaim := { program := "ytmljglbmokmonaa", sum := "251beab0e5c79649e581d8d15c369340015cec9f7c4ba51030862d9e53405ebc", func := "sizar/sizarlaw33.PolicyUntilSpec", spec := "policyUntilSpec", unfollowed := true, recurses := true, apart := false, narrowed := true }
def PolicyUntilSpecUptoSaid : Prop := policyUntilSpecUptoRow.holds Try.pinned (OpenSpec.upto policyUntilSpecSpec)

/-- 'sizarlaw33.PolicyFirst', WHERE WHAT IT READS IS OF BULK AT MOST 1048576: true; the input reads as it did. -/
def policyFirstUptoRow : OpenClaim := { program := "ytmljglbmokmonaa", sum := "251beab0e5c79649e581d8d15c369340015cec9f7c4ba51030862d9e53405ebc", func := "sizar/sizarlaw33.PolicyFirst", spec := "policyFirst", unfollowed := true, recurses := true, apart := false, narrowed := true }
def PolicyFirstUptoSaid : Prop := policyFirstUptoRow.holds Try.pinned (OpenSpec.upto policyFirstSpec)

/-- 'sizarlaw33.PolicyRest', WHERE WHAT IT READS IS OF BULK AT MOST 1048576: true; the input reads as it did. -/
def policyRestUptoRow : OpenClaim := { program := "ytmljglbmokmonaa", sum := "251beab0e5c79649e581d8d15c369340015cec9f7c4ba51030862d9e53405ebc", func := "sizar/sizarlaw33.PolicyRest", spec := "policyRest", unfollowed := true, recurses := true, apart := false, narrowed := true }
def PolicyRestUptoSaid : Prop := policyRestUptoRow.holds Try.pinned (OpenSpec.upto policyRestSpec)

/-- 'sizarlaw33.PolicyEnds', WHERE WHAT IT READS IS OF BULK AT MOST 1048576: true; the input reads as it did. -/
def policyEndsUptoRow : OpenClaim := { program := "ytmljglbmokmonaa", sum := "251beab0e5c79649e581d8d15c369340015cec9f7c4ba51030862d9e53405ebc", func := "sizar/sizarlaw33.PolicyEnds", spec := "policyEnds", unfollowed := true, recurses := true, apart := false, narrowed := true }
def PolicyEndsUptoSaid : Prop := policyEndsUptoRow.holds Try.pinned (OpenSpec.upto policyEndsSpec)

/-- 'sizarlaw33.PolicyWorse', WHERE WHAT IT READS IS OF BULK AT MOST 1048576: true; the input reads as it did. -/
def policyWorseUptoRow : OpenClaim := { program := "ytmljglbmokmonaa", sum := "251beab0e5c79649e581d8d15c369340015cec9f7c4ba51030862d9e53405ebc", func := "sizar/sizarlaw33.PolicyWorse", spec := "policyWorse", unfollowed := true, recurses := true, apart := false, narrowed := true }
def PolicyWorseUptoSaid : Prop := policyWorseUptoRow.holds Try.pinned (OpenSpec.upto policyWorseSpec)

/-- 'sizarlaw33.PolicyWhen', WHERE WHAT IT READS IS OF BULK AT MOST 1048576: true; the input reads as it did. -/
def policyWhenUptoRow : OpenClaim := { program := "ytmljglbmokmonaa", sum := "251beab0e5c79649e581d8d15c369340015cec9f7c4ba51030862d9e53405ebc", func := "sizar/sizarlaw33.PolicyWhen", spec := "policyWhen", unfollowed := true, recurses := true, apart := false, narrowed := true }
def PolicyWhenUptoSaid : Prop := policyWhenUptoRow.holds Try.pinned (OpenSpec.upto policyWhenSpec)

end Rows
end Go.Proofs.Ytmljglbmokmonaa
