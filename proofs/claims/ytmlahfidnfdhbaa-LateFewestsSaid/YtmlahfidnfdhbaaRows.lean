/-
  No cell of these rows narrows 'for every input' (looked for: loops, veiled, ifaces, maps, wideKeys, modest, calm, conditions, laid).
  DERIVED. THE GIVEN ROWS OF THIS SEAT. 5 by the template 'for every input the law returns true; each argument reads behind the call as it read before'; 0 by the template 'total and deterministic' (their statements: YtmlahfidnfdhbaaTotals.lean).
  GIVEN WITH THE SEED: the statements are not yours to turn. If you find one false, say at which input.
  Laid BY PROGRAM, IN A SANDBOX (cutbox-rows.mjs): the forced cells as the released guide's own fill.sh prints them over the translation 30dbc85b0ef1950b… (all of the seat's roots in one cut). By AI agents, Wed Nov 11 2026. No macro, syntax, notation, axiom, sorry.
-/
import Derived.Test.YtmlahfidnfdhbaaChecked
import GoSem.Claim
import GoSem.ClaimJoined
import GoSem.ClaimMapViews
import Derived.JoinedTies
import Derived.KernelRfl
namespace Go.Proofs.Ytmlahfidnfdhbaa
/- THE CELL 'sum', in the pinned program and in every row, IS THE sha256 OF THE DUMP (.gsa) THAT YtmlahfidnfdhbaaProg.lean LOADS. Nothing in Lean hashes anything: it is a label: what it is worth is what the hold of that sum in a sandbox is worth. -/
noncomputable def Try.pinned : Pinned := { name := "ytmlahfidnfdhbaa", sum := "30dbc85b0ef1950b74f980f5a38fd85cc4f56330784340b0ea9f67be419687f3", checked := Try.checked }
namespace Rows
def none {H : Type} : Left H := { results := [], args := [] }

/-- 'fipplelaw05.LateBooks': WHATEVER THE INPUT: true; the input reads as it did. -/
def lateBooksSpec : ChangeSpec := { name := "lateBooks", fn := fun _ => fun
  | [d1, d2, d3] => { results := [.lit (.bool true)], args := [d1, d2, d3] }
  | _ => none }
def lateBooksRow : OpenClaim := { program := "ytmlahfidnfdhbaa", sum := "30dbc85b0ef1950b74f980f5a38fd85cc4f56330784340b0ea9f67be419687f3", func := "fipple/fipplelaw05.LateBooks", spec := "lateBooks", unfollowed := true, recurses := true, plainKeys := false, apart := false }
def LateBooksSaid : Prop := lateBooksRow.holds Try.pinned (OpenSpec.ofChange lateBooksSpec)

/-- ITS FALSE NEIGHBOUR: 'it returns false'. Refute it at one input. -/
def lateBooksWrong : ChangeSpec := { name := "lateBooks", fn := fun _ => fun
  | [d1, d2, d3] => { results := [.lit (.bool false)], args := [d1, d2, d3] }
  | _ => none }
def LateBooksWrongFalsely : Prop := lateBooksRow.holds Try.pinned (OpenSpec.ofChange lateBooksWrong)

/-- 'fipplelaw05.LateSequences': WHATEVER THE INPUT: true; the input reads as it did. -/
def lateSequencesSpec : ChangeSpec := { name := "lateSequences", fn := fun _ => fun
  | [d1, d2] => { results := [.lit (.bool true)], args := [d1, d2] }
  | _ => none }
def lateSequencesRow : OpenClaim := { program := "ytmlahfidnfdhbaa", sum := "30dbc85b0ef1950b74f980f5a38fd85cc4f56330784340b0ea9f67be419687f3", func := "fipple/fipplelaw05.LateSequences", spec := "lateSequences", unfollowed := true, recurses := true, plainKeys := false, apart := false }
def LateSequencesSaid : Prop := lateSequencesRow.holds Try.pinned (OpenSpec.ofChange lateSequencesSpec)

/-- ITS FALSE NEIGHBOUR: 'it returns false'. Refute it at one input. -/
def lateSequencesWrong : ChangeSpec := { name := "lateSequences", fn := fun _ => fun
  | [d1, d2] => { results := [.lit (.bool false)], args := [d1, d2] }
  | _ => none }
def LateSequencesWrongFalsely : Prop := lateSequencesRow.holds Try.pinned (OpenSpec.ofChange lateSequencesWrong)

/-- 'fipplelaw05.LateDays': WHATEVER THE INPUT: true; the input reads as it did. -/
def lateDaysSpec : ChangeSpec := { name := "lateDays", fn := fun _ => fun
  | [d1, d2, d3] => { results := [.lit (.bool true)], args := [d1, d2, d3] }
  | _ => none }
def lateDaysRow : OpenClaim := { program := "ytmlahfidnfdhbaa", sum := "30dbc85b0ef1950b74f980f5a38fd85cc4f56330784340b0ea9f67be419687f3", func := "fipple/fipplelaw05.LateDays", spec := "lateDays", unfollowed := true, recurses := true, plainKeys := false, apart := false }
def LateDaysSaid : Prop := lateDaysRow.holds Try.pinned (OpenSpec.ofChange lateDaysSpec)

/-- ITS FALSE NEIGHBOUR: 'it returns false'. Refute it at one input. -/
def lateDaysWrong : ChangeSpec := { name := "lateDays", fn := fun _ => fun
  | [d1, d2, d3] => { results := [.lit (.bool false)], args := [d1, d2, d3] }
  | _ => none }
def LateDaysWrongFalsely : Prop := lateDaysRow.holds Try.pinned (OpenSpec.ofChange lateDaysWrong)

/-- 'fipplelaw05.LateKepts': WHATEVER THE INPUT: true; the input reads as it did. -/
def lateKeptsSpec : ChangeSpec := { name := "lateKepts", fn := fun _ => fun
  | [d1, d2, d3] => { results := [.lit (.bool true)], args := [d1, d2, d3] }
  | _ => none }
def lateKeptsRow : OpenClaim := { program := "ytmlahfidnfdhbaa", sum := "30dbc85b0ef1950b74f980f5a38fd85cc4f56330784340b0ea9f67be419687f3", func := "fipple/fipplelaw05.LateKepts", spec := "lateKepts", unfollowed := true, recurses := true, plainKeys := false, apart := false }
def LateKeptsSaid : Prop := lateKeptsRow.holds Try.pinned (OpenSpec.ofChange lateKeptsSpec)

/-- ITS FALSE NEIGHBOUR: 'it returns false'. Refute it at one input. -/
def lateKeptsWrong : ChangeSpec := { name := "lateKepts", fn := fun _ => fun
  | [d1, d2, d3] => { results := [.lit (.bool false)], args := [d1, d2, d3] }
  | _ => none }
def LateKeptsWrongFalsely : Prop := lateKeptsRow.holds Try.pinned (OpenSpec.ofChange lateKeptsWrong)

/-- 'fipplelaw05.LateFewests': WHATEVER THE INPUT: true; the input reads as it did. -/
def lateFewestsSpec : ChangeSpec := { name := "lateFewests", fn := fun _ => fun
  | [d1, d2, d3] => { results := [.lit (.bool true)], args := [d1, d2, d3] }
  | _ => none }
def lateFewestsRow : OpenClaim := { program := "ytmlahfidnfdhbaa", sum := "30dbc85b0ef1950b74f980f5a38fd85cc4f56330784340b0ea9f67be419687f3", func := "fipple/fipplelaw05.LateFewests", spec := "lateFewests", unfollowed := true, recurses := true, plainKeys := false, apart := false }
def LateFewestsSaid : Prop := lateFewestsRow.holds Try.pinned (OpenSpec.ofChange lateFewestsSpec)

/-- ITS FALSE NEIGHBOUR: 'it returns false'. Refute it at one input. -/
def lateFewestsWrong : ChangeSpec := { name := "lateFewests", fn := fun _ => fun
  | [d1, d2, d3] => { results := [.lit (.bool false)], args := [d1, d2, d3] }
  | _ => none }
def LateFewestsWrongFalsely : Prop := lateFewestsRow.holds Try.pinned (OpenSpec.ofChange lateFewestsWrong)

/- THE SECOND FORM. 'bulk': how many values and letters a reading holds, each counted each time it is reached (what is shared counts as often as it is met; a slice's spare places count too). A statement '..UptoSaid' is the law's where the arguments, and the package variables that the reading takes, are together of bulk at most 1048576: NARROWER than '..Said'. Prove '..Said' where nothing that the law and all that it calls make is longer than what came in: it says more and counts as full. Else prove '..UptoSaid'. A law counts once. -/
mutual
def uptoBulk {H : Type} : DataW H → Nat
  | .lit (.string bytes) => bytes.length + 1
  | .lit _ => 1
  | .nil => 1
  | .ptr d => uptoBulk d + 1
  | .slice elems spare => uptoBulkAll elems + uptoBulkAll spare + 1
  | .agg parts => uptoBulkAll parts + 1
  | .iface _ d => uptoBulk d + 1
  | .map entries => uptoBulkEntries entries + 1
  | .held _ => 1
def uptoBulkAll {H : Type} : List (DataW H) → Nat
  | [] => 0
  | d :: r => uptoBulk d + uptoBulkAll r
def uptoBulkEntries {H : Type} : List (Lit × DataW H) → Nat
  | [] => 0
  | x :: r => uptoBulkEntry x + uptoBulkEntries r
def uptoBulkEntry {H : Type} : Lit × DataW H → Nat
  | (.string bytes, d) => bytes.length + uptoBulk d + 1
  | (_, d) => uptoBulk d + 1
 end
def uptoSmall : (H : Type) → List (DataW H) → Bool := fun _ ds => decide (uptoBulkAll ds ≤ 1048576)
def OpenSpec.upto (s : _root_.Go.ChangeSpec) : _root_.Go.OpenSpec := { _root_.Go.OpenSpec.ofChange s with cond := some uptoSmall }

/-- 'fipplelaw05.LateBooks', WHERE WHAT IT READS IS OF BULK AT MOST 1048576: true; the input reads as it did. -/
def lateBooksUptoRow : OpenClaim := { program := "ytmlahfidnfdhbaa", sum := "30dbc85b0ef1950b74f980f5a38fd85cc4f56330784340b0ea9f67be419687f3", func := "fipple/fipplelaw05.LateBooks", spec := "lateBooks", unfollowed := true, recurses := true, plainKeys := false, apart := false, narrowed := true }
def LateBooksUptoSaid : Prop := lateBooksUptoRow.holds Try.pinned (OpenSpec.upto lateBooksSpec)

/-- 'fipplelaw05.LateSequences', WHERE WHAT IT READS IS OF BULK AT MOST 1048576: true; the input reads as it did. -/
def lateSequencesUptoRow : OpenClaim := { program := "ytmlahfidnfdhbaa", sum := "30dbc85b0ef1950b74f980f5a38fd85cc4f56330784340b0ea9f67be419687f3", func := "fipple/fipplelaw05.LateSequences", spec := "lateSequences", unfollowed := true, recurses := true, plainKeys := false, apart := false, narrowed := true }
def LateSequencesUptoSaid : Prop := lateSequencesUptoRow.holds Try.pinned (OpenSpec.upto lateSequencesSpec)

/-- 'fipplelaw05.LateDays', WHERE WHAT IT READS IS OF BULK AT MOST 1048576: true; the input reads as it did. -/
def lateDaysUptoRow : OpenClaim := { program := "ytmlahfidnfdhbaa", sum := "30dbc85b0ef1950b74f980f5a38fd85cc4f56330784340b0ea9f67be419687f3", func := "fipple/fipplelaw05.LateDays", spec := "lateDays", unfollowed := true, recurses := true, plainKeys := false, apart := false, narrowed := true }
def LateDaysUptoSaid : Prop := lateDaysUptoRow.holds Try.pinned (OpenSpec.upto lateDaysSpec)

/-- 'fipplelaw05.LateKepts', WHERE WHAT IT READS IS OF BULK AT MOST 1048576: true; the input reads as it did. -/
def lateKeptsUptoRow : OpenClaim := { program := "ytmlahfidnfdhbaa", sum := "30dbc85b0ef1950b74f980f5a38fd85cc4f56330784340b0ea9f67be419687f3", func := "fipple/fipplelaw05.LateKepts", spec := "lateKepts", unfollowed := true, recurses := true, plainKeys := false, apart := false, narrowed := true }
def LateKeptsUptoSaid : Prop := lateKeptsUptoRow.holds Try.pinned (OpenSpec.upto lateKeptsSpec)

/-- 'fipplelaw05.LateFewests', WHERE WHAT IT READS IS OF BULK AT MOST 1048576: true; the input reads as it did. -/
def lateFewestsUptoRow : OpenClaim := { program := "ytmlahfidnfdhbaa", sum := "30dbc85b0ef1950b74f980f5a38fd85cc4f56330784340b0ea9f67be419687f3", func := "fipple/fipplelaw05.LateFewests", spec := "lateFewests", unfollowed := true, recurses := true, plainKeys := false, apart := false, narrowed := true }
def LateFewestsUptoSaid : Prop := lateFewestsUptoRow.holds Try.pinned (OpenSpec.upto lateFewestsSpec)

end Rows
end Go.Proofs.Ytmlahfidnfdhbaa
