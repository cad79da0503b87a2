/-
  No cell of these rows narrows 'for every input' (looked for: loops, veiled, ifaces, maps, wideKeys, modest, calm, conditions, laid).
  DERIVED. THE GIVEN ROWS OF THIS SEAT. 4 by the template 'for every input the law returns true; each argument reads behind the call as it read before'; 0 by the template 'total and deterministic' (their statements: YtpbemjdaanlaoaaTotals.lean).
  GIVEN WITH THE SEED: the statements are not yours to turn. If you find one false, say at which input.
  Laid BY PROGRAM, IN A SANDBOX (cutbox-rows.mjs): the forced cells as the released guide's own fill.sh prints them over the translation 8aab042298b83a7b… (all of the seat's roots in one cut). By AI agents, Wed Nov 11 2026. No macro, syntax, notation, axiom, sorry.
-/
import Derived.Test.YtpbemjdaanlaoaaChecked
import GoSem.Claim
import GoSem.ClaimJoined
import GoSem.ClaimMapViews
import Derived.JoinedTies
import Derived.KernelRfl
namespace Go.Proofs.Ytpbemjdaanlaoaa
/- THE CELL 'sum', in the pinned program and in every row, IS THE sha256 OF THE DUMP (.gsa) THAT YtpbemjdaanlaoaaProg.lean LOADS. Nothing in Lean hashes anything: it is a label: what it is worth is what the hold of that sum in a sandbox is worth. -/
noncomputable def Try.pinned : Pinned := { name := "ytpbemjdaanlaoaa", sum := "8aab042298b83a7baa396953f776ca1f5477b8488accc1ce2c5ade7a7f451835", checked := Try.checked }
namespace Rows
def none {H : Type} : Left H := { results := [], args := [] }

/-- 'fipplelaw08.RackRows': WHATEVER THE INPUT: true; the input reads as it did. -/
def rackRowsSpec : ChangeSpec := { name := "rackRows", fn := fun _ => fun
  | [d] => { results := [.lit (.bool true)], args := [d] }
  | _ => none }
def rackRowsRow : OpenClaim := { program := "ytpbemjdaanlaoaa", sum := "8aab042298b83a7baa396953f776ca1f5477b8488accc1ce2c5ade7a7f451835", func := "fipple/fipplelaw08.RackRows", spec := "rackRows", unfollowed := true, recurses := true, plainKeys := false, apart := false }
def RackRowsSaid : Prop := rackRowsRow.holds Try.pinned (OpenSpec.ofChange rackRowsSpec)

/-- ITS FALSE NEIGHBOUR: 'it returns false'. Refute it at one input. -/
def rackRowsWrong : ChangeSpec := { name := "rackRows", fn := fun _ => fun
  | [d] => { results := [.lit (.bool false)], args := [d] }
  | _ => none }
def RackRowsWrongFalsely : Prop := rackRowsRow.holds Try.pinned (OpenSpec.ofChange rackRowsWrong)

/-- 'fipplelaw08.RackPuts': WHATEVER THE INPUT: true; the input reads as it did. -/
def rackPutsSpec : ChangeSpec := { name := "rackPuts", fn := fun _ => fun
  | [d1, d2, d3] => { results := [.lit (.bool true)], args := [d1, d2, d3] }
  | _ => none }
def rackPutsRow : OpenClaim := { program := "ytpbemjdaanlaoaa", sum := "8aab042298b83a7baa396953f776ca1f5477b8488accc1ce2c5ade7a7f451835", func := "fipple/fipplelaw08.RackPuts", spec := "rackPuts", unfollowed := true, recurses := true, plainKeys := false, apart := false }
def RackPutsSaid : Prop := rackPutsRow.holds Try.pinned (OpenSpec.ofChange rackPutsSpec)

/-- ITS FALSE NEIGHBOUR: 'it returns false'. Refute it at one input. -/
def rackPutsWrong : ChangeSpec := { name := "rackPuts", fn := fun _ => fun
  | [d1, d2, d3] => { results := [.lit (.bool false)], args := [d1, d2, d3] }
  | _ => none }
def RackPutsWrongFalsely : Prop := rackPutsRow.holds Try.pinned (OpenSpec.ofChange rackPutsWrong)

/-- 'fipplelaw08.RackBuilds': WHATEVER THE INPUT: true; the input reads as it did. -/
def rackBuildsSpec : ChangeSpec := { name := "rackBuilds", fn := fun _ => fun
  | [d1, d2, d3] => { results := [.lit (.bool true)], args := [d1, d2, d3] }
  | _ => none }
def rackBuildsRow : OpenClaim := { program := "ytpbemjdaanlaoaa", sum := "8aab042298b83a7baa396953f776ca1f5477b8488accc1ce2c5ade7a7f451835", func := "fipple/fipplelaw08.RackBuilds", spec := "rackBuilds", unfollowed := true, recurses := true, plainKeys := false, apart := false }
def RackBuildsSaid : Prop := rackBuildsRow.holds Try.pinned (OpenSpec.ofChange rackBuildsSpec)

/-- ITS FALSE NEIGHBOUR: 'it returns false'. Refute it at one input. -/
def rackBuildsWrong : ChangeSpec := { name := "rackBuilds", fn := fun _ => fun
  | [d1, d2, d3] => { results := [.lit (.bool false)], args := [d1, d2, d3] }
  | _ => none }
def RackBuildsWrongFalsely : Prop := rackBuildsRow.holds Try.pinned (OpenSpec.ofChange rackBuildsWrong)

/-- 'fipplelaw08.RackHooks': WHATEVER THE INPUT: true; the input reads as it did. -/
def rackHooksSpec : ChangeSpec := { name := "rackHooks", fn := fun _ => fun
  | [d] => { results := [.lit (.bool true)], args := [d] }
  | _ => none }
def rackHooksRow : OpenClaim := { program := "ytpbemjdaanlaoaa", sum := "8aab042298b83a7baa396953f776ca1f5477b8488accc1ce2c5ade7a7f451835", func := "fipple/fipplelaw08.RackHooks", spec := "rackHooks", unfollowed := true, recurses := true, plainKeys := false, apart := false }
def RackHooksSaid : Prop := rackHooksRow.holds Try.pinned (OpenSpec.ofChange rackHooksSpec)

/-- ITS FALSE NEIGHBOUR: 'it returns false'. Refute it at one input. -/
def rackHooksWrong : ChangeSpec := { name := "rackHooks", fn := fun _ => fun
  | [d] => { results := [.lit (.bool false)], args := [d] }
  | _ => none }
def RackHooksWrongFalsely : Prop := rackHooksRow.holds Try.pinned (OpenSpec.ofChange rackHooksWrong)

/- THE SECOND FORM. 'bulk': how many values and letters a reading holds, each counted each time it is reached (what is shared counts as often as it is met; a slice's spare places count too). A statement '..UptoSaid' is the law's where the arguments, and the package variables that the reading takes, are together of bulk at most 1048576: NARROWER than '..Said'. Prove '..Said' where nothing that the law and all that it calls make is longer than what came in: it says more and counts as full. Else prove '..UptoSaid'. A law counts once. -/
mutual
def uptoBulk {H : Type} : DataW H → Nat
  | .lit (.string bytes) => bytes.length + 1
  | .lit _ => 1
  | .nil => 1
  | .ptr d => uptoBulk d + 1
  | .slice elems spare => uptoBulkAll elems + uptoBulkAll spare + 1
  | .agg parts => uptoBulkAll parts + 1
  | .iface _ d => uptoBulk d + 1
  | .map entries => uptoBulkEntries entries + 1
  | .held _ => 1
def uptoBulkAll {H : Type} : List (DataW H) → Nat
  | [] => 0
  | d :: r => uptoBulk d + uptoBulkAll r
def uptoBulkEntries {H : Type} : List (Lit × DataW H) → Nat
  | [] => 0
  | x :: r => uptoBulkEntry x + uptoBulkEntries r
def uptoBulkEntry {H : Type} : Lit × DataW H → Nat
  | (.string bytes, d) => bytes.length + uptoBulk d + 1
  | (_, d) => uptoBulk d + 1
 end
def uptoSmall : (H : Type) → List (DataW H) → Bool := fun _ ds => decide (uptoBulkAll ds ≤ 1048576)
def OpenSpec.upto (s : _root_.Go.ChangeSpec) : _root_.Go.OpenSpec := { _root_.Go.OpenSpec.ofChange s with cond := some uptoSmall }

/-- 'fipplelaw08.RackRows', WHERE WHAT IT READS IS OF BULK AT MOST 1048576: true; the input reads as it did. -/
def rackRowsUptoRow : OpenClaim := { program := "ytpbemjdaanlaoaa", sum := "8aab042298b83a7baa396953f776ca1f5477b8488accc1ce2c5ade7a7f451835", func := "fipple/fipplelaw08.RackRows", spec := "rackRows", unfollowed := true, recurses := true, plainKeys := false, apart := false, narrowed := true }
def RackRowsUptoSaid : Prop := rackRowsUptoRow.holds Try.pinned (OpenSpec.upto rackRowsSpec)

/-- 'fipplelaw08.RackPuts', WHERE WHAT IT READS IS OF BULK AT MOST 1048576: true; the input reads as it did. -/
def rackPutsUptoRow : OpenClaim := { program := "ytpbemjdaanlaoaa", sum := "8aab042298b83a7baa396953f776ca1f5477b8488accc1ce2c5ade7a7f451835", func := "fipple/fipplelaw08.RackPuts", spec := "rackPuts", unfollowed := true, recurses := true, plainKeys := false, apart := false, narrowed := true }
def RackPutsUptoSaid : Prop := rackPutsUptoRow.holds Try.pinned (OpenSpec.upto rackPutsSpec)

/-- 'fipplelaw08.RackBuilds', WHERE WHAT IT READS IS OF BULK AT MOST 1048576: true; the input reads as it did. -/
def rackBuildsUptoRow : OpenClaim := { program := "ytpbemjdaanlaoaa", sum := "8aab042298b83a7baa396953f776ca1f5477b8488accc1ce2c5ade7a7f451835", func := "fipple/fipplelaw08.RackBuilds", spec := "rackBuilds", unfollowed := true, recurses := true, plainKeys := false, apart := false, narrowed := true }
def RackBuildsUptoSaid : Prop := rackBuildsUptoRow.holds Try.pinned (OpenSpec.upto rackBuildsSpec)

/-- 'fipplelaw08.RackHooks', WHERE WHAT IT READS IS OF BULK AT MOST 1048576: true; the input reads as it did. -/
def rackHooksUptoRow : OpenClaim := { program := "ytpbemjdaanlaoaa", sum := "8aab042298b83a7baa396953f776ca1f5477b8488accc1ce2c5ade7a7f451835", func := "fipple/fipplelaw08.RackHooks", spec := "rackHooks", unfollowed := true, recurses := true, plainKeys := false, apart := false, narrowed := true }
def RackHooksUptoSaid : Prop := rackHooksUptoRow.holds Try.pinned (OpenSpec.upto rackHooksSpec)

end Rows
end Go.Proofs.Ytpbemjdaanlaoaa
