/-
  No cell of these rows narrows 'for every input' (looked for: loops, veiled, ifaces, maps, wideKeys, modest, calm, conditions, laid).
  DERIVED. THE GIVEN ROWS OF THIS SEAT. 9 by the template 'for every input the law returns true; each argument reads behind the call as it read before'; 0 by the template 'total and deterministic' (their statements: YtiboiociaedocaaTotals.lean).
  GIVEN WITH THE SEED: the statements are not yours to turn. If you find one false, say at which input.
  Laid BY PROGRAM, IN A SANDBOX (cutbox-rows.mjs): the forced cells as the released guide's own fill.sh prints them over the translation dc26d343e91351bc… (all of the seat's roots in one cut). By AI agents, Wed Nov 11 2026. No macro, syntax, notation, axiom, sorry.
-/
import Derived.Test.YtiboiociaedocaaChecked
import GoSem.Claim
import GoSem.ClaimJoined
import GoSem.ClaimMapViews
import Derived.JoinedTies
import Derived.KernelRfl
namespace Go.Proofs.Ytiboiociaedocaa
/- THE CELL 'sum', in the pinned program and in every row, IS THE sha256 OF THE DUMP (.gsa) THAT YtiboiociaedocaaProg.lean LOADS. Nothing in Lean hashes anything: it is a label: what it is worth is what the hold of that sum in a sandbox is worth. -/
noncomputable def Try.pinned : Pinned := { name := "ytiboiociaedocaa", sum := "dc26d343e91351bcffb4941223b0319c3371b41ff1222b224fbe41d3ed8a6809", checked := Try.checked }
namespace Rows
def none {H : Type} : Left H := { results := [], args := [] }

/-- 'hawserlaw08.DeltaSessions': WHATEVER THE INPUT: true; the input reads as it did. -/
def deltaSessionsSpec : ChangeSpec := { name := "deltaSessions", fn := fun _ => fun
  | [d] => { results := [.lit (.bool true)], args := [d] }
  | _ => none }
def deltaSessionsRow : OpenClaim := { program := "ytiboiociaedocaa", sum := "dc26d343e91351bcffb4941223b0319c3371b41ff1222b224fbe41d3ed8a6809", func := "hawser/hawserlaw08.DeltaSessions", spec := "deltaSessions", apart := false }
def DeltaSessionsSaid : Prop := deltaSessionsRow.holds Try.pinned (OpenSpec.ofChange deltaSessionsSpec)

/-- ITS FALSE NEIGHBOUR: 'it returns false'. Refute it at one input. -/
def deltaSessionsWrong : ChangeSpec := { name := "deltaSessions", fn := fun _ => fun
  | [d] => { results := [.lit (.bool false)], args := [d] }
  | _ => none }
def DeltaSessionsWrongFalsely : Prop := deltaSessionsRow.holds Try.pinned (OpenSpec.ofChange deltaSessionsWrong)

/-- 'hawserlaw08.DeltaNames': WHATEVER THE INPUT: true; the input reads as it did. -/
def deltaNamesSpec : ChangeSpec := { name := "deltaNames", fn := fun _ => fun
  | [] => { results := [.lit (.bool true)], args := [] }
  | _ => none }
def deltaNamesRow : OpenClaim := { program := "ytiboiociaedocaa", sum := "dc26d343e91351bcffb4941223b0319c3371b41ff1222b224fbe41d3ed8a6809", func := "hawser/hawserlaw08.DeltaNames", spec := "deltaNames", apart := false }
def DeltaNamesSaid : Prop := deltaNamesRow.holds Try.pinned (OpenSpec.ofChange deltaNamesSpec)

/-- ITS FALSE NEIGHBOUR: 'it returns false'. Refute it at one input. -/
def deltaNamesWrong : ChangeSpec := { name := "deltaNames", fn := fun _ => fun
  | [] => { results := [.lit (.bool false)], args := [] }
  | _ => none }
def DeltaNamesWrongFalsely : Prop := deltaNamesRow.holds Try.pinned (OpenSpec.ofChange deltaNamesWrong)

/-- 'hawserlaw08.DeltaChecks': WHATEVER THE INPUT: true; the input reads as it did. -/
def deltaChecksSpec : ChangeSpec := { name := "deltaChecks", fn := fun _ => fun
  | [d] => { results := [.lit (.bool true)], args := [d] }
  | _ => none }
def deltaChecksRow : OpenClaim := { program := "ytiboiociaedocaa", sum := "dc26d343e91351bcffb4941223b0319c3371b41ff1222b224fbe41d3ed8a6809", func := "hawser/hawserlaw08.DeltaChecks", spec := "deltaChecks", apart := false }
def DeltaChecksSaid : Prop := deltaChecksRow.holds Try.pinned (OpenSpec.ofChange deltaChecksSpec)

/-- ITS FALSE NEIGHBOUR: 'it returns false'. Refute it at one input. -/
def deltaChecksWrong : ChangeSpec := { name := "deltaChecks", fn := fun _ => fun
  | [d] => { results := [.lit (.bool false)], args := [d] }
  | _ => none }
def DeltaChecksWrongFalsely : Prop := deltaChecksRow.holds Try.pinned (OpenSpec.ofChange deltaChecksWrong)

/-- 'hawserlaw08.DeltaEncodes': WHATEVER THE INPUT: true; the input reads as it did. -/
def deltaEncodesSpec : ChangeSpec := { name := "deltaEncodes", fn := fun _ => fun
  | [d] => { results := [.lit (.bool true)], args := [d] }
  | _ => none }
def deltaEncodesRow : OpenClaim := { program := "ytiboiociaedocaa", sum := "dc26d343e91351bcffb4941223b0319c3371b41ff1222b224fbe41d3ed8a6809", func := "hawser/hawserlaw08.DeltaEncodes", spec := "deltaEncodes", apart := false }
def DeltaEncodesSaid : Prop := deltaEncodesRow.holds Try.pinned (OpenSpec.ofChange deltaEncodesSpec)

/-- ITS FALSE NEIGHBOUR: 'it returns false'. Refute it at one input. -/
def deltaEncodesWrong : ChangeSpec := { name := "deltaEncodes", fn := fun _ => fun
  | [d] => { results := [.lit (.bool false)], args := [d] }
  | _ => none }
def DeltaEncodesWrongFalsely : Prop := deltaEncodesRow.holds Try.pinned (OpenSpec.ofChange deltaEncodesWrong)

/-- 'hawserlaw08.DeltaStreams': WHATEVER THE INPUT: true; the input reads as it did. -/
def deltaStreamsSpec : ChangeSpec := { name := "deltaStreams", fn := fun _ => fun
  | [d] => { results := [.lit (.bool true)], args := [d] }
  | _ => none }
def deltaStreamsRow : OpenClaim := { program := "ytiboiociaedocaa", sum := "dc26d343e91351bcffb4941223b0319c3371b41ff1222b224fbe41d3ed8a6809", func := "hawser/hawserlaw08.DeltaStreams", spec := "deltaStreams", apart := false }
def DeltaStreamsSaid : Prop := deltaStreamsRow.holds Try.pinned (OpenSpec.ofChange deltaStreamsSpec)

/-- ITS FALSE NEIGHBOUR: 'it returns false'. Refute it at one input. -/
def deltaStreamsWrong : ChangeSpec := { name := "deltaStreams", fn := fun _ => fun
  | [d] => { results := [.lit (.bool false)], args := [d] }
  | _ => none }
def DeltaStreamsWrongFalsely : Prop := deltaStreamsRow.holds Try.pinned (OpenSpec.ofChange deltaStreamsWrong)

/-- 'hawserlaw08.DeltaDecodes': WHATEVER THE INPUT: true; the input reads as it did. -/
def deltaDecodesSpec : ChangeSpec := { name := "deltaDecodes", fn := fun _ => fun
  | [d] => { results := [.lit (.bool true)], args := [d] }
  | _ => none }
def deltaDecodesRow : OpenClaim := { program := "ytiboiociaedocaa", sum := "dc26d343e91351bcffb4941223b0319c3371b41ff1222b224fbe41d3ed8a6809", func := "hawser/hawserlaw08.DeltaDecodes", spec := "deltaDecodes", unfollowed := true, recurses := true, apart := false }
def DeltaDecodesSaid : Prop := deltaDecodesRow.holds Try.pinned (OpenSpec.ofChange deltaDecodesSpec)

/-- ITS FALSE NEIGHBOUR: 'it returns false'. Refute it at one input. -/
def deltaDecodesWrong : ChangeSpec := { name := "deltaDecodes", fn := fun _ => fun
  | [d] => { results := [.lit (.bool false)], args := [d] }
  | _ => none }
def DeltaDecodesWrongFalsely : Prop := deltaDecodesRow.holds Try.pinned (OpenSpec.ofChange deltaDecodesWrong)

/-- 'hawserlaw08.DeltaSplits': WHATEVER THE INPUT: true; the input reads as it did. -/
def deltaSplitsSpec : ChangeSpec := { name := "deltaSplits", fn := fun _ => fun
  | [d] => { results := [.lit (.bool true)], args := [d] }
  | _ => none }
def deltaSplitsRow : OpenClaim := { program := "ytiboiociaedocaa", sum := "dc26d343e91351bcffb4941223b0319c3371b41ff1222b224fbe41d3ed8a6809", func := "hawser/hawserlaw08.DeltaSplits", spec := "deltaSplits", unfollowed := true, recurses := true, apart := false }
def DeltaSplitsSaid : Prop := deltaSplitsRow.holds Try.pinned (OpenSpec.ofChange deltaSplitsSpec)

/-- ITS FALSE NEIGHBOUR: 'it returns false'. Refute it at one input. -/
def deltaSplitsWrong : ChangeSpec := { name := "deltaSplits", fn := fun _ => fun
  | [d] => { results := [.lit (.bool false)], args := [d] }
  | _ => none }
def DeltaSplitsWrongFalsely : Prop := deltaSplitsRow.holds Try.pinned (OpenSpec.ofChange deltaSplitsWrong)

/-- 'hawserlaw08.DeltaRound': WHATEVER THE INPUT: true; the input reads as it did. -/
def deltaRoundSpec : ChangeSpec := { name := "deltaRound", fn := fun _ => fun
  | [d1, d2] => { results := [.lit (.bool true)], args := [d1, d2] }
  | _ => none }
def deltaRoundRow : OpenClaim := { program := "ytiboiociaedocaa", sum := "dc26d343e91351bcffb4941223b0319c3371b41ff1222b224fbe41d3ed8a6809", func := "hawser/hawserlaw08.DeltaRound", spec := "deltaRound", unfollowed := true, recurses := true, apart := false }
def DeltaRoundSaid : Prop := deltaRoundRow.holds Try.pinned (OpenSpec.ofChange deltaRoundSpec)

/-- ITS FALSE NEIGHBOUR: 'it returns false'. Refute it at one input. -/
def deltaRoundWrong : ChangeSpec := { name := "deltaRound", fn := fun _ => fun
  | [d1, d2] => { results := [.lit (.bool false)], args := [d1, d2] }
  | _ => none }
def DeltaRoundWrongFalsely : Prop := deltaRoundRow.holds Try.pinned (OpenSpec.ofChange deltaRoundWrong)

/-- 'hawserlaw08.DeltaCanon': WHATEVER THE INPUT: true; the input reads as it did. -/
def deltaCanonSpec : ChangeSpec := { name := "deltaCanon", fn := fun _ => fun
  | [d] => { results := [.lit (.bool true)], args := [d] }
  | _ => none }
def deltaCanonRow : OpenClaim := { program := "ytiboiociaedocaa", sum := "dc26d343e91351bcffb4941223b0319c3371b41ff1222b224fbe41d3ed8a6809", func := "hawser/hawserlaw08.DeltaCanon", spec := "deltaCanon", unfollowed := true, recurses := true, apart := false }
def DeltaCanonSaid : Prop := deltaCanonRow.holds Try.pinned (OpenSpec.ofChange deltaCanonSpec)

/-- ITS FALSE NEIGHBOUR: 'it returns false'. Refute it at one input. -/
def deltaCanonWrong : ChangeSpec := { name := "deltaCanon", fn := fun _ => fun
  | [d] => { results := [.lit (.bool false)], args := [d] }
  | _ => none }
def DeltaCanonWrongFalsely : Prop := deltaCanonRow.holds Try.pinned (OpenSpec.ofChange deltaCanonWrong)

/- THE SECOND FORM. 'bulk': how many values and letters a reading holds, each counted each time it is reached (what is shared counts as often as it is met; a slice's spare places count too). A statement '..UptoSaid' is the law's where the arguments, and the package variables that the reading takes, are together of bulk at most 1048576: NARROWER than '..Said'. Prove '..Said' where nothing that the law and all that it calls make is longer than what came in: it says more and counts as full. Else prove '..UptoSaid'. A law counts once. -/
mutual
def uptoBulk {H : Type} : DataW H → Nat
  | .lit (.string bytes) => bytes.length + 1
  | .lit _ => 1
  | .nil => 1
  | .ptr d => uptoBulk d + 1
  | .slice elems spare => uptoBulkAll elems + uptoBulkAll spare + 1
  | .agg parts => uptoBulkAll parts + 1
  | .iface _ d => uptoBulk d + 1
  | .map entries => uptoBulkEntries entries + 1
  | .held _ => 1
def uptoBulkAll {H : Type} : List (DataW H) → Nat
  | [] => 0
  | d :: r => uptoBulk d + uptoBulkAll r
def uptoBulkEntries {H : Type} : List (Lit × DataW H) → Nat
  | [] => 0
  | x :: r => uptoBulkEntry x + uptoBulkEntries r
def uptoBulkEntry {H : Type} : Lit × DataW H → Nat
  | (.string bytes, d) => bytes.length + uptoBulk d + 1
  | (_, d) => uptoBulk d + 1
 end
def uptoSmall : (H : Type) → List (DataW H) → Bool := fun _ ds => decide (uptoBulkAll ds ≤ 1048576)
def OpenSpec.upto (s : _root_.Go.ChangeSpec) : _root_.Go.OpenSpec := { _root_.Go.OpenSpec.ofChange s with cond := some uptoSmall }

/-- 'hawserlaw08.DeltaSessions', WHERE WHAT IT READS IS OF BULK AT MOST 1048576: true; the input reads as it did. -/
def deltaSessionsUptoRow : OpenClaim := { program := "ytiboiociaedocaa", sum := "dc26d343e91351bcffb4941223b0319c3371b41ff1222b224fbe41d3ed8a6809", func := "hawser/hawserlaw08.DeltaSessions", spec := "deltaSessions", apart := false, narrowed := true }
def DeltaSessionsUptoSaid : Prop := deltaSessionsUptoRow.holds Try.pinned (OpenSpec.upto deltaSessionsSpec)

/-- 'hawserlaw08.DeltaNames', WHERE WHAT IT READS IS OF BULK AT MOST 1048576: true; the input reads as it did. -/
def deltaNamesUptoRow : OpenClaim := { program := "ytiboiociaedocaa", sum := "dc26d343e91351bcffb4941223b0319c3371b41ff1222b224fbe41d3ed8a6809", func := "hawser/hawserlaw08.DeltaNames", spec := "deltaNames", apart := false, narrowed := true }
def DeltaNamesUptoSaid : Prop := deltaNamesUptoRow.holds Try.pinned (OpenSpec.upto deltaNamesSpec)

/-- 'hawserlaw08.DeltaChecks', WHERE WHAT IT READS IS OF BULK AT MOST 1048576: true; the input reads as it did. -/
def deltaChecksUptoRow : OpenClaim := { program := "ytiboiociaedocaa", sum := "dc26d343e91351bcffb4941223b0319c3371b41ff1222b224fbe41d3ed8a6809", func := "hawser/hawserlaw08.DeltaChecks", spec := "deltaChecks", apart := false, narrowed := true }
def DeltaChecksUptoSaid : Prop := deltaChecksUptoRow.holds Try.pinned (OpenSpec.upto deltaChecksSpec)

/-- 'hawserlaw08.DeltaEncodes', WHERE WHAT IT READS IS OF BULK AT MOST 1048576: true; the input reads as it did. -/
def deltaEncodesUptoRow : OpenClaim := { program := "ytiboiociaedocaa", sum := "dc26d343e91351bcffb4941223b0319c3371b41ff1222b224fbe41d3ed8a6809", func := "hawser/hawserlaw08.DeltaEncodes", spec := "deltaEncodes", apart := false, narrowed := true }
def DeltaEncodesUptoSaid : Prop := deltaEncodesUptoRow.holds Try.pinned (OpenSpec.upto deltaEncodesSpec)

/-- 'hawserlaw08.DeltaStreams', WHERE WHAT IT READS IS OF BULK AT MOST 1048576: true; the input reads as it did. -/
def deltaStreamsUptoRow : OpenClaim := { program := "ytiboiociaedocaa", sum := "dc26d343e91351bcffb4941223b0319c3371b41ff1222b224fbe41d3ed8a6809", func := "hawser/hawserlaw08.DeltaStreams", spec := "deltaStreams", apart := false, narrowed := true }
def DeltaStreamsUptoSaid : Prop := deltaStreamsUptoRow.holds Try.pinned (OpenSpec.upto deltaStreamsSpec)

/-- 'hawserlaw08.DeltaDecodes', WHERE WHAT IT READS IS OF BULK AT MOST 1048576: true; the input reads as it did. -/
def deltaDecodesUptoRow : OpenClaim := { program := "ytiboiociaedocaa", sum := "dc26d343e91351bcffb4941223b0319c3371b41ff1222b224fbe41d3ed8a6809", func := "hawser/hawserlaw08.DeltaDecodes", spec := "deltaDecodes", unfollowed := true, recurses := true, apart := false, narrowed := true }
def DeltaDecodesUptoSaid : Prop := deltaDecodesUptoRow.holds Try.pinned (OpenSpec.upto deltaDecodesSpec)

/-- 'hawserlaw08.DeltaSplits', WHERE WHAT IT READS IS OF BULK AT MOST 1048576: true; the input reads as it did. -/
def deltaSplitsUptoRow : OpenClaim := { program := "ytiboiociaedocaa", sum := "dc26d343e91351bcffb4941223b0319c3371b41ff1222b224fbe41d3ed8a6809", func := "hawser/hawserlaw08.DeltaSplits", spec := "deltaSplits", unfollowed := true, recurses := true, apart := false, narrowed := true }
def DeltaSplitsUptoSaid : Prop := deltaSplitsUptoRow.holds Try.pinned (OpenSpec.upto deltaSplitsSpec)

/-- 'hawserlaw08.DeltaRound', WHERE WHAT IT READS IS OF BULK AT MOST 1048576: true; the input reads as it did. -/
def deltaRoundUptoRow : OpenClaim := { program := "ytiboiociaedocaa", sum := "dc26d343e91351bcffb4941223b0319c3371b41ff1222b224fbe41d3ed8a6809", func := "hawser/hawserlaw08.DeltaRound", spec := "deltaRound", unfollowed := true, recurses := true, apart := false, narrowed := true }
def DeltaRoundUptoSaid : Prop := deltaRoundUptoRow.holds Try.pinned (OpenSpec.upto deltaRoundSpec)

/-- 'hawserlaw08.DeltaCanon', WHERE WHAT IT READS IS OF BULK AT MOST 1048576: true; the input reads as it did. -/
def deltaCanonUptoRow : OpenClaim := { program := "ytiboiociaedocaa", sum := "dc26d343e91351bcffb4941223b0319c3371b41ff1222b224fbe41d3ed8a6809", func := "hawser/hawserlaw08.DeltaCanon", spec := "deltaCanon", unfollowed := true, recurses := true, apart := false, narrowed := true }
def DeltaCanonUptoSaid : Prop := deltaCanonUptoRow.holds Try.pinned (OpenSpec.upto deltaCanonSpec)

end Rows
end Go.Proofs.Ytiboiociaedocaa
