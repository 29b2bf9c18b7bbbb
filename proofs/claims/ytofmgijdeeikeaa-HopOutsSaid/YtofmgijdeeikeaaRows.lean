/-
  No cell of these rows narrows 'for every input' (looked for: loops, veiled, ifaces, maps, wideKeys, modest, calm, conditions, laid).
  DERIVED. THE GIVEN ROWS OF THIS SEAT. 7 by the template 'for every input the law returns true; each argument reads behind the call as it read before'; 0 by the template 'total and deterministic' (their statements: YtofmgijdeeikeaaTotals.lean).
  GIVEN WITH THE SEED: the statements are not yours to turn. If you find one false, say at which input.
  Laid BY PROGRAM, IN A SANDBOX (cutbox-rows.mjs): the forced cells as the released guide's own fill.sh prints them over the translation 801e78ad66d274f3… (all of the seat's roots in one cut). By AI agents, Wed Nov 11 2026. No macro, syntax, notation, axiom, sorry.
-/
import Derived.Test.YtofmgijdeeikeaaChecked
import GoSem.Claim
import GoSem.ClaimJoined
import GoSem.ClaimMapViews
import Derived.JoinedTies
import Derived.KernelRfl
namespace Go.Proofs.Ytofmgijdeeikeaa
/- THE CELL 'sum', in the pinned program and in every row, IS THE sha256 OF THE DUMP (.gsa) THAT YtofmgijdeeikeaaProg.lean LOADS. Nothing in Lean hashes anything: it is a label: what it is worth is what the hold of that sum in a sandbox is worth. -/
noncomputable def Try.pinned : Pinned := { name := "ytofmgijdeeikeaa", sum := "801e78ad66d274f33780f0a0fe96d0bcaebaf4fa71e8db2c48d0288912cf2ae3", checked := Try.checked }
namespace Rows
def none {H : Type} : Left H := { results := [], args := [] }

/-- 'hawserlaw19.HopInOrder': WHATEVER THE INPUT: true; the input reads as it did. -/
def hopInOrderSpec : ChangeSpec := { name := "hopInOrder", fn := fun _ => fun
  | [d1, d2] => { results := [.lit (.bool true)], args := [d1, d2] }
  | _ => none }
def hopInOrderRow : OpenClaim := { program := "ytofmgijdeeikeaa", sum := "801e78ad66d274f33780f0a0fe96d0bcaebaf4fa71e8db2c48d0288912cf2ae3", func := "hawser/hawserlaw19.HopInOrder", spec := "hopInOrder", unfollowed := true, recurses := true, apart := false }
def HopInOrderSaid : Prop := hopInOrderRow.holds Try.pinned (OpenSpec.ofChange hopInOrderSpec)

/-- ITS FALSE NEIGHBOUR: 'it returns false'. Refute it at one input. -/
def hopInOrderWrong : ChangeSpec := { name := "hopInOrder", fn := fun _ => fun
  | [d1, d2] => { results := [.lit (.bool false)], args := [d1, d2] }
  | _ => none }
def HopInOrderWrongFalsely : Prop := hopInOrderRow.holds Try.pinned (OpenSpec.ofChange hopInOrderWrong)

/-- 'hawserlaw19.HopNames': WHATEVER THE INPUT: true; the input reads as it did. -/
def hopNamesSpec : ChangeSpec := { name := "hopNames", fn := fun _ => fun
  | [] => { results := [.lit (.bool true)], args := [] }
  | _ => none }
def hopNamesRow : OpenClaim := { program := "ytofmgijdeeikeaa", sum := "801e78ad66d274f33780f0a0fe96d0bcaebaf4fa71e8db2c48d0288912cf2ae3", func := "hawser/hawserlaw19.HopNames", spec := "hopNames", unfollowed := true, recurses := true, apart := false }
def HopNamesSaid : Prop := hopNamesRow.holds Try.pinned (OpenSpec.ofChange hopNamesSpec)

/-- ITS FALSE NEIGHBOUR: 'it returns false'. Refute it at one input. -/
def hopNamesWrong : ChangeSpec := { name := "hopNames", fn := fun _ => fun
  | [] => { results := [.lit (.bool false)], args := [] }
  | _ => none }
def HopNamesWrongFalsely : Prop := hopNamesRow.holds Try.pinned (OpenSpec.ofChange hopNamesWrong)

/-- 'hawserlaw19.HopNews': WHATEVER THE INPUT: true; the input reads as it did. -/
def hopNewsSpec : ChangeSpec := { name := "hopNews", fn := fun _ => fun
  | [d1, d2] => { results := [.lit (.bool true)], args := [d1, d2] }
  | _ => none }
def hopNewsRow : OpenClaim := { program := "ytofmgijdeeikeaa", sum := "801e78ad66d274f33780f0a0fe96d0bcaebaf4fa71e8db2c48d0288912cf2ae3", func := "hawser/hawserlaw19.HopNews", spec := "hopNews", unfollowed := true, recurses := true, apart := false }
def HopNewsSaid : Prop := hopNewsRow.holds Try.pinned (OpenSpec.ofChange hopNewsSpec)

/-- ITS FALSE NEIGHBOUR: 'it returns false'. Refute it at one input. -/
def hopNewsWrong : ChangeSpec := { name := "hopNews", fn := fun _ => fun
  | [d1, d2] => { results := [.lit (.bool false)], args := [d1, d2] }
  | _ => none }
def HopNewsWrongFalsely : Prop := hopNewsRow.holds Try.pinned (OpenSpec.ofChange hopNewsWrong)

/-- 'hawserlaw19.HopOuts': WHATEVER THE INPUT: true; the input reads as it did. -/
def hopOutsSpec : ChangeSpec := { name := "hopOuts", fn := fun _ => fun
  | [d1, d2] => { results := [.lit (.bool true)], args := [d1, d2] }
  | _ => none }
def hopOutsRow : OpenClaim := { program := "ytofmgijdeeikeaa", sum := "801e78ad66d274f33780f0a0fe96d0bcaebaf4fa71e8db2c48d0288912cf2ae3", func := "hawser/hawserlaw19.HopOuts", spec := "hopOuts", unfollowed := true, recurses := true, apart := false }
def HopOutsSaid : Prop := hopOutsRow.holds Try.pinned (OpenSpec.ofChange hopOutsSpec)

/-- ITS FALSE NEIGHBOUR: 'it returns false'. Refute it at one input. -/
def hopOutsWrong : ChangeSpec := { name := "hopOuts", fn := fun _ => fun
  | [d1, d2] => { results := [.lit (.bool false)], args := [d1, d2] }
  | _ => none }
def HopOutsWrongFalsely : Prop := hopOutsRow.holds Try.pinned (OpenSpec.ofChange hopOutsWrong)

/-- 'hawserlaw19.HopIns': WHATEVER THE INPUT: true; the input reads as it did. -/
def hopInsSpec : ChangeSpec := { name := "hopIns", fn := fun _ => fun
  | [d1, d2] => { results := [.lit (.bool true)], args := [d1, d2] }
  | _ => none }
def hopInsRow : OpenClaim := { program := "ytofmgijdeeikeaa", sum := "801e78ad66d274f33780f0a0fe96d0bcaebaf4fa71e8db2c48d0288912cf2ae3", func := "hawser/hawserlaw19.HopIns", spec := "hopIns", unfollowed := true, recurses := true, apart := false }
def HopInsSaid : Prop := hopInsRow.holds Try.pinned (OpenSpec.ofChange hopInsSpec)

/-- ITS FALSE NEIGHBOUR: 'it returns false'. Refute it at one input. -/
def hopInsWrong : ChangeSpec := { name := "hopIns", fn := fun _ => fun
  | [d1, d2] => { results := [.lit (.bool false)], args := [d1, d2] }
  | _ => none }
def HopInsWrongFalsely : Prop := hopInsRow.holds Try.pinned (OpenSpec.ofChange hopInsWrong)

/-- 'hawserlaw19.HopMade': WHATEVER THE INPUT: true; the input reads as it did. -/
def hopMadeSpec : ChangeSpec := { name := "hopMade", fn := fun _ => fun
  | [d1, d2] => { results := [.lit (.bool true)], args := [d1, d2] }
  | _ => none }
def hopMadeRow : OpenClaim := { program := "ytofmgijdeeikeaa", sum := "801e78ad66d274f33780f0a0fe96d0bcaebaf4fa71e8db2c48d0288912cf2ae3", func := "hawser/hawserlaw19.HopMade", spec := "hopMade", unfollowed := true, recurses := true, apart := false }
def HopMadeSaid : Prop := hopMadeRow.holds Try.pinned (OpenSpec.ofChange hopMadeSpec)

/-- ITS FALSE NEIGHBOUR: 'it returns false'. Refute it at one input. -/
def hopMadeWrong : ChangeSpec := { name := "hopMade", fn := fun _ => fun
  | [d1, d2] => { results := [.lit (.bool false)], args := [d1, d2] }
  | _ => none }
def HopMadeWrongFalsely : Prop := hopMadeRow.holds Try.pinned (OpenSpec.ofChange hopMadeWrong)

/-- 'hawserlaw19.HopThrough': WHATEVER THE INPUT: true; the input reads as it did. -/
def hopThroughSpec : ChangeSpec := { name := "hopThrough", fn := fun _ => fun
  | [d1, d2, d3] => { results := [.lit (.bool true)], args := [d1, d2, d3] }
  | _ => none }
def hopThroughRow : OpenClaim := { program := "ytofmgijdeeikeaa", sum := "801e78ad66d274f33780f0a0fe96d0bcaebaf4fa71e8db2c48d0288912cf2ae3", func := "hawser/hawserlaw19.HopThrough", spec := "hopThrough", unfollowed := true, recurses := true, apart := false }
def HopThroughSaid : Prop := hopThroughRow.holds Try.pinned (OpenSpec.ofChange hopThroughSpec)

/-- ITS FALSE NEIGHBOUR: 'it returns false'. Refute it at one input. -/
def hopThroughWrong : ChangeSpec := { name := "hopThrough", fn := fun _ => fun
  | [d1, d2, d3] => { results := [.lit (.bool false)], args := [d1, d2, d3] }
  | _ => none }
def HopThroughWrongFalsely : Prop := hopThroughRow.holds Try.pinned (OpenSpec.ofChange hopThroughWrong)

/- THE SECOND FORM. 'bulk': how many values and letters a reading holds, each counted each time it is reached (what is shared counts as often as it is met; a slice's spare places count too). A statement '..UptoSaid' is the law's where the arguments, and the package variables that the reading takes, are together of bulk at most 1048576: NARROWER than '..Said'. Prove '..Said' where nothing that the law and all that it calls make is longer than what came in: it says more and counts as full. Else prove '..UptoSaid'. A law counts once. -/
mutual
def uptoBulk {H : Type} : DataW H → Nat
  | .lit (.string bytes) => bytes.length + 1
  | .lit _ => 1
  | .nil => 1
  | .ptr d => uptoBulk d + 1
  | .slice elems spare => uptoBulkAll elems + uptoBulkAll spare + 1
  | .agg parts => uptoBulkAll parts + 1
  | .iface _ d => uptoBulk d + 1
  | .map entries => uptoBulkEntries entries + 1
  | .held _ => 1
def uptoBulkAll {H : Type} : List (DataW H) → Nat
  | [] => 0
  | d :: r => uptoBulk d + uptoBulkAll r
def uptoBulkEntries {H : Type} : List (Lit × DataW H) → Nat
  | [] => 0
  | x :: r => uptoBulkEntry x + uptoBulkEntries r
def uptoBulkEntry {H : Type} : Lit × DataW H → Nat
  | (.string bytes, d) => bytes.length + uptoBulk d + 1
  | (_, d) => uptoBulk d + 1
 end
def uptoSmall : (H : Type) → List (DataW H) → Bool := fun _ ds => decide (uptoBulkAll ds ≤ 1048576)
def OpenSpec.upto (s : _root_.Go.ChangeSpec) : _root_.Go.OpenSpec := { _root_.Go.OpenSpec.ofChange s with cond := some uptoSmall }

/-- 'hawserlaw19.HopInOrder', WHERE WHAT IT READS IS OF BULK AT MOST 1048576: true; the input reads as it did. -/
def hopInOrderUptoRow : OpenClaim := { program := "ytofmgijdeeikeaa", sum := "801e78ad66d274f33780f0a0fe96d0bcaebaf4fa71e8db2c48d0288912cf2ae3", func := "hawser/hawserlaw19.HopInOrder", spec := "hopInOrder", unfollowed := true, recurses := true, apart := false, narrowed := true }
def HopInOrderUptoSaid : Prop := hopInOrderUptoRow.holds Try.pinned (OpenSpec.upto hopInOrderSpec)

/-- 'hawserlaw19.HopNames', WHERE WHAT IT READS IS OF BULK AT MOST 1048576: true; the input reads as it did. -/
def hopNamesUptoRow : OpenClaim := { program := "ytofmgijdeeikeaa", sum := "801e78ad66d274f33780f0a0fe96d0bcaebaf4fa71e8db2c48d0288912cf2ae3", func := "hawser/hawserlaw19.HopNames", spec := "hopNames", unfollowed := true, recurses := true, apart := false, narrowed := true }
def HopNamesUptoSaid : Prop := hopNamesUptoRow.holds Try.pinned (OpenSpec.upto hopNamesSpec)

/-- 'hawserlaw19.HopNews', WHERE WHAT IT READS IS OF BULK AT MOST 1048576: true; the input reads as it did. -/
def hopNewsUptoRow : OpenClaim := { program := "ytofmgijdeeikeaa", sum := "801e78ad66d274f33780f0a0fe96d0bcaebaf4fa71e8db2c48d0288912cf2ae3", func := "hawser/hawserlaw19.HopNews", spec := "hopNews", unfollowed := true, recurses := true, apart := false, narrowed := true }
def HopNewsUptoSaid : Prop := hopNewsUptoRow.holds Try.pinned (OpenSpec.upto hopNewsSpec)

/-- 'hawserlaw19.HopOuts', WHERE WHAT IT READS IS OF BULK AT MOST 1048576: true; the input reads as it did. -/
def hopOutsUptoRow : OpenClaim := { program := "ytofmgijdeeikeaa", sum := "801e78ad66d274f33780f0a0fe96d0bcaebaf4fa71e8db2c48d0288912cf2ae3", func := "hawser/hawserlaw19.HopOuts", spec := "hopOuts", unfollowed := true, recurses := true, apart := false, narrowed := true }
def HopOutsUptoSaid : Prop := hopOutsUptoRow.holds Try.pinned (OpenSpec.upto hopOutsSpec)

/-- 'hawserlaw19.HopIns', WHERE WHAT IT READS IS OF BULK AT MOST 1048576: true; the input reads as it did. -/
def hopInsUptoRow : OpenClaim := { program := "ytofmgijdeeikeaa", sum := "801e78ad66d274f33780f0a0fe96d0bcaebaf4fa71e8db2c48d0288912cf2ae3", func := "hawser/hawserlaw19.HopIns", spec := "hopIns", unfollowed := true, recurses := true, apart := false, narrowed := true }
def HopInsUptoSaid : Prop := hopInsUptoRow.holds Try.pinned (OpenSpec.upto hopInsSpec)

/-- 'hawserlaw19.HopMade', WHERE WHAT IT READS IS OF BULK AT MOST 1048576: true; the input reads as it did. -/
def hopMadeUptoRow : OpenClaim := { program := "ytofmgijdeeikeaa", sum := "801e78ad66d274f33780f0a0fe96d0bcaebaf4fa71e8db2c48d0288912cf2ae3", func := "hawser/hawserlaw19.HopMade", spec := "hopMade", unfollowed := true, recurses := true, apart := false, narrowed := true }
def HopMadeUptoSaid : Prop := hopMadeUptoRow.holds Try.pinned (OpenSpec.upto hopMadeSpec)

/-- 'hawserlaw19.HopThrough', WHERE WHAT IT READS IS OF BULK AT MOST 1048576: true; the input reads as it did. -/
def hopThroughUptoRow : OpenClaim := { program := "ytofmgijdeeikeaa", sum := "801e78ad66d274f33780f0a0fe96d0bcaebaf4fa71e8db2c48d0288912cf2ae3", func := "hawser/hawserlaw19.HopThrough", spec := "hopThrough", unfollowed := true, recurses := true, apart := false, narrowed := true }
def HopThroughUptoSaid : Prop := hopThroughUptoRow.holds Try.pinned (OpenSpec.upto hopThroughSpec)

end Rows
end Go.Proofs.Ytofmgijdeeikeaa
