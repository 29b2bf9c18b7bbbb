/-
  No cell of these rows narrows 'for every input' (looked for: loops, veiled, ifaces, maps, wideKeys, modest, calm, conditions, laid).
  DERIVED. THE GIVEN ROWS OF THIS SEAT. 5 by the template 'for every input the law returns true; each argument reads behind the call as it read before'; 0 by the template 'total and deterministic' (their statements: YtdjkhgobpfhblaaTotals.lean).
  GIVEN WITH THE SEED: the statements are not yours to turn. If you find one false, say at which input.
  Laid BY PROGRAM, IN A SANDBOX (cutbox-rows.mjs): the forced cells as the released guide's own fill.sh prints them over the translation d85c8054e676a4f2… (all of the seat's roots in one cut). By AI agents, Wed Nov 11 2026. No macro, syntax, notation, axiom, sorry.
-/
import Derived.Test.YtdjkhgobpfhblaaChecked
import GoSem.Claim
import GoSem.ClaimJoined
import GoSem.ClaimMapViews
import Derived.JoinedTies
import Derived.KernelRfl
namespace Go.Proofs.Ytdjkhgobpfhblaa
/- THE CELL 'sum', in the pinned program and in every row, IS THE sha256 OF THE DUMP (.gsa) THAT YtdjkhgobpfhblaaProg.lean LOADS. Nothing in Lean hashes anything: it is a label: what it is worth is what the hold of that sum in a sandbox is worth. -/
noncomputable def Try.pinned : Pinned := { name := "ytdjkhgobpfhblaa", sum := "d85c8054e676a4f2b13c0219576801beca64062f04b8ea4748fc39ffdf5dc9d7", checked := Try.checked }
namespace Rows
def none {H : Type} : Left H := { results := [], args := [] }

/-- 'hawserlaw14.VersNames': WHATEVER THE INPUT: true; the input reads as it did. -/
def versNamesSpec : ChangeSpec := { name := "versNames", fn := fun _ => fun
  | [] => { results := [.lit (.bool true)], args := [] }
  | _ => none }
def versNamesRow : OpenClaim := { program := "ytdjkhgobpfhblaa", sum := "d85c8054e676a4f2b13c0219576801beca64062f04b8ea4748fc39ffdf5dc9d7", func := "hawser/hawserlaw14.VersNames", spec := "versNames", apart := false }
def VersNamesSaid : Prop := versNamesRow.holds Try.pinned (OpenSpec.ofChange versNamesSpec)

/-- ITS FALSE NEIGHBOUR: 'it returns false'. Refute it at one input. -/
def versNamesWrong : ChangeSpec := { name := "versNames", fn := fun _ => fun
  | [] => { results := [.lit (.bool false)], args := [] }
  | _ => none }
def VersNamesWrongFalsely : Prop := versNamesRow.holds Try.pinned (OpenSpec.ofChange versNamesWrong)

/-- 'hawserlaw14.VersOwn': WHATEVER THE INPUT: true; the input reads as it did. -/
def versOwnSpec : ChangeSpec := { name := "versOwn", fn := fun _ => fun
  | [d] => { results := [.lit (.bool true)], args := [d] }
  | _ => none }
def versOwnRow : OpenClaim := { program := "ytdjkhgobpfhblaa", sum := "d85c8054e676a4f2b13c0219576801beca64062f04b8ea4748fc39ffdf5dc9d7", func := "hawser/hawserlaw14.VersOwn", spec := "versOwn", unfollowed := true, recurses := true, apart := false }
def VersOwnSaid : Prop := versOwnRow.holds Try.pinned (OpenSpec.ofChange versOwnSpec)

/-- ITS FALSE NEIGHBOUR: 'it returns false'. Refute it at one input. -/
def versOwnWrong : ChangeSpec := { name := "versOwn", fn := fun _ => fun
  | [d] => { results := [.lit (.bool false)], args := [d] }
  | _ => none }
def VersOwnWrongFalsely : Prop := versOwnRow.holds Try.pinned (OpenSpec.ofChange versOwnWrong)

/-- 'hawserlaw14.VersNone': WHATEVER THE INPUT: true; the input reads as it did. -/
def versNoneSpec : ChangeSpec := { name := "versNone", fn := fun _ => fun
  | [d1, d2] => { results := [.lit (.bool true)], args := [d1, d2] }
  | _ => none }
def versNoneRow : OpenClaim := { program := "ytdjkhgobpfhblaa", sum := "d85c8054e676a4f2b13c0219576801beca64062f04b8ea4748fc39ffdf5dc9d7", func := "hawser/hawserlaw14.VersNone", spec := "versNone", unfollowed := true, recurses := true, apart := false }
def VersNoneSaid : Prop := versNoneRow.holds Try.pinned (OpenSpec.ofChange versNoneSpec)

/-- ITS FALSE NEIGHBOUR: 'it returns false'. Refute it at one input. -/
def versNoneWrong : ChangeSpec := { name := "versNone", fn := fun _ => fun
  | [d1, d2] => { results := [.lit (.bool false)], args := [d1, d2] }
  | _ => none }
def VersNoneWrongFalsely : Prop := versNoneRow.holds Try.pinned (OpenSpec.ofChange versNoneWrong)

/-- 'hawserlaw14.VersCommits': WHATEVER THE INPUT: true; the input reads as it did. -/
def versCommitsSpec : ChangeSpec := { name := "versCommits", fn := fun _ => fun
  | [d1, d2] => { results := [.lit (.bool true)], args := [d1, d2] }
  | _ => none }
def versCommitsRow : OpenClaim := { program := "ytdjkhgobpfhblaa", sum := "d85c8054e676a4f2b13c0219576801beca64062f04b8ea4748fc39ffdf5dc9d7", func := "hawser/hawserlaw14.VersCommits", spec := "versCommits", unfollowed := true, recurses := true, apart := false }
def VersCommitsSaid : Prop := versCommitsRow.holds Try.pinned (OpenSpec.ofChange versCommitsSpec)

/-- ITS FALSE NEIGHBOUR: 'it returns false'. Refute it at one input. -/
def versCommitsWrong : ChangeSpec := { name := "versCommits", fn := fun _ => fun
  | [d1, d2] => { results := [.lit (.bool false)], args := [d1, d2] }
  | _ => none }
def VersCommitsWrongFalsely : Prop := versCommitsRow.holds Try.pinned (OpenSpec.ofChange versCommitsWrong)

/-- 'hawserlaw14.VersClean': WHATEVER THE INPUT: true; the input reads as it did. -/
def versCleanSpec : ChangeSpec := { name := "versClean", fn := fun _ => fun
  | [d1, d2, d3] => { results := [.lit (.bool true)], args := [d1, d2, d3] }
  | _ => none }
def versCleanRow : OpenClaim := { program := "ytdjkhgobpfhblaa", sum := "d85c8054e676a4f2b13c0219576801beca64062f04b8ea4748fc39ffdf5dc9d7", func := "hawser/hawserlaw14.VersClean", spec := "versClean", unfollowed := true, recurses := true, apart := false }
def VersCleanSaid : Prop := versCleanRow.holds Try.pinned (OpenSpec.ofChange versCleanSpec)

/-- ITS FALSE NEIGHBOUR: 'it returns false'. Refute it at one input. -/
def versCleanWrong : ChangeSpec := { name := "versClean", fn := fun _ => fun
  | [d1, d2, d3] => { results := [.lit (.bool false)], args := [d1, d2, d3] }
  | _ => none }
def VersCleanWrongFalsely : Prop := versCleanRow.holds Try.pinned (OpenSpec.ofChange versCleanWrong)

/- THE SECOND FORM. 'bulk': how many values and letters a reading holds, each counted each time it is reached (what is shared counts as often as it is met; a slice's spare places count too). A statement '..UptoSaid' is the law's where the arguments, and the package variables that the reading takes, are together of bulk at most 1048576: NARROWER than '..Said'. Prove '..Said' where nothing that the law and all that it calls make is longer than what came in: it says more and counts as full. Else prove '..UptoSaid'. A law counts once. -/
mutual
def uptoBulk {H : Type} : DataW H → Nat
  | .lit (.string bytes) => bytes.length + 1
  | .lit _ => 1
  | .nil => 1
  | .ptr d => uptoBulk d + 1
  | .slice elems spare => uptoBulkAll elems + uptoBulkAll spare + 1
  | .agg parts => uptoBulkAll parts + 1
  | .iface _ d => uptoBulk d + 1
  | .map entries => uptoBulkEntries entries + 1
  | .held _ => 1
def uptoBulkAll {H : Type} : List (DataW H) → Nat
  | [] => 0
  | d :: r => uptoBulk d + uptoBulkAll r
def uptoBulkEntries {H : Type} : List (Lit × DataW H) → Nat
  | [] => 0
  | x :: r => uptoBulkEntry x + uptoBulkEntries r
def uptoBulkEntry {H : Type} : Lit × DataW H → Nat
  | (.string bytes, d) => bytes.length + uptoBulk d + 1
  | (_, d) => uptoBulk d + 1
 end
def uptoSmall : (H : Type) → List (DataW H) → Bool := fun _ ds => decide (uptoBulkAll ds ≤ 1048576)
def OpenSpec.upto (s : _root_.Go.ChangeSpec) : _root_.Go.OpenSpec := { _root_.Go.OpenSpec.ofChange s with cond := some uptoSmall }

/-- 'hawserlaw14.VersNames', WHERE WHAT IT READS IS OF BULK AT MOST 1048576: true; the input reads as it did. -/
def versNamesUptoRow : OpenClaim := { program := "ytdjkhgobpfhblaa", sum := "d85c8054e676a4f2b13c0219576801beca64062f04b8ea4748fc39ffdf5dc9d7", func := "hawser/hawserlaw14.VersNames", spec := "versNames", apart := false, narrowed := true }
def VersNamesUptoSaid : Prop := versNamesUptoRow.holds Try.pinned (OpenSpec.upto versNamesSpec)

/-- 'hawserlaw14.VersOwn', WHERE WHAT IT READS IS OF BULK AT MOST 1048576: true; the input reads as it did. -/
def versOwnUptoRow : OpenClaim := { program := "ytdjkhgobpfhblaa", sum := "d85c8054e676a4f2b13c0219576801beca64062f04b8ea4748fc39ffdf5dc9d7", func := "hawser/hawserlaw14.VersOwn", spec := "versOwn", unfollowed := true, recurses := true, apart := false, narrowed := true }
def VersOwnUptoSaid : Prop := versOwnUptoRow.holds Try.pinned (OpenSpec.upto versOwnSpec)

/-- 'hawserlaw14.VersNone', WHERE WHAT IT READS IS OF BULK AT MOST 1048576: true; the input reads as it did. -/
def versNoneUptoRow : OpenClaim := { program := "ytdjkhgobpfhblaa", sum := "d85c8054e676a4f2b13c0219576801beca64062f04b8ea4748fc39ffdf5dc9d7", func := "hawser/hawserlaw14.VersNone", spec := "versNone", unfollowed := true, recurses := true, apart := false, narrowed := true }
def VersNoneUptoSaid : Prop := versNoneUptoRow.holds Try.pinned (OpenSpec.upto versNoneSpec)

/-- 'hawserlaw14.VersCommits', WHERE WHAT IT READS IS OF BULK AT MOST 1048576: true; the input reads as it did. -/
def versCommitsUptoRow : OpenClaim := { program := "ytdjkhgobpfhblaa", sum := "d85c8054e676a4f2b13c0219576801beca64062f04b8ea4748fc39ffdf5dc9d7", func := "hawser/hawserlaw14.VersCommits", spec := "versCommits", unfollowed := true, recurses := true, apart := false, narrowed := true }
def VersCommitsUptoSaid : Prop := versCommitsUptoRow.holds Try.pinned (OpenSpec.upto versCommitsSpec)

/-- 'hawserlaw14.VersClean', WHERE WHAT IT READS IS OF BULK AT MOST 1048576: true; the input reads as it did. -/
def versCleanUptoRow : OpenClaim := { program := "ytdjkhgobpfhblaa", sum := "d85c8054e676a4f2b13c0219576801beca64062f04b8ea4748fc39ffdf5dc9d7", func := "hawser/hawserlaw14.VersClean", spec := "versClean", unfollowed := true, recurses := true, apart := false, narrowed := true }
def VersCleanUptoSaid : Prop := versCleanUptoRow.holds Try.pinned (OpenSpec.upto versCleanSpec)

end Rows
end Go.Proofs.Ytdjkhgobpfhblaa
