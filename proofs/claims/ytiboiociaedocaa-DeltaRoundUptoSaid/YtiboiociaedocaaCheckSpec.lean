/- What Check and CheckUpdate answer, in plain words. -/
import Derived.Test.YtiboiociaedocaaKinds
set_option linter.unusedVariables false
set_option linter.unusedSimpArgs false
namespace Go.Proofs.Ytiboiociaedocaa.Chk
open Go.RowKit Go.Proofs.Ytiboiociaedocaa.Opn Go.Proofs.YtiboiociaedocaaW.PrintWords

def inB (n lo hi : Int) : Bool := decide (lo ≤ n) && decide (n ≤ hi)
def isUserB (k : ByteArray) : Bool := decide (1 ≤ (k.size : Int)) && (decide ((k.size : Int) ≤ 1024) && (bt k 0 != 0))
def checkOp (o : OpT) : Int :=
  if o.1 < 1 ∨ o.1 > 3 then 80 else if isUserB o.2.1 = false then 81 else if (o.2.2.1.size : Int) > 65536 ∨ (o.1 = 2 ∧ o.2.2.1.toList ≠ []) then 82
  else if o.2.2.2 < 0 ∨ o.2.2.2 > 1152921504606846976 ∨ (o.1 ≠ 3 ∧ o.2.2.2 ≠ 0) then 84 else 0
def checkUpd (u : UpdT) : Int :=
  if u.1 < 1 ∨ u.1 > 1152921504606846976 then 85 else if u.2.1 < 1 ∨ u.2.1 > 16 then 83 else if u.2.2.1 < 1 ∨ u.2.2.1 > 1152921504606846976 then 84 else checkOp u.2.2.2
end Go.Proofs.Ytiboiociaedocaa.Chk
