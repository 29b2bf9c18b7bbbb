/- A line's block: what its cells say, and what a store of an update in its place does. -/
import Derived.Test.YtofmgijdeeikeaaProg
import Derived.Test.YtofmgijdeeikeaaMem
import Derived.Test.YtofmgijdeeikeaaWLast
import Derived.WalkKit
import Derived.ProofKit
import Derived.Below
set_option linter.unusedVariables false
set_option linter.unusedSimpArgs false
namespace Go.Proofs.Ytofmgijdeeikeaa.Hop
open Go.RowKit Go.Proofs.Ytofmgijdeeikeaa.Mem Go.Proofs.YtofmgijdeeikeaaW.PrintWords
/-- An update. -/
structure U where
  seq : Int
  client : Int
  number : Int
  kind : Int
  key : ByteArray
  value : ByteArray
  version : Int
def U.zero : U := ⟨0, 0, 0, 0, ⟨#[]⟩, ⟨#[]⟩, 0⟩
def U.cells (u : U) : List Value := [.int .i64 u.seq, .int .i64 u.client, .int .i64 u.number, .int .i64 u.kind, .string u.key, .string u.value, .int .i64 u.version]
abbrev U.val (u : U) : Value := .agg #[.int .i64 u.seq, .int .i64 u.client, .int .i64 u.number, .int .i64 u.kind, .string u.key, .string u.value, .int .i64 u.version]
/-- What a line holds: from, window, in each place an update and whether it is there. -/
structure L where
  from_ : Int
  window : Int
  held : Nat → U
  there : Nat → Bool
  made : Bool
def Held (cs : Array Value) (o : Nat) (u : U) : Prop :=
  cs[o]? = some (.int .i64 u.seq) ∧ cs[o + 1]? = some (.int .i64 u.client) ∧ cs[o + 2]? = some (.int .i64 u.number) ∧ cs[o + 3]? = some (.int .i64 u.kind) ∧ cs[o + 4]? = some (.string u.key) ∧ cs[o + 5]? = some (.string u.value) ∧ cs[o + 6]? = some (.int .i64 u.version)
/-- The cells of a line. -/
structure LineR (cs : Array Value) (l : L) : Prop where
  from_ : cs[0]? = some (.int .i64 l.from_)
  window : cs[1]? = some (.int .i64 l.window)
  held : ∀ k, k < 64 → Held cs (2 + k * 7) (l.held k)
  there : ∀ k, k < 64 → cs[450 + k]? = some (.bool (l.there k))
  made : cs[514]? = some (.bool l.made)
def L.set (l : L) (k : Nat) (u : U) (b : Bool) : L := { l with held := fun j => if j = k then u else l.held j, there := fun j => if j = k then b else l.there j }
/-- An update laid into the cells from o on. -/
def lay (cs : Array Value) (o : Nat) (u : U) : Array Value :=
  ((((((cs.setIfInBounds o (.int .i64 u.seq)).setIfInBounds (o + 1) (.int .i64 u.client)).setIfInBounds (o + 2) (.int .i64 u.number)).setIfInBounds (o + 3) (.int .i64 u.kind)).setIfInBounds (o + 4) (.string u.key)).setIfInBounds (o + 5) (.string u.value)).setIfInBounds (o + 6) (.int .i64 u.version)
theorem lay_size (cs : Array Value) (o : Nat) (u : U) : (lay cs o u).size = cs.size := by simp [lay]
theorem lay_far {cs : Array Value} {o : Nat} {u : U} {j : Nat} (h : j < o ∨ o + 7 ≤ j) : (lay cs o u)[j]? = cs[j]? := by
  simp only [lay, Array.getElem?_setIfInBounds]
  repeat (rw [if_neg (by omega)])
theorem lay_here {cs : Array Value} {o : Nat} {u : U} (h : o + 7 ≤ cs.size) : Held (lay cs o u) o u := by
  simp only [Held, lay]
  refine ⟨?_, ?_, ?_, ?_, ?_, ?_, ?_⟩ <;> simp [Array.getElem?_setIfInBounds] <;> omega
theorem held_far {cs : Array Value} {o o' : Nat} {u v : U} (h : Held cs o' v) (hf : o' + 7 ≤ o ∨ o + 7 ≤ o') : Held (lay cs o u) o' v := by
  obtain ⟨h0, h1, h2, h3, h4, h5, h6⟩ := h
  refine ⟨?_, ?_, ?_, ?_, ?_, ?_, ?_⟩ <;> (rw [lay_far (by omega)]; assumption)
theorem held_set {cs : Array Value} {o j : Nat} {u : U} {v : Value} (h : Held cs o u) (hf : j < o ∨ o + 7 ≤ j) : Held (cs.setIfInBounds j v) o u := by
  obtain ⟨h0, h1, h2, h3, h4, h5, h6⟩ := h
  refine ⟨?_, ?_, ?_, ?_, ?_, ?_, ?_⟩ <;> (rw [Array.getElem?_setIfInBounds_ne (by omega)]; assumption)
/-- Both stores of 'put' and of 'drop'. -/
theorem LineR.put {cs : Array Value} {l : L} (h : LineR cs l) (hs : 515 ≤ cs.size) {k : Nat} (hk : k < 64) (u : U) (b : Bool) : LineR ((lay cs (2 + k * 7) u).setIfInBounds (450 + k) (.bool b)) (l.set k u b) where
  from_ := by rw [Array.getElem?_setIfInBounds_ne (by omega), lay_far (by omega)]; exact h.from_
  window := by rw [Array.getElem?_setIfInBounds_ne (by omega), lay_far (by omega)]; exact h.window
  made := by rw [Array.getElem?_setIfInBounds_ne (by omega), lay_far (by omega)]; exact h.made
  held := fun j hj => by
    refine held_set ?_ (by omega)
    simp only [L.set]
    split
    · rename_i e
      subst e
      exact lay_here (by omega)
    · exact held_far (h.held j hj) (by omega)
  there := fun j hj => by
    simp only [L.set]
    split
    · rename_i e
      subst e
      rw [Array.getElem?_setIfInBounds_self_of_lt (by rw [lay_size]; omega)]
    · rw [Array.getElem?_setIfInBounds_ne (by omega), lay_far (by omega)]
      exact h.there j hj
theorem put_far {cs : Array Value} {k : Nat} (hk : k < 64) {u : U} {b : Bool} {j : Nat} (hj : 514 ≤ j) : ((lay cs (2 + k * 7) u).setIfInBounds (450 + k) (.bool b))[j]? = cs[j]? := by
  rw [Array.getElem?_setIfInBounds_ne (by omega), lay_far (by omega)]
theorem put_size {cs : Array Value} {k : Nat} {u : U} {b : Bool} : ((lay cs (2 + k * 7) u).setIfInBounds (450 + k) (.bool b)).size = cs.size := by
  rw [Array.size_setIfInBounds, lay_size]
theorem LineR.from_set {cs : Array Value} {l : L} (h : LineR cs l) (hs : 515 ≤ cs.size) (f : Int) : LineR (cs.setIfInBounds 0 (.int .i64 f)) { l with from_ := f } where
  from_ := by rw [Array.getElem?_setIfInBounds_self_of_lt (by omega)]
  window := by rw [Array.getElem?_setIfInBounds_ne (by omega)]; exact h.window
  made := by rw [Array.getElem?_setIfInBounds_ne (by omega)]; exact h.made
  held := fun j hj => held_set (h.held j hj) (by omega)
  there := fun j hj => by rw [Array.getElem?_setIfInBounds_ne (by omega)]; exact h.there j hj
theorem LineR.far {cs : Array Value} {l : L} (h : LineR cs l) {j : Nat} (hj : 515 ≤ j) (v : Value) : LineR (cs.setIfInBounds j v) l where
  from_ := by rw [Array.getElem?_setIfInBounds_ne (by omega)]; exact h.from_
  window := by rw [Array.getElem?_setIfInBounds_ne (by omega)]; exact h.window
  made := by rw [Array.getElem?_setIfInBounds_ne (by omega)]; exact h.made
  held := fun k hk => held_set (h.held k hk) (by omega)
  there := fun k hk => by rw [Array.getElem?_setIfInBounds_ne (by omega)]; exact h.there k hk
end Go.Proofs.Ytofmgijdeeikeaa.Hop
