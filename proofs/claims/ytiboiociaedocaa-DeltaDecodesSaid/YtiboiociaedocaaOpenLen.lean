/- How long a slice is that the reading let in. -/
import Derived.Test.YtiboiociaedocaaOpen
import Derived.SizedLaws
set_option linter.unusedVariables false
set_option linter.unusedSimpArgs false
namespace Go.Proofs.Ytiboiociaedocaa.Opn
open Go.RowKit Go.ChangeShapes Go.WideShapes Go.Deep Go.Proofs.YtiboiociaedocaaW.PrintWords
theorem arg_len {H : Type} {enc : TypeId × Value → H} {P : Program} {w : World} {base : Nat} {spare : Nat → Bool} {held : Bool} {t e : TypeId} {A : Option Addr} {n c : Nat} {x : DataW H} {q : List MemPlace} (ht : P.underlying t = some (.slice e)) (h : DataW.Trod enc P w base spare held t (.slice A n c) x q) :
    n = 0 ∨ ∃ elems sp, x = .slice elems sp ∧ elems.length = n := by
  obtain ⟨fuel, hf⟩ := h
  rcases open_slice ht hf with ⟨he, _⟩ | ⟨a, len, cap, mm, n', D, Pl, he, hb, hl, hm, hmm, hx, hi⟩
  · left
    simp [Value.cells] at he
    omega
  · right
    simp [Value.cells] at he
    obtain ⟨rfl, rfl, rfl⟩ := he
    simp only [Prod.mk.injEq] at hx
    obtain ⟨rfl, _⟩ := hx
    exact ⟨_, _, rfl, by simp⟩
theorem arg_reach {H : Type} {enc : TypeId × Value → H} {P : Program} {w : World} {base : Nat} {spare : Nat → Bool} {held : Bool} {t e : TypeId} {A : Option Addr} {n c : Nat} {x : DataW H} {q : List MemPlace} {ts : List TypeId} {ds : List (DataW H)} (ht : P.underlying t = some (.slice e)) (h : DataW.Trod enc P w base spare held t (.slice A n c) x q)
    (hsz : (DataW.weightsEach P ts ds).all (· ≤ reachBytes) = true) {j : Nat} (hj : ts[j]? = some t) (hd : ds[j]? = some x) : n * P.bytesOf e ≤ 140737488351232 := by
  rcases arg_len ht h with rfl | ⟨elems, sp, rfl, rfl⟩
  · simp
  · have h1 := sized_slice hsz hj hd ht
    have h2 : elems.length * P.bytesOf e ≤ (elems.length + sp.length) * P.bytesOf e := Nat.mul_le_mul_right _ (by omega)
    have h3 : reachBytes = 140737488351232 := by decide
    omega
end Go.Proofs.Ytiboiociaedocaa.Opn
