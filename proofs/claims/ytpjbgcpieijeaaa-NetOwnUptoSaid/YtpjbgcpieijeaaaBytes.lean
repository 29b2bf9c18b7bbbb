/- Rows of bytes of the call's own: by kinds and as owned rows. -/
import Derived.Test.YtpjbgcpieijeaaaProg
import Derived.Test.YtpjbgcpieijeaaaWWords
import Derived.Test.YtpjbgcpieijeaaaWKept
import Derived.Test.YtpjbgcpieijeaaaMem
import Derived.KernelRfl
set_option linter.unusedVariables false
set_option linter.unusedSimpArgs false
namespace Go.Proofs.Ytpjbgcpieijeaaa.Byt
open Go.RowKit Go.Proofs.YtpjbgcpieijeaaaW.PrintWords Go.Proofs.Ytpjbgcpieijeaaa.Mem
theorem info_u8 : (Try.prog.info? 5).map (fun i => (i.zero, i.size, i.bytes)) = some (some (.int .u8 0), 1, 1) := by kernel_rfl
section
variable {w : World} {base : Nat} {ok : Nat → Prop} {k : IntKind} {e : Nat} {v : Value} {xs : List Int}
theorem reps_nums : ∀ {xs : List Int} {cs : List Value}, Reps (fun (x : Int) (c : List Value) => c = [Value.int k x]) 1 xs cs → cs = nums k xs := by
  intro xs cs h
  obtain ⟨hl, hp⟩ := h
  apply List.ext_getElem?
  intro j
  rcases Nat.lt_or_ge j xs.length with hj | hj
  · have h1 := hp j xs[j] (List.getElem?_eq_getElem hj)
    rw [Nat.mul_one] at h1
    have h2 : ((cs.drop j).take 1)[0]? = some (Value.int k xs[j]) := by rw [h1]; rfl
    rw [List.getElem?_take_of_lt (by omega), List.getElem?_drop] at h2
    rw [nums, List.getElem?_map, List.getElem?_eq_getElem hj]
    simpa using h2
  · rw [List.getElem?_eq_none (by omega), List.getElem?_eq_none (by rw [nums_length]; omega)]
theorem nums_reps (xs : List Int) : Reps (fun (x : Int) (c : List Value) => c = [Value.int k x]) 1 xs (nums k xs) := by
  refine ⟨by rw [nums_length, Nat.mul_one], fun j p hp => ?_⟩
  obtain ⟨hj, rfl⟩ := List.getElem?_eq_some_iff.1 hp
  rw [Nat.mul_one, nums, List.drop_eq_getElem_cons (by simpa using hj)]
  simp
/-- By kinds: as an owned row. -/
theorem owns_of_R (h : (Kd.int k).R e w base ok v xs) : w.ownsRow base e 1 v xs.length (nums k xs) := by
  obtain ⟨_, inner, ho, hr⟩ := h
  have := reps_nums hr
  subst this
  exact ho
theorem R_of_owns (h : w.ownsRow base e 1 v xs.length (nums k xs)) (hok : ∀ k, v.ownBlock = some k → ok k) : (Kd.int k).R e w base ok v xs :=
  ⟨hok, nums k xs, h, nums_reps xs⟩
end
end Go.Proofs.Ytpjbgcpieijeaaa.Byt
