/- The map of what was sent: what a first sending does to it. -/
import Derived.Test.YtpjbgcpieijeaaaNetBase
import Derived.WideKeyEntry
import Derived.DeepKeys3
import Derived.KernelRfl
set_option linter.unusedVariables false
set_option linter.unusedSimpArgs false
namespace Go.Proofs.Ytpjbgcpieijeaaa.Net
open Go.RowKit Go.Proofs.Ytpjbgcpieijeaaa.Mem Go.Proofs.YtpjbgcpieijeaaaW.PrintWords Go.ChangeMaps Go.MapKept Go.ChangeShapes
theorem letterLaw : WideMaps.KeyLaw Try.prog 82 := deep_law (m := 2) (by omega) (by kernel_rfl) (by kernel_rfl) (by kernel_rfl)
abbrev key0 : Value := .agg #[.int .i64 116, .int .i64 8, .string ⟨#[]⟩]
theorem key0_of : ∃ kl, keyOf Try.prog 82 key0 = some kl := Option.isSome_iff_exists.1 (by kernel_rfl)
theorem zero3 (u : World) : (zeroValue 3).run Try.prog u = .ok (.int .i64 0) u := by rfl
abbrev tM : TypeId := 69
section
variable {u : World} {m : Nat}
theorem look_empty (h : u.heap[m]? = some (.map #[] 0)) : (Instr.lookup tM (.map (some m)) key0 false).run Try.prog u = .ok (.int .i64 0) u := by
  obtain ⟨kl, hkey⟩ := key0_of
  rcases letterLaw.find u hkey [] (by simp) with ⟨h1, _⟩ | ⟨j, e, _, h2, _⟩
  · simp [Instr.lookup, run_underlying Try.underlying69, MapKept.run_getObj_map h, letterLaw.check u _ hkey, h1, zero3, Result.andThen]
  · simp at h2
theorem look_entry (h : u.heap[m]? = some (.map #[⟨key0, .int .i64 0, 0⟩] 1)) : (Instr.lookup tM (.map (some m)) key0 false).run Try.prog u = .ok (.int .i64 0) u := by
  obtain ⟨kl, hkey⟩ := key0_of
  rcases letterLaw.find u hkey [⟨key0, .int .i64 0, 0⟩] (fun e he => by rw [List.mem_singleton.1 he]; exact ⟨kl, hkey⟩) with ⟨_, h2⟩ | ⟨j, e, h1, h2, _⟩
  · exact absurd rfl (h2 ⟨key0, .int .i64 0, 0⟩ (List.mem_singleton.2 rfl))
  · have he : e.val = .int .i64 0 := by rw [List.mem_singleton.1 (List.mem_of_getElem? h2)]
    simp [Instr.lookup, run_underlying Try.underlying69, MapKept.run_getObj_map h, letterLaw.check u _ hkey, h1, he, Result.andThen]
theorem entry_empty (h : u.heap[m]? = some (.map #[] 0)) : (Instr.mapEntry tM (.map (some m)) key0).run Try.prog u = .ok (.tuple #[.int .i64 0, goInt 0]) (setBlock u m (.map #[⟨key0, .int .i64 0, 0⟩] 1)) := by
  obtain ⟨kl, hkey⟩ := key0_of
  rcases letterLaw.find u hkey [] (by simp) with ⟨h1, _⟩ | ⟨j, e, _, h2, _⟩
  · simp [Instr.mapEntry, run_underlying Try.underlying69, MapKept.run_getObj_map h, letterLaw.check u _ hkey, h1, zero3, MapKept.run_setObj_map _ h, Result.andThen, setBlock]
  · simp at h2
theorem store_entry (h : u.heap[m]? = some (.map #[⟨key0, .int .i64 0, 0⟩] 1)) (x : Value) : (Instr.entryStore tM (.map (some m)) (goInt 0) x).run Try.prog u = .ok () (setBlock u m (.map #[⟨key0, x, 0⟩] 1)) := by
  have hidx : (#[⟨key0, .int .i64 0, 0⟩] : Array MapEntry).findIdx? (fun e => ((e.born : Nat) : Int) == 0) = some 0 := by simp [Array.findIdx?_eq_some_iff_getElem]
  simp [Instr.entryStore, MapKept.run_getObj_map h, asInt, asIntOf, goInt, hidx, MapKept.run_setObj_map _ h, Result.andThen, setBlock]
theorem set_far {g : Nat} {o o' : Obj} (h : u.heap[g]? = some o) (hne : g ≠ m) : (setBlock u m o').heap[g]? = some o := by
  simp only [setBlock]
  rw [Array.getElem?_setIfInBounds_ne (fun e => hne e.symm)]
  exact h
theorem set_same {o o' : Obj} (h : u.heap[m]? = some o) : (setBlock u m o').heap[m]? = some o' := by
  simp only [setBlock]
  rw [Array.getElem?_setIfInBounds_self_of_lt (blk_lt h)]
theorem below_block {w0 : World} {o : Obj} (h : Below w0.heap.size w0 u) (hm : w0.heap.size ≤ m) : Below w0.heap.size w0 (setBlock u m o) := by
  obtain ⟨h1, h2, h3, h4, h5⟩ := h
  refine ⟨h1, h2, h3, by simpa [setBlock] using h4, fun i hi => ?_⟩
  simp only [setBlock]
  rw [Array.getElem?_setIfInBounds_ne (by omega)]
  exact h5 i hi
end
end Go.Proofs.Ytpjbgcpieijeaaa.Net
